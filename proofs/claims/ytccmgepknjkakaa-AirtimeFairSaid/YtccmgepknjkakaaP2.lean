/- Shares of airtime: what is left to show of picking. -/
import Derived.Test.YtccmgepknjkakaaP
import Derived.Test.YtccmgepknjkakaaC2
namespace Go.Proofs.Ytccmgepknjkakaa
open Go Go.RowKit Go.Proofs.Ytccmgepknjkakaa.Vc
theorem min_st {p : Int → Bool} {a : Int → Nat → Int} {t : Int} (h : p t = false) : setA a t 1 (min (a t 1) 0) = stA (p t) a t := by
  unfold stA; rw [h]; simp
theorem add_st {p : Int → Bool} {a : Int → Nat → Int} {t : Int} (h : p t = true) (h2 : ¬ 0 < a t 1) : setA a t 1 (a t 1 + 1000 * a t 0) = stA (p t) a t := by
  unfold stA; rw [h, if_pos rfl, if_neg h2]
theorem next_st {p : Int → Bool} {a : Int → Nat → Int} {n t : Int} (h0 : 0 ≤ t) (h1 : t < n) (h : cho (p t) a t = false) : Int.tmod (t + 1) n = stT (p t) a n t := by
  have hT : stT (p t) a n t = if t + 1 = n then 0 else t + 1 := by
    unfold stT
    rw [if_neg]
    intro hh
    unfold cho at h
    rw [hh.1] at h
    simp at h
    omega
  rw [hT, tmod_next h0 h1]
theorem bz_iff {b : Int → Nat → Int} {i : Int} : bzP b i = true ↔ ¬ b i 0 = 0 := by unfold bzP; simp
theorem bz_no {b : Int → Nat → Int} {i : Int} : bzP b i = false ↔ b i 0 = 0 := by unfold bzP; simp
theorem no_iff {b : Int → Nat → Int} {i : Int} : noB b i = true ↔ b i 0 = 0 := by unfold noB; simp
theorem no_all {b : Int → Nat → Int} {n : Int} : allI (noB b) n = true ↔ ∀ i, 0 ≤ i → i < n → b i 0 = 0 := ⟨fun h i h0 h1 => no_iff.1 (allI_at h h0 h1), fun h => allI_of fun i h0 h1 => no_iff.2 (h i h0 h1)⟩
theorem cho_iff {b : Bool} {a : Int → Nat → Int} {t : Int} : cho b a t = true ↔ b = true ∧ 0 < a t 1 := by unfold cho; simp
theorem cho_no {b : Bool} {a : Int → Nat → Int} {t : Int} : cho b a t = false ↔ ¬ (b = true ∧ 0 < a t 1) := by rw [← cho_iff]; simp
theorem ckA_okS {a : Int → Nat → Int} {n t : Int} (h : ckA a n t = 0) : 1 ≤ n ∧ n ≤ 32 ∧ 0 ≤ t ∧ t < n ∧ okS a n := ckA_ok h
theorem vc20 : VC20 := by
  intro a n t b m _ hn hm
  have o := @ckA_ok a n t
  have o8 := ckA_08 a n t
  refine ⟨trivial, ?_⟩
  intro e he hN hM
  have hE : pcE a n t b m = if ckA a n t = 0 then if m = n then 0 else 2 else 8 := rfl
  have n1 : pcN a n t b m n = if pcE a n t b m = 0 then n else 0 := rfl
  have n2 : pcW a n t b m = if pcE a n t b m = 0 then if allI (noB b) m = true then -1 else (pk (bzP b) n a t).2 else 0 := rfl
  have n3 : pcT a n t b m = if pcE a n t b m = 0 then if allI (noB b) m = true then t else (pk (bzP b) n a t).2 else 0 := rfl
  have n4 : allI (noB b) m = true → pcA a n t b m = a := fun h => if_pos h
  have n5 : ¬ allI (noB b) m = true → pcA a n t b m = (pk (bzP b) n a t).1 := fun h => if_neg h
  refine ⟨fun h1 => ?_, fun h1 => ⟨fun h2 => ?_, fun h2 => ?_⟩⟩
  · have : ¬ pcE a n t b m = 0 := by rw [hE]; grind
    refine ⟨by grind, by grind, fun i f i0 i1 => ?_, by grind, by grind, trivial⟩
    rw [n1, if_neg this] at i1; omega
  · have : ¬ pcE a n t b m = 0 := by rw [hE]; grind
    refine ⟨by grind, by grind, fun i f i0 i1 => ?_, by grind, by grind, trivial⟩
    rw [n1, if_neg this] at i1; omega
  · have hc : ckA a n t = 0 := by omega
    have hm : m = n := by omega
    subst hm
    have hz : pcE a m t b m = 0 := by rw [hE, if_pos hc, if_pos rfl]
    rw [if_pos hz] at n1 n2 n3
    obtain ⟨c1, c2, c3, c4, c5⟩ := o hc
    refine ⟨by omega, ?_⟩
    intro x k hx hk _ _
    subst hx hk
    refine ⟨fun i => 0 ≤ i ∧ i ≤ k ∧ ∀ j, 0 ≤ j → j < i → b j 0 = 0, fun i => (k - i).toNat, ⟨by omega, by omega, fun j h0 h1 => by omega⟩, ?_⟩
    rintro i ⟨i0, i1, hi⟩
    refine ⟨fun h3 => ⟨i0, fun _ => ⟨fun hb => ?_, fun hb => ?_⟩⟩, fun h3 => ?_⟩
    · -- somebody is busy
      have hno : ¬ allI (noB b) k = true := fun h => hb (no_all.1 h i i0 h3)
      rw [if_neg hno] at n2 n3
      have n5 := n5 hno
      have hp : bzP b i = true := bz_iff.2 hb
      refine ⟨fun y u => PkI (bzP b) k i (y, u) ∧ Rch (pS (bzP b) k) (pD (bzP b)) (x, t) (y, u), fun y u => pM k i (y, u), ⟨⟨c5, c3, c4⟩, Rch.refl _⟩, ?_⟩
      rintro y u ⟨hI, hR⟩
      obtain ⟨ok, t0, t1⟩ := hI
      simp only at ok t0 t1
      have kk := ok.h u t0 t1
      refine ⟨t0, fun _ => ⟨t1, fun _ => ⟨t1, fun _ => ⟨fun hu => ?_, fun hu => ⟨fun hc => ?_, fun hc => ?_⟩⟩⟩⟩⟩
      · have hpu := bz_no.2 hu
        have hd : pD (bzP b) (y, u) = false := cho_no.2 (by rw [hpu]; simp)
        have hst := pk_step c2 i0 h3 hp (y, u) ⟨ok, t0, t1⟩ hd
        have e1 : (setA y u 1 (min (y u 1) 0), Int.tmod (u + 1) k) = pS (bzP b) k (y, u) := by
          rw [min_st hpu, next_st t0 t1 hd]; rfl
        refine ⟨by omega, fun _ => ⟨by omega, fun _ => ?_⟩⟩
        dsimp only
        rw [e1]
        exact ⟨⟨hst.1, hR.tail hd⟩, hst.2⟩
      · have hd : pD (bzP b) (y, u) = true := cho_iff.2 ⟨bz_iff.2 hu, hc⟩
        have hf : pk (bzP b) k x t = (y, u) := fin_eq hR hd
        rw [n2, n3, n1, n5, hf]
        exact ⟨rfl, rfl, fun _ _ _ _ _ => rfl, rfl, by omega, trivial⟩
      · have hpu := bz_iff.2 hu
        have hd : pD (bzP b) (y, u) = false := cho_no.2 (show ¬ (bzP b u = true ∧ 0 < y u 1) from fun h => by omega)
        have hst := pk_step c2 i0 h3 hp (y, u) ⟨ok, t0, t1⟩ hd
        have e1 : (setA y u 1 (y u 1 + 1000 * y u 0), Int.tmod (u + 1) k) = pS (bzP b) k (y, u) := by
          rw [add_st hpu hc, next_st t0 t1 hd]; rfl
        refine ⟨by omega, fun _ => ⟨by omega, fun _ => ⟨by omega, fun _ => ⟨by omega, fun _ => ?_⟩⟩⟩⟩
        dsimp only
        rw [e1]
        exact ⟨⟨hst.1, hR.tail hd⟩, hst.2⟩
    · refine ⟨by omega, fun _ => ⟨⟨by omega, by omega, fun j j0 j1 => ?_⟩, by dsimp only; omega⟩⟩
      by_cases hj : j = i
      · rw [hj]; omega
      · exact hi j j0 (by omega)
    · have hno : allI (noB b) k = true := no_all.2 fun j j0 j1 => hi j j0 (by omega)
      rw [if_pos hno] at n2 n3
      rw [n2, n3, n1, n4 hno]
      exact ⟨rfl, rfl, fun _ _ _ _ _ => rfl, rfl, by omega, trivial⟩
theorem vc21 : VC21 := by
  intro a n t b m _ hn hm
  have o := @ckA_ok a n t
  have o8 := ckA_08 a n t
  refine ⟨trivial, ?_⟩
  intro e he hN hM
  have hE : pcE a n t b m = if ckA a n t = 0 then if m = n then 0 else 2 else 8 := rfl
  have n1 : pcN a n t b m n = if pcE a n t b m = 0 then n else 0 := rfl
  have n2 : pcW a n t b m = if pcE a n t b m = 0 then if allI (noB b) m = true then -1 else (pk (bzP b) n a t).2 else 0 := rfl
  have n3 : pcT a n t b m = if pcE a n t b m = 0 then if allI (noB b) m = true then t else (pk (bzP b) n a t).2 else 0 := rfl
  have n4 : allI (noB b) m = true → pcA a n t b m = a := fun h => if_pos h
  have n5 : ¬ allI (noB b) m = true → pcA a n t b m = (pk (bzP b) n a t).1 := fun h => if_neg h
  refine ⟨fun h1 => ?_, fun h1 => ⟨fun h2 => ?_, fun h2 => ?_⟩⟩
  · have : ¬ pcE a n t b m = 0 := by rw [hE]; grind
    refine ⟨by grind, by grind, fun i f i0 i1 => ?_, by grind, by grind, trivial⟩
    rw [n1, if_neg this] at i1; omega
  · have : ¬ pcE a n t b m = 0 := by rw [hE]; grind
    refine ⟨by grind, by grind, fun i f i0 i1 => ?_, by grind, by grind, trivial⟩
    rw [n1, if_neg this] at i1; omega
  · have hc : ckA a n t = 0 := by omega
    have hm : m = n := by omega
    subst hm
    have hz : pcE a m t b m = 0 := by rw [hE, if_pos hc, if_pos rfl]
    rw [if_pos hz] at n1 n2 n3
    obtain ⟨c1, c2, c3, c4, c5⟩ := o hc
    refine ⟨fun y i => 0 ≤ i ∧ i ≤ m ∧ (y = true ↔ ¬ ∀ j, 0 ≤ j → j < i → b j 0 = 0), fun _ i => (m - i).toNat, ⟨by omega, by omega, by simp; intro j h0 h1; omega⟩, ?_⟩
    rintro y i ⟨i0, i1, hi⟩
    refine ⟨fun h3 => ⟨.inr i0, fun _ => ⟨.inr i0, fun _ => ⟨by omega, fun _ => ⟨⟨by omega, by omega, ?_⟩, by dsimp only; omega⟩⟩⟩⟩, fun h3 => ⟨by omega, ?_⟩⟩
    · rw [Bool.or_eq_true, hi]
      have : (!(decide (b i 0 = 0))) = true ↔ ¬ b i 0 = 0 := by simp
      rw [this]
      constructor
      · rintro (h | h) hall
        · exact h fun j h0 h1 => hall j h0 (by omega)
        · exact h (hall i i0 (by omega))
      · intro h
        by_cases hb : b i 0 = 0
        · exact .inl fun hall => h fun j h0 h1 => by
            by_cases hj : j = i
            · rw [hj]; exact hb
            · exact hall j h0 (by omega)
        · exact .inr hb
    · intro x k t' hx hk ht _
      subst hx hk ht
      have him : i = k := by omega
      subst him
      have hany : y = true ↔ ¬ allI (noB b) i = true := by rw [hi, no_all]
      by_cases hy : y = true
      · -- somebody is busy
        have hno := hany.1 hy
        rw [if_neg hno] at n2 n3
        have n5 := n5 hno
        obtain ⟨i0', h30, h31, hb⟩ : ∃ j, 0 ≤ j ∧ j < i ∧ ¬ b j 0 = 0 := by
          have := hi.1 hy
          apply Classical.byContradiction
          intro hcon
          exact this fun j h0 h1 => Classical.byContradiction fun hb => hcon ⟨j, h0, h1, hb⟩
        have hp : bzP b i0' = true := bz_iff.2 hb
        refine ⟨fun z q u d => q = i ∧ PkI (bzP b) i i0' (z, u) ∧ Rch (pS (bzP b) i) (pD (bzP b)) (x, t') (z, u) ∧ (d = true → pD (bzP b) (z, u) = true), fun z q u d => if d = true then 0 else pM i i0' (z, u) + 1, ⟨rfl, ⟨c5, c3, c4⟩, Rch.refl _, by simp⟩, ?_⟩
        rintro z q u d ⟨rfl, ⟨ok, u0, u1⟩, hR, hd⟩
        simp only at ok u0 u1
        refine fun _ _ => ⟨fun h4 => ?_, fun h4 => ?_⟩
        · obtain ⟨_, hdn⟩ := h4
          refine ⟨u0, fun _ => ⟨u1, fun _ => ⟨⟨by omega, u0, u1, ok⟩, ?_⟩⟩⟩
          rintro v15 v16 v17 v18 e15 rfl e17 e18 _ _
          have e15' : v15 = stA (bzP b u) z u := e15
          have e17' : v17 = stT (bzP b u) z v16 u := e17
          have e18' : v18 = pD (bzP b) (z, u) := e18
          subst e15' e17' e18'
          cases hc : pD (bzP b) (z, u) with
          | true =>
            have hc' := cho_iff.1 hc
            have hs1 : stA (bzP b u) z u = z := by unfold stA; rw [if_pos hc'.1, if_pos hc'.2]
            have hs2 : stT (bzP b u) z v16 u = u := by unfold stT; rw [if_pos hc']
            rw [hs1, hs2]
            refine ⟨⟨rfl, ⟨ok, u0, u1⟩, hR, fun _ => hc⟩, ?_⟩
            dsimp only
            rw [if_pos rfl, if_neg hdn]; omega
          | false =>
            have hst := pk_step c2 h30 h31 hp (z, u) ⟨ok, u0, u1⟩ hc
            refine ⟨⟨rfl, hst.1, hR.tail hc, fun h => by cases h⟩, ?_⟩
            dsimp only
            rw [if_neg (by simp), if_neg hdn]
            exact Nat.succ_lt_succ hst.2
        · have hdt : d = true := by
            cases d with
            | true => rfl
            | false => exact absurd ⟨hy, by simp⟩ h4
          have hf : pk (bzP b) q x t' = (z, u) := fin_eq hR (hd hdt)
          rw [n2, n3, n1, n5, hf]
          exact ⟨fun h => absurd hy h, fun _ => ⟨rfl, rfl, fun _ _ _ _ _ => rfl, rfl, by omega, trivial⟩⟩
      · have hall : allI (noB b) i = true := Classical.byContradiction fun h => hy (hany.2 h)
        rw [if_pos hall] at n2 n3
        have n4 := n4 hall
        refine ⟨fun z q u d => z = x ∧ q = i ∧ u = t', fun _ _ _ _ => 0, ⟨rfl, rfl, rfl⟩, ?_⟩
        rintro z q u d ⟨rfl, rfl, rfl⟩
        refine fun _ _ => ⟨fun h4 => absurd h4.1 hy, fun h4 => ?_⟩
        rw [n2, n3, n1, n4]
        exact ⟨fun _ => ⟨rfl, rfl, fun _ _ _ _ _ => rfl, rfl, by omega, trivial⟩, fun h => absurd hy h⟩
end Go.Proofs.Ytccmgepknjkakaa
