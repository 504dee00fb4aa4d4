/- Shares of airtime: what is left to show of AirtimePicks. -/
import Derived.Test.YtccmgepknjkakaaP2
import Derived.Test.YtccmgepknjkakaaC5
namespace Go.Proofs.Ytccmgepknjkakaa
open Go Go.RowKit Go.Proofs.Ytccmgepknjkakaa.Vc
theorem vc15 : VC15 := fun _ => ⟨by simp, trivial⟩
structure PV (p : Int → Bool) (n : Int) (a0 : Int → Nat → Int) (s : PS) : Prop where
  ok : okS s.1 n
  t0 : 0 ≤ s.2
  t1 : s.2 < n
  w : ∀ i, 0 ≤ i → i < n → s.1 i 0 = a0 i 0
  b : ∀ i, 0 ≤ i → i < n → p i = true → a0 i 1 ≤ s.1 i 1
  c : ∀ i, 0 ≤ i → i < n → p i = false → s.1 i 1 = a0 i 1 ∨ (0 ≤ a0 i 1 ∧ s.1 i 1 = 0)
theorem PV.step {p : Int → Bool} {n : Int} {a0 : Int → Nat → Int} (s : PS) (h : PV p n a0 s) : PV p n a0 (pS p n s) := by
  obtain ⟨a, t⟩ := s
  obtain ⟨ok, t0, t1, w, b, c⟩ := h
  simp only at ok t0 t1 w b c
  refine ⟨st_ok ok t0 t1, (stT_bd t0 t1).1, (stT_bd t0 t1).2, fun i i0 i1 => ?_, fun i i0 i1 hb => ?_, fun i i0 i1 hb => ?_⟩
  · obtain ⟨e0, e1, e2⟩ := @st_at (p t) a t i
    show stA (p t) a t i 0 = _
    rw [e0, w i i0 i1]
  · obtain ⟨e0, e1, e2⟩ := @st_at (p t) a t i
    show _ ≤ stA (p t) a t i 1
    have hok := ok.h i i0 i1
    have := b i i0 i1 hb
    by_cases hi : i = t
    · subst hi
      rw [e2, hb, if_pos rfl]
      split <;> omega
    · rw [e1 hi]; exact this
  · obtain ⟨e0, e1, e2⟩ := @st_at (p t) a t i
    show stA (p t) a t i 1 = _ ∨ _ ∧ stA (p t) a t i 1 = 0
    have := c i i0 i1 hb
    by_cases hi : i = t
    · subst hi
      rw [e2, hb]
      simp only [Bool.false_eq_true, if_false]
      omega
    · rw [e1 hi]; exact this
/-- what picking gives where somebody is busy -/
theorem pk_facts {p : Int → Bool} {n i0 : Int} (hn : n ≤ 32) (h0 : 0 ≤ i0) (h1 : i0 < n) (hb : p i0 = true) {a : Int → Nat → Int} {t : Int} (h : okS a n) (t0 : 0 ≤ t) (t1 : t < n) :
    PV p n a (pk p n a t) ∧ p (pk p n a t).2 = true ∧ 0 < (pk p n a t).1 (pk p n a t).2 1 ∧ pk p n (pk p n a t).1 (pk p n a t).2 = pk p n a t := by
  obtain ⟨hr, hd⟩ := pk_spec hn h0 h1 hb h t0 t1
  have hd' := cho_iff.1 (show cho (p (pk p n a t).2) (pk p n a t).1 (pk p n a t).2 = true from hd)
  refine ⟨hr.keeps (P := PV p n a) (fun s hs _ => PV.step s hs) ⟨h, t0, t1, fun i _ _ => rfl, fun i _ _ _ => Int.le_refl _, fun i _ _ _ => .inl rfl⟩, hd'.1, hd'.2, ?_⟩
  exact fin_eq (s := ((pk p n a t).1, (pk p n a t).2)) (Rch.refl _) hd
theorem vc7 : VC7 := by
  intro a n t b m _ hn hm
  refine ⟨trivial, ?_⟩
  rintro al rfl hN hM
  refine ⟨fun _ => ⟨by simp, trivial⟩, fun hs => ⟨trivial, ?_⟩⟩
  rintro who x k u e rfl rfl rfl rfl rfl hk0 _
  have hE : pcE a n t b m = if ckA a n t = 0 then if m = n then 0 else 2 else 8 := rfl
  have n1 : pcN a n t b m n = if pcE a n t b m = 0 then n else 0 := rfl
  have n2 : pcW a n t b m = if pcE a n t b m = 0 then if allI (noB b) m = true then -1 else (pk (bzP b) n a t).2 else 0 := rfl
  have n3 : pcT a n t b m = if pcE a n t b m = 0 then if allI (noB b) m = true then t else (pk (bzP b) n a t).2 else 0 := rfl
  have n4 : allI (noB b) m = true → pcA a n t b m = a := fun h => if_pos h
  have n5 : ¬ allI (noB b) m = true → pcA a n t b m = (pk (bzP b) n a t).1 := fun h => if_neg h
  refine ⟨fun h1 => ⟨fun _ => trivial, ?_⟩, fun h1 => ?_⟩
  · rw [if_neg h1] at n1 n2 n3
    rintro s rfl
    rw [n1, n2, n3]
    have : smA (pcA a n t b m) 0 0 zA 0 0 = true := smA_self fun i i0 i1 => by omega
    rw [this]; simp
  have hz : pcE a n t b m = 0 := by omega
  have hc : ckA a n t = 0 := by
    rcases ckA_08 a n t with h | h
    · exact h
    · rw [hE, h] at hz; simp at hz
  have hmn : m = n := by
    apply Classical.byContradiction
    intro hh
    rw [hE, if_pos hc, if_neg hh] at hz; simp at hz
  subst hmn
  obtain ⟨c1, c2, c3, c4, c5⟩ := ckA_ok hc
  rw [if_pos hz] at n1 n2 n3
  refine ⟨fun i y => 0 ≤ i ∧ i ≤ m ∧ (y = true ↔ ¬ ∀ j, 0 ≤ j → j < i → b j 0 = 0), fun i _ => (m - i).toNat, ⟨by omega, by omega, by simp; intro j h0 h1; omega⟩, ?_⟩
  rintro i y ⟨i0, i1, hi⟩
  refine ⟨fun h3 => ⟨.inr i0, fun _ => ⟨.inr i0, fun _ => ⟨by omega, fun _ => ⟨⟨by omega, by omega, ?_⟩, by dsimp only; omega⟩⟩⟩⟩, fun h3 => ?_⟩
  · rw [Bool.or_eq_true, hi]
    have : (!(decide (b i 0 = 0))) = true ↔ ¬ b i 0 = 0 := by simp
    rw [this]
    constructor
    · rintro (h | h) hall
      · exact h fun j h0 h1 => hall j h0 (by omega)
      · exact h (hall i i0 (by omega))
    · intro h
      by_cases hb : b i 0 = 0
      · exact .inl fun hall => h fun j h0 h1 => by
          by_cases hj : j = i
          · rw [hj]; exact hb
          · exact hall j h0 (by omega)
      · exact .inr hb
  obtain rfl : i = m := by omega
  have hany : y = true ↔ ¬ allI (noB b) i = true := by rw [hi, no_all]
  by_cases hy : y = true
  · have hno := hany.1 hy
    rw [if_neg hno] at n2 n3
    have n5 := n5 hno
    obtain ⟨j0, h30, h31, hb⟩ : ∃ j, 0 ≤ j ∧ j < i ∧ ¬ b j 0 = 0 := by
      have := hi.1 hy
      apply Classical.byContradiction
      intro hcon
      exact this fun j h0 h1 => Classical.byContradiction fun hb => hcon ⟨j, h0, h1, hb⟩
    obtain ⟨hV, f1, f2, f3⟩ := pk_facts c2 h30 h31 (bz_iff.2 hb) c5 c3 c4
    rw [n1, n2, n3, n5]
    have q1 : ckA (pk (bzP b) i a t).1 i (pk (bzP b) i a t).2 = 0 := ckA_of c1 c2 hV.t0 hV.t1 hV.ok
    have q2 := hV.t0
    have q3 := hV.t1
    have q4 := bz_iff.1 f1
    refine ⟨fun _ => trivial, ?_⟩
    rintro v13 rfl
    refine ⟨fun _ => trivial, ?_⟩
    rintro v14 _
    refine ⟨fun h => by exfalso; rcases h with (h | h) | h; exact h (.inl ⟨hy, q2⟩); exact h q1; exact h.1 hy, fun _ => ⟨fun h => absurd hy h, fun _ => ?_⟩⟩
    refine ⟨.inr q2, fun _ => ⟨.inr q3, fun _ => ⟨.inr q2, fun _ => ⟨.inr q3, fun _ => ⟨.inr q2, fun _ => ⟨.inr q3, fun _ => ⟨.inr q2, fun _ => ⟨.inr q3, fun _ => ⟨fun h => by omega, fun _ => ?_⟩⟩⟩⟩⟩⟩⟩⟩⟩
    refine ⟨fun j => 0 ≤ j ∧ j ≤ i, fun j => (i - j).toNat, ⟨by omega, by omega⟩, ?_⟩
    rintro j ⟨k0, k1⟩
    refine ⟨fun h4 => ⟨k0, fun _ => ⟨h4, fun _ => ⟨h4, fun _ => ⟨fun h5 => ?_, fun _ => ⟨by omega, fun _ => ⟨⟨by omega, by omega⟩, by dsimp only; omega⟩⟩⟩⟩⟩⟩, fun h4 => ?_⟩
    · exfalso
      have w1 := hV.w j k0 h4
      by_cases hbj : b j 0 = 0
      · have w2 := hV.c j k0 h4 (bz_no.2 hbj)
        omega
      · have w2 := hV.b j k0 h4 (bz_iff.2 hbj)
        omega
    · have g1 : pcE (pk (bzP b) i a t).1 i (pk (bzP b) i a t).2 b i = 0 := by
        show (if _ then _ else _) = _
        rw [if_pos q1, if_pos rfl]
      refine ⟨trivial, ?_⟩
      rintro v16 v17 v18 v19 v20 e1 e2 e3 e4 e5 _
      have e1' : v16 = (pk (bzP b) i a t).2 := by
        rw [e1]; unfold pcW
        rw [if_pos g1, if_neg hno, f3]
      have e2' : v17 = (pk (bzP b) i a t).1 := by
        rw [e2]; unfold pcA
        rw [if_neg hno, f3]
      have e3' : v18 = i := by rw [e3]; unfold pcN; rw [if_pos g1]
      have e4' : v19 = (pk (bzP b) i a t).2 := by
        rw [e4]; unfold pcT
        rw [if_pos g1, if_neg hno, f3]
      rw [g1] at e5
      clear e1 e2 e3 e4
      subst e1' e2' e3' e4' e5
      refine ⟨fun _ => trivial, ?_⟩
      rintro s rfl _
      rw [smA_refl]; simp
  · have hall : allI (noB b) i = true := Classical.byContradiction fun h => hy (hany.2 h)
    rw [if_pos hall] at n2 n3
    have n4 := n4 hall
    rw [n1, n2, n3, n4]
    refine ⟨fun _ => trivial, ?_⟩
    rintro v13 rfl
    refine ⟨fun _ => trivial, ?_⟩
    rintro v14 rfl
    rw [smA_refl]
    refine ⟨fun h => ?_, fun _ => ⟨fun _ => ⟨by simp, trivial⟩, fun h => absurd hy h⟩⟩
    exfalso
    rcases h with (h | h) | h
    · exact h (.inr ⟨hy, by omega⟩)
    · exact h hc
    · exact h.2 rfl
end Go.Proofs.Ytccmgepknjkakaa
