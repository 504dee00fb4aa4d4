/- The reference's contests: what is left to show of its functions. -/
import Derived.Test.YtkagcjibneigdaaDoorP5
import Derived.Test.YtkagcjibneigdaaDoorC12
namespace Go.Proofs.YtkagcjibneigdaaDoor
open Go Go.RowKit Go.Proofs.YtkagcjibneigdaaDoor.Vc
theorem win_loop {c f : Int} (c0 : 0 ≤ c) (c3 : c ≤ 3) (f0 : 0 ≤ f) (f6 : f ≤ 6) {lo hi : Int} (hl : lo = wlo c) (hh : hi = whi c) {I : Int → Int → Prop} :
    ∀ v i, 0 ≤ i → i ≤ f → v = (lo + 1) * p2 i → 1 ≤ v ∧ v ≤ 1024 ∧ (i < f → v * 2 = (lo + 1) * p2 (i + 1)) ∧ (i = f → ((hi < v - 1 → hi = winW c f) ∧ (¬ hi < v - 1 → v - 1 = winW c f) ∧ 0 = winE c f)) := by
  intro v i i0 i1 hv
  have hb := p2_bd i
  have hw : winW c f = aft c f := by unfold winW; rw [if_pos ⟨c3, f0, f6⟩]
  have he : winE c f = 0 := by unfold winE; rw [if_pos ⟨c3, f0, f6⟩]
  have hc : lo = 15 ∨ lo = 7 ∨ lo = 3 := by rw [hl]; exact wlo_bd c
  have ha : aft c f = min hi ((lo + 1) * p2 f - 1) := by unfold aft; rw [← hl, ← hh]
  refine ⟨?_, ?_, fun h => ?_, fun h => ?_⟩
  · rcases hc with rfl | rfl | rfl <;> omega
  · rcases hc with rfl | rfl | rfl <;> omega
  · have := p2_succ i i0 (by omega)
    rcases hc with rfl | rfl | rfl <;> omega
  · subst h
    rw [hw, he, ha, ← hv]
    omega
theorem vc51 : VC51 := by
  intro c f hc
  refine ⟨fun h => ?_, fun h => ?_⟩
  · have h1 : ¬ (c ≤ 3 ∧ 0 ≤ f ∧ f ≤ 6) := by omega
    unfold winW winE
    rw [if_neg h1, if_neg h1]
    exact ⟨rfl, rfl, trivial⟩
  have c3 : c ≤ 3 := by omega
  have hlo : (if (decide (c = 0)) = true then (15 : Int) else ((if (decide (c = 1)) = true then (15 : Int) else ((if (decide (c = 2)) = true then (7 : Int) else (3 : Int)) : Int)) : Int)) = wlo c := by
    unfold wlo
    have hc : c = 0 ∨ c = 1 ∨ c = 2 ∨ c = 3 := by omega
    rcases hc with rfl | rfl | rfl | rfl <;> rfl
  have hhi : (if (decide (c = 0)) = true then (1023 : Int) else ((if (decide (c = 1)) = true then (1023 : Int) else ((if (decide (c = 2)) = true then (15 : Int) else (7 : Int)) : Int)) : Int)) = whi c := by
    unfold whi
    have hc : c = 0 ∨ c = 1 ∨ c = 2 ∨ c = 3 := by omega
    rcases hc with rfl | rfl | rfl | rfl <;> rfl
  rw [hlo, hhi]
  have hb := wlo_bd c
  refine ⟨by omega, fun _ => ⟨by omega, fun _ => ⟨by omega, fun _ => ?_⟩⟩⟩
  refine ⟨fun v i => 0 ≤ i ∧ i ≤ f ∧ v = (wlo c + 1) * p2 i, fun _ i => (f - i).toNat, ⟨by omega, by omega, by rw [show p2 0 = 1 from rfl]; omega⟩, ?_⟩
  rintro v i ⟨i0, i1, hv⟩
  obtain ⟨w1, w2, w3, w4⟩ := win_loop (c := c) (f := f) (by omega) c3 (by omega) (by omega) rfl rfl (I := fun _ _ => True) v i i0 i1 hv
  refine ⟨fun h2 => ⟨by omega, fun _ => ⟨by omega, fun _ => ⟨⟨by omega, by omega, w3 h2⟩, by dsimp only; omega⟩⟩⟩, fun h2 => ⟨by omega, fun _ => ?_⟩⟩
  obtain ⟨x1, x2, x3⟩ := w4 (by omega)
  exact ⟨fun h3 => ⟨x1 h3, x3, trivial⟩, fun h3 => ⟨x2 h3, x3, trivial⟩⟩
theorem vc39 : VC39 := by unfold VC39; (repeat' (first | exact True.intro | apply And.intro | intro _)) <;> (try (subst_vars; grind [chkE, winW, winE]))
theorem vc33 : VC33 := by unfold VC33; (repeat' (first | exact True.intro | apply And.intro | intro _)) <;> (try (subst_vars; grind [fitA, oddA]))
theorem vc55 : VC55 := by
  unfold VC55
  intro c f d h
  have := aft_bd c f
  (repeat' (first | exact True.intro | apply And.intro | intro _)) <;> (try (subst_vars; grind [drN, winW, winE]))
theorem vc56 : VC56 := by unfold VC56; (repeat' (first | exact True.intro | apply And.intro | intro _)) <;> (try (subst_vars; grind [stW, stN, stT, stG]))
theorem vc48 : VC48 := by
  unfold VC48
  intro c w n t e d
  have := aft_bd c t
  (repeat' (first | exact True.intro | apply And.intro | intro _)) <;> (try (subst_vars; grind [SE, SC, SW, SN, SR, SG, fitA, oddA, chkE, stW, stN, stT, stG]))
theorem vc38 : VC38 := by
  intro x lo hi _
  exact ⟨by unfold inR; simp, trivial⟩
theorem vc22 : VC22 := by
  intro b n l f m ask T hp hn hm
  refine ⟨fun _ => trivial, ?_⟩
  rintro c2 e2 n9 _
  have q2 : c2 = true ↔ 0 ≤ T ∧ T ≤ 2000 := by rw [e2]; exact inR_iff
  refine ⟨fun h => ⟨(cc_8 fun hh => ?_).symm, trivial⟩, fun h => ?_⟩
  · rcases h with ((h | h) | h) | h
    · omega
    · omega
    · exact h hh.2.1
    · exact h (q2.2 hh.2.2.1)
  have r0 : ¬ n < 2 := fun hh => h (.inl (.inl (.inl hh)))
  have r00 : ¬ 16 < n := fun hh => h (.inl (.inl (.inr hh)))
  have r1 : 2 ≤ n ∧ n ≤ 16 := by omega
  have r2 : m = n := Classical.byContradiction fun hh => h (.inl (.inr hh))
  have r3 := q2.1 (Classical.byContradiction fun hh => h (.inr hh))
  refine ⟨fun i => 0 ≤ i ∧ i ≤ n ∧ ∀ j, 0 ≤ j → j < i → ccS b n l f j = true, fun i => (n - i).toNat, ⟨by omega, by omega, fun j h0 h1 => by omega⟩, ?_⟩
  rintro i ⟨i0, i1, hi⟩
  refine ⟨fun h3 => ?_, fun h3 => ?_⟩
  · have hu := hp.h i i0 h3
    refine ⟨i0, fun _ => ⟨by omega, fun _ => ⟨?_, fun _ => ⟨?_, fun _ => ⟨fun _ => hu, ?_⟩⟩⟩⟩⟩
    · by_cases hl : l i = n
      · exact .inr (by omega)
      · exact .inl hl
    · by_cases hl : l i = n
      · exact .inr (by omega)
      · exact .inl hl
    rintro e he _ _
    have he' : e = chkE (b i 0) (b i 1) (b i 2) (b i 3) := he
    refine ⟨fun _ => trivial, ?_⟩
    rintro c3 e3
    refine ⟨fun _ => trivial, ?_⟩
    rintro c4 e4
    refine ⟨.inr (by omega), fun _ => ⟨fun _ => trivial, ?_⟩⟩
    rintro c5 e5
    have q3 : c3 = true ↔ 0 ≤ b i 4 ∧ b i 4 ≤ 1000 := by rw [e3]; exact inR_iff
    have q4 : c4 = true ↔ 1 ≤ b i 5 ∧ b i 5 ≤ 200 := by rw [e4]; exact inR_iff
    have q5 : c5 = true ↔ 0 ≤ b i 6 ∧ b i 6 ≤ n - 1 := by rw [e5]; exact inR_iff
    have hr : rowA f i i 0 = f i i 0 := rfl
    rw [hr]
    refine ⟨fun h5 => ⟨(cc_bad i0 h3 fun hh => ?_).symm, trivial⟩, fun h5 => ⟨by omega, fun _ => ⟨⟨by omega, by omega, fun j j0 j1 => ?_⟩, by dsimp only; omega⟩⟩⟩
    · obtain ⟨k8, k9, k0, k1, k2, k3, k4⟩ := hh
      rcases h5 with (((((h5 | h5) | h5) | h5) | h5) | h5) | h5
      · exact h5 k8
      · exact h5 k9
      · exact h5 (by rw [he']; exact k0)
      · exact h5 (q3.2 k1)
      · exact h5 (q4.2 k2)
      · exact h5 (q5.2 (by omega))
      · exact k4 h5
    · by_cases hj : j = i
      · subst hj
        unfold ccS
        have k0 : l j = n := Classical.byContradiction fun hh => h5 (.inl (.inl (.inl (.inl (.inl (.inl hh))))))
        have k00 : f j j 0 = 0 := Classical.byContradiction fun hh => h5 (.inl (.inl (.inl (.inl (.inl (.inr hh))))))
        have k01 : e = 0 := Classical.byContradiction fun hh => h5 (.inl (.inl (.inl (.inl (.inr hh)))))
        have k1 := q3.1 (Classical.byContradiction fun hh => h5 (.inl (.inl (.inl (.inr hh)))))
        have k2 := q4.1 (Classical.byContradiction fun hh => h5 (.inl (.inl (.inr hh))))
        have k3 := q5.1 (Classical.byContradiction fun hh => h5 (.inl (.inr hh)))
        exact decide_eq_true ⟨k0, k00, by rw [← he']; exact k01, k1, k2, by omega, fun hh => h5 (.inr hh)⟩
      · exact hi j j0 (by omega)
  · obtain rfl : i = n := by omega
    exact ⟨(cc_0 ⟨r1, r2, r3, allI_of hi⟩).symm, trivial⟩
theorem vc23 : VC23 := by
  intro b n l f m ask T hu n0 m0
  refine ⟨hu, fun e he n1 m1 => ⟨fun h => ?_, fun h => ?_⟩⟩
  · have : evB b n l f m ask T = false := by unfold evB; rw [← he]; simp [h]
    simp [this]
  have h0 : e = 0 := by omega
  rw [he] at h0
  obtain ⟨cn, cm, cT, cb⟩ := cc_ok h0
  have hev : evB b n l f m ask T = allI (evO l f) m := by unfold evB; rw [h0]; rfl
  rw [hev]
  subst cm
  refine ⟨fun i => 0 ≤ i ∧ i ≤ m ∧ ∀ x y, 0 ≤ x → x < i → 0 ≤ y → y < x → (f x y 0 = 0 ↔ f y x 0 = 0), fun i => (m - i).toNat, ⟨by omega, by omega, fun x y _ _ => by omega⟩, ?_⟩
  rintro i ⟨i0, i1, hi⟩
  refine ⟨fun h1 => ?_, fun h1 => ?_⟩
  · have li := (cb i i0 h1).1
    refine ⟨fun j => 0 ≤ j ∧ j ≤ i ∧ ∀ y, 0 ≤ y → y < j → (f i y 0 = 0 ↔ f y i 0 = 0), fun j => (i - j).toNat, ⟨by omega, by omega, fun y _ _ => by omega⟩, ?_⟩
    rintro j ⟨j0, j1, hj⟩
    refine ⟨fun h2 => ?_, fun h2 => ?_⟩
    · have lj := (cb j j0 (by omega)).1
      have h8 : rowA f i j 0 = f i j 0 := rfl
      have h9 : rowA f j i 0 = f j i 0 := rfl
      rw [h8, h9]
      refine ⟨i0, fun _ => ⟨j0, fun _ => ⟨by omega, fun _ => ⟨by omega, fun _ => ⟨by omega, fun _ => fun _ _ _ _ => ⟨fun h3 => ⟨?_, trivial⟩, fun h3 => ⟨by omega, fun _ => ⟨⟨by omega, by omega, ?_⟩, by dsimp only; omega⟩⟩⟩⟩⟩⟩⟩⟩
      · have h4 : allI (evO l f) m = false := by
          cases hh : allI (evO l f) m with
          | false => rfl
          | true =>
            have h5 := allI_at hh i0 h1
            unfold evO at h5
            have h6 := allI_at h5 j0 (by omega)
            unfold evR at h6
            have h7 := of_decide_eq_true h6
            exact absurd (by by_cases ha : f i j 0 = 0 <;> simp_all) h3
        simp [h4]
      · intro y y0 y1
        by_cases hy : y = j
        · subst hy
          by_cases ha : f i y 0 = 0 <;> by_cases hb : f y i 0 = 0 <;> simp_all
        · exact hj y y0 (by omega)
    · refine ⟨by omega, fun _ => ⟨⟨by omega, by omega, fun x y x0 x1 y0 y1 => ?_⟩, by dsimp only; omega⟩⟩
      by_cases hx : x = i
      · subst hx; exact hj y y0 (by omega)
      · exact hi x y x0 (by omega) y0 y1
  · have : i = m := by omega
    subst this
    have : allI (evO l f) i = true := allI_of fun x x0 x1 => by
      unfold evO
      rw [(cb x x0 x1).1]
      refine allI_of fun y y0 y1 => ?_
      unfold evR
      refine decide_eq_true ?_
      rcases Int.lt_trichotomy y x with h2 | h2 | h2
      · exact hi x y x0 x1 y0 h2
      · rw [h2]
      · exact (hi y x y0 y1 x0 h2).symm
    rw [this]
    exact ⟨⟨fun _ => rfl, fun _ => trivial⟩, trivial⟩
theorem on_iff {B : Int → Nat → Int} {nb who t bf : Int} : onB B nb who t bf = true ↔ ∃ r, 0 ≤ r ∧ r < nb ∧ B r 0 = who ∧ B r 1 < bf ∧ B r 1 ≤ t ∧ t < B r 2 := by
  unfold onB
  constructor
  · intro h
    apply Classical.byContradiction
    intro hn
    have : allI (onR B who t bf) nb = true := allI_of fun r r0 r1 => by
      unfold onR
      rw [decide_eq_false fun hh => hn ⟨r, r0, r1, hh.1, hh.2.1, hh.2.2.1, hh.2.2.2⟩]; rfl
    rw [this] at h; cases h
  · rintro ⟨r, r0, r1, h1, h2, h3, h4⟩
    cases ha : allI (onR B who t bf) nb with
    | false => rfl
    | true =>
      have := allI_at ha r0 r1
      unfold onR at this
      rw [decide_eq_true ⟨h1, h2, h3, h4⟩] at this
      cases this
theorem vc50 : VC50 := by
  intro _ _ B nb _ _ _ _ _ who t bf _ _ _ _ _
  refine ⟨fun i => 0 ≤ i ∧ i ≤ nb ∧ allI (onR B who t bf) i = true, fun i => (nb - i).toNat, ⟨by omega, by omega, rfl⟩, ?_⟩
  rintro i ⟨i0, i1, hi⟩ _ _ _ _
  refine ⟨fun h1 => ⟨i0, fun _ => ⟨fun h2 => ⟨?_, trivial⟩, fun h2 => ⟨by omega, fun _ => ⟨⟨by omega, by omega, ?_⟩, by dsimp only; omega⟩⟩⟩⟩, fun h1 => ?_⟩
  · exact ⟨fun _ => on_iff.2 ⟨i, i0, h1, h2.1.1.1, h2.1.1.2, h2.1.2, h2.2⟩, fun _ => trivial⟩
  · rw [allI_succ i0, hi, Bool.true_and]
    unfold onR
    rw [decide_eq_false fun hh => h2 ⟨⟨⟨hh.1, hh.2.1⟩, hh.2.2.1⟩, hh.2.2.2⟩]; rfl
  · obtain rfl : i = nb := by omega
    unfold onB
    rw [hi]; simp
theorem di_iff {f : Int → Int → Nat → Int} {B : Int → Nat → Int} {n to nb who t : Int} : diB f n to B nb who t = true ↔ f to who 0 = 0 ∨ onB B nb to t (t + 1) = true ∨ ∃ k, 0 ≤ k ∧ k < n ∧ k ≠ who ∧ f to k 0 ≠ 0 ∧ onB B nb k t (t + 1) = true := by
  unfold diB hrB
  rw [Bool.or_eq_true, Bool.or_eq_true]
  have e1 : (!(!(decide (f to who 0 = 0)))) = true ↔ f to who 0 = 0 := by simp
  have e2 : (!(allI (diN f B nb to who t) n)) = true ↔ ∃ k, 0 ≤ k ∧ k < n ∧ k ≠ who ∧ f to k 0 ≠ 0 ∧ onB B nb k t (t + 1) = true := by
    constructor
    · intro h
      apply Classical.byContradiction
      intro hn
      have : allI (diN f B nb to who t) n = true := allI_of fun k k0 k1 => by
        unfold diN hrB
        by_cases hk : k = who
        · simp [hk]
        · by_cases hf : f to k 0 = 0
          · simp [hf]
          · cases ho : onB B nb k t (t + 1) with
            | false => simp
            | true => exact absurd ⟨k, k0, k1, hk, hf, ho⟩ hn
      rw [this] at h; cases h
    · rintro ⟨k, k0, k1, hk, hf, ho⟩
      cases ha : allI (diN f B nb to who t) n with
      | false => rfl
      | true =>
        have := allI_at ha k0 k1
        unfold diN hrB at this
        rw [ho, decide_eq_false hk, decide_eq_false hf] at this
        cases this
  rw [e1, e2]
theorem vc49 : VC49 := by
  intro _ n9 l f m _ _ x n B nb _ _ _ _ _ who t hd _ _ n0 _ _ _
  obtain ⟨w0, w1, nm, to0, to1, row, t0, t1⟩ := hd
  subst nm
  have hr := row (x who 6) to0 to1
  refine ⟨w0, fun _ => ⟨w1, fun _ => ⟨to0, fun _ => ⟨to1, fun _ => ⟨by omega, fun _ => ⟨.inr (by omega), fun _ => ⟨fun _ => trivial, ?_⟩⟩⟩⟩⟩⟩⟩
  rintro v hv _ _ _ _ _ _ _ _
  have h8 : ∀ k, rowA f (x who 6) k 0 = f (x who 6) k 0 := fun k => rfl
  simp only [h8]
  refine ⟨fun h => ⟨⟨fun _ => di_iff.2 ?_, fun _ => trivial⟩, trivial⟩, fun h => ?_⟩
  · rcases h with h | h
    · exact .inl h
    · exact .inr (.inl (by rw [← hv]; exact h))
  refine ⟨fun i => 0 ≤ i ∧ i ≤ n ∧ ∀ k, 0 ≤ k → k < i → ¬ (k ≠ who ∧ f (x who 6) k 0 ≠ 0 ∧ onB B nb k t (t + 1) = true), fun i => (n - i).toNat, ⟨by omega, n0, fun k _ _ => by omega⟩, ?_⟩
  rintro i ⟨i0, i1, hi⟩
  refine ⟨fun h1 => ⟨.inr i0, fun _ => ⟨.inr (by omega), fun _ => ⟨.inr i0, fun _ => ⟨.inr (by omega), fun _ => ⟨.inr (by omega), fun _ => ⟨fun _ => trivial, ?_⟩⟩⟩⟩⟩⟩, fun h1 => ?_⟩
  · rintro v2 hv2
    refine ⟨fun h2 => ⟨⟨fun _ => di_iff.2 (.inr (.inr ⟨i, i0, h1, h2.1.1, h2.1.2, by rw [← hv2]; exact h2.2⟩)), fun _ => trivial⟩, trivial⟩, fun h2 => ⟨by omega, fun _ => ⟨⟨by omega, by omega, fun k k0 k1 hk => ?_⟩, by dsimp only; omega⟩⟩⟩
    by_cases hki : k = i
    · subst hki
      exact h2 ⟨⟨hk.1, hk.2.1⟩, by rw [hv2]; exact hk.2.2⟩
    · exact hi k k0 (by omega) hk
  · obtain rfl : i = n := by omega
    refine ⟨⟨fun hf => hf.elim, fun hd => ?_⟩, trivial⟩
    rcases di_iff.1 hd with h2 | h2 | ⟨k, k0, k1, hk⟩
    · exact h (.inl h2)
    · exact h (.inr (by rw [hv]; exact h2))
    · exact hi k k0 k1 hk
theorem vc19 : VC19 := by
  intro a n b m _ n0 m0 n1 m1
  have e : ssB a n b m = (decide (n = m) && allI (ssR a b) n) := rfl
  refine ⟨fun h => ⟨by rw [e, decide_eq_false h]; simp, trivial⟩, fun h => ?_⟩
  obtain rfl : n = m := Classical.byContradiction h
  rw [decide_eq_true rfl, Bool.true_and] at e
  rw [e]
  refine ⟨fun i => 0 ≤ i ∧ i ≤ n ∧ allI (ssR a b) i = true, fun i => (n - i).toNat, ⟨by omega, n0, rfl⟩, ?_⟩
  rintro i ⟨i0, i1, hi⟩
  refine ⟨fun h1 => ⟨i0, fun _ => ⟨h1, fun _ => ⟨fun h2 => ⟨?_, trivial⟩, fun h2 => ⟨by omega, fun _ => ⟨⟨by omega, by omega, ?_⟩, by dsimp only; omega⟩⟩⟩⟩⟩, fun h1 => ?_⟩
  · constructor
    · intro hf; exact hf.elim
    · intro ha
      have := allI_at ha i0 h1
      unfold ssR at this
      exact h2 (of_decide_eq_true this)
  · rw [allI_succ i0, hi, Bool.true_and]
    unfold ssR
    exact decide_eq_true (Classical.byContradiction h2)
  · obtain rfl : i = n := by omega
    rw [hi]; simp
end Go.Proofs.YtkagcjibneigdaaDoor
