/- Transmissions: what is left to show of each function. -/
import Derived.Test.YtgdjdaoglkfjdaaP6
namespace Go.Proofs.Ytgdjdaoglkfjdaa
open Go Go.RowKit Go.Proofs.Ytgdjdaoglkfjdaa.Vc
theorem vc18 : VC18 := by
  intro a b c d e f g h _
  exact ⟨by unfold ovl; simp, trivial⟩
theorem vc19 : VC19 := by
  intro a b c d e f g h _
  exact ⟨by unfold ovl; simp, trivial⟩
section
variable {a : Int → Nat → Int} {n : Int} {l : Int → Int} {f : Int → Int → Nat → Int} {m : Int} {b : Int → Nat → Int} {k : Int}
theorem mc_8 (hc : ckW a n l f m = 0) (h : ¬ (k ≤ 64 ∧ allI (sdO n b) k = true)) : mcE a n l f m b k = 8 := by unfold mcE; rw [if_pos hc, if_neg h]
theorem mc_0 (hc : ckW a n l f m = 0) (h : k ≤ 64 ∧ allI (sdO n b) k = true) : mcE a n l f m b k = 0 := by unfold mcE; rw [if_pos hc, if_pos h]
theorem mc_w (hc : ¬ ckW a n l f m = 0) : mcE a n l f m b k = ckW a n l f m := by unfold mcE; rw [if_neg hc]
theorem mc_bad (hc : ckW a n l f m = 0) {i : Int} (h0 : 0 ≤ i) (h1 : i < k) (h : sdO n b i = false) : mcE a n l f m b k = 8 :=
  mc_8 hc fun hh => by have := allI_at hh.2 h0 h1; rw [h] at this; cases this
theorem mc_ok (h : mcE a n l f m b k = 0) : ckW a n l f m = 0 ∧ k ≤ 64 ∧ ∀ i, 0 ≤ i → i < k → 0 ≤ b i 0 ∧ b i 0 < n ∧ 0 ≤ b i 1 ∧ b i 1 < b i 2 ∧ b i 2 ≤ 1099511627776 ∧ -2000 ≤ b i 3 ∧ b i 3 ≤ 2000 := by
  unfold mcE at h
  split at h
  · rename_i hc
    split at h
    · rename_i h2
      refine ⟨hc, h2.1, fun i i0 i1 => ?_⟩
      have h3 : sdO n b i = true := allI_at h2.2 i0 i1
      unfold sdO at h3
      rw [Bool.and_eq_true] at h3
      exact of_decide_eq_true h3.1
    · cases h
  · rename_i hc; exact absurd h hc
theorem sdO_r {i : Int} (h : ¬ (0 ≤ b i 0 ∧ b i 0 < n ∧ 0 ≤ b i 1 ∧ b i 1 < b i 2 ∧ b i 2 ≤ 1099511627776 ∧ -2000 ≤ b i 3 ∧ b i 3 ≤ 2000)) : sdO n b i = false := by
  unfold sdO sdR
  rw [decide_eq_false h, Bool.false_and]
theorem sdO_t {i j : Int} (j0 : 0 ≤ j) (j1 : j < i) (h1 : b j 0 = b i 0) (h2 : ovl (b j 1) (b j 2) (b i 1) (b i 2) = true) : sdO n b i = false := by
  have : allI (sdN b i) i = false := by
    cases hh : allI (sdN b i) i with
    | false => rfl
    | true =>
      have := allI_at hh j0 j1
      unfold sdN sdT at this
      rw [h2, decide_eq_true h1] at this
      cases this
  unfold sdO
  rw [this, Bool.and_false]
theorem sdN_ok {i j : Int} (h : ¬ (b j 0 = b i 0 ∧ ovl (b j 1) (b j 2) (b i 1) (b i 2) = true)) : sdN b i j = true := by
  unfold sdN sdT
  cases h2 : ovl (b j 1) (b j 2) (b i 1) (b i 2) with
  | false => simp
  | true =>
    have : ¬ b j 0 = b i 0 := fun h3 => h ⟨h3, h2⟩
    simp [this]
theorem sdO_of {i : Int} (h : 0 ≤ b i 0 ∧ b i 0 < n ∧ 0 ≤ b i 1 ∧ b i 1 < b i 2 ∧ b i 2 ≤ 1099511627776 ∧ -2000 ≤ b i 3 ∧ b i 3 ≤ 2000) (h2 : allI (sdN b i) i = true) : sdO n b i = true := by
  unfold sdO sdR
  rw [decide_eq_true h, h2]; rfl
end
theorem vc22 : VC22 := by
  intro a n l f m b k _ _ _ hk
  refine ⟨trivial, ?_⟩
  rintro e rfl _ _ _
  refine ⟨fun h => ⟨(mc_w h).symm, trivial⟩, fun h => ?_⟩
  have hc : ckW a n l f m = 0 := by omega
  refine ⟨fun h1 => ⟨(mc_8 hc fun hh => by omega).symm, trivial⟩, fun h1 => ?_⟩
  refine ⟨fun i => 0 ≤ i ∧ i ≤ k ∧ allI (sdO n b) i = true, fun i => (k - i).toNat, ⟨by omega, by omega, rfl⟩, ?_⟩
  rintro i ⟨i0, i1, hi⟩
  refine ⟨fun h2 => ⟨i0, fun _ => ⟨fun h3 => ⟨(mc_bad hc i0 h2 (sdO_r (by omega))).symm, trivial⟩, fun h3 => ⟨i1, fun _ => ?_⟩⟩⟩, fun h2 => ?_⟩
  · refine ⟨fun j => 0 ≤ j ∧ j ≤ i ∧ allI (sdN b i) j = true, fun j => (i - j).toNat, ⟨by omega, by omega, rfl⟩, ?_⟩
    rintro j ⟨j0, j1, hj⟩ _
    refine ⟨fun h4 => ⟨j0, fun _ => ⟨by omega, fun _ => ⟨fun _ => trivial, ?_⟩⟩⟩, fun h4 => ?_⟩
    · rintro o rfl
      refine ⟨fun h5 => ⟨(mc_bad hc i0 h2 (sdO_t j0 h4 h5.1 h5.2)).symm, trivial⟩, fun h5 => ⟨by omega, fun _ => ⟨⟨by omega, by omega, ?_⟩, by dsimp only; omega⟩⟩⟩
      rw [allI_succ j0, hj, sdN_ok h5]; rfl
    · obtain rfl : j = i := by omega
      refine ⟨by omega, fun _ => ⟨⟨by omega, by omega, ?_⟩, by dsimp only; omega⟩⟩
      rw [allI_succ i0, hi, sdO_of (by omega) hj]; rfl
  · obtain rfl : i = k := by omega
    exact ⟨(mc_0 hc ⟨by omega, hi⟩).symm, trivial⟩
theorem inB_iff {x lo hi : Int} : inB x lo hi = true ↔ lo ≤ x ∧ x ≤ hi := by unfold inB; simp
theorem vc23 : VC23 := by
  intro a n l f m b k _ hn _ hk
  refine ⟨trivial, ?_⟩
  rintro e rfl _ _ _
  refine ⟨fun h => ⟨(mc_w h).symm, trivial⟩, fun h => ?_⟩
  have hc : ckW a n l f m = 0 := by omega
  refine ⟨fun h1 => ⟨(mc_8 hc fun hh => by omega).symm, trivial⟩, fun h1 => ?_⟩
  refine ⟨fun i => 0 ≤ i ∧ i ≤ k ∧ allI (sdO n b) i = true, fun i => (k - i).toNat, ⟨by omega, by omega, rfl⟩, ?_⟩
  rintro i ⟨i0, i1, hi⟩
  refine ⟨fun h2 => ⟨i0, fun _ => ⟨by omega, fun _ => ⟨trivial, ?_⟩⟩⟩, fun h2 => ?_⟩
  · rintro c1 e1
    refine ⟨fun _ => trivial, ?_⟩
    rintro c2 e2
    have q1 : c1 = true ↔ 0 ≤ b i 0 ∧ b i 0 ≤ n - 1 := by rw [e1]; exact inB_iff
    have q2 : c2 = true ↔ -2000 ≤ b i 3 ∧ b i 3 ≤ 2000 := by rw [e2]; exact inB_iff
    refine ⟨fun h3 => ⟨(mc_bad hc i0 h2 (sdO_r fun hh => ?_)).symm, trivial⟩, fun h3 => ?_⟩
    · have r1 := q1.2 (by omega)
      have r2 := q2.2 (by omega)
      rcases h3 with (((h3 | h3) | h3) | h3) | h3
      · exact h3 r1
      · omega
      · omega
      · omega
      · exact h3 r2
    · have r1 : c1 = true := Classical.byContradiction fun hh => h3 (.inl (.inl (.inl (.inl hh))))
      have r2 : c2 = true := Classical.byContradiction fun hh => h3 (.inr hh)
      have r3 := q1.1 r1
      have r4 := q2.1 r2
      have r5 : 0 ≤ b i 1 := Classical.byContradiction fun hh => h3 (.inl (.inl (.inl (.inr (by omega)))))
      have r6 : b i 1 < b i 2 := Classical.byContradiction fun hh => h3 (.inl (.inl (.inr (by omega))))
      have r7 : b i 2 ≤ 1099511627776 := Classical.byContradiction fun hh => h3 (.inl (.inr (by omega)))
      refine ⟨fun j => 0 ≤ j ∧ j ≤ i ∧ allI (sdN b i) j = true, fun j => (i - j).toNat, ⟨by omega, by omega, rfl⟩, ?_⟩
      rintro j ⟨j0, j1, hj⟩
      refine ⟨fun h4 => ⟨j0, fun _ => ⟨by omega, fun _ => ⟨fun _ => trivial, ?_⟩⟩⟩, fun h4 => ?_⟩
      · rintro o rfl
        refine ⟨fun h5 => ⟨(mc_bad hc i0 h2 (sdO_t j0 h4 h5.1 h5.2)).symm, trivial⟩, fun h5 => ⟨by omega, fun _ => ⟨⟨by omega, by omega, ?_⟩, by dsimp only; omega⟩⟩⟩
        rw [allI_succ j0, hj, sdN_ok h5]; rfl
      · obtain rfl : j = i := by omega
        refine ⟨by omega, fun _ => ⟨⟨by omega, by omega, ?_⟩, by dsimp only; omega⟩⟩
        rw [allI_succ i0, hi, sdO_of (by omega) hj]; rfl
  · obtain rfl : i = k := by omega
    exact ⟨(mc_0 hc ⟨by omega, hi⟩).symm, trivial⟩
theorem vc35 : VC35 := by
  intro a n l f m b k j t h hp _ _ _ hh
  refine ⟨trivial, ?_⟩
  rintro e rfl _ _ _ _
  refine ⟨fun h1 => ⟨by unfold maT; rw [if_neg h1], trivial⟩, fun h1 => ?_⟩
  have hc : mcE a n l f m b k = 0 := by omega
  have e0 : maT a n l f m b k j t h = if 0 ≤ j ∧ j < n ∧ allI (tmO t) h = true then 0 else 2 := by unfold maT; rw [if_pos hc]
  rw [e0]
  refine ⟨fun h2 => ?_, fun h2 => ⟨by rw [if_neg (by omega)], trivial⟩⟩
  refine ⟨fun i => 0 ≤ i ∧ i ≤ h ∧ allI (tmO t) i = true, fun i => (h - i).toNat, ⟨by omega, by omega, rfl⟩, ?_⟩
  rintro i ⟨i0, i1, hi⟩
  refine ⟨fun h3 => ⟨i0, fun _ => ⟨fun h4 => ⟨?_, trivial⟩, fun h4 => ⟨by omega, fun _ => ⟨⟨by omega, by omega, ?_⟩, by dsimp only; omega⟩⟩⟩⟩, fun h3 => ⟨?_, trivial⟩⟩
  · rw [if_neg]
    rintro ⟨_, _, h5⟩
    have : 0 ≤ t i 0 ∧ t i 0 ≤ 1099511627776 := of_decide_eq_true (allI_at (p := tmO t) h5 i0 h3)
    omega
  · rw [allI_succ i0, hi, Bool.true_and]
    unfold tmO
    exact decide_eq_true (by omega)
  · obtain rfl : i = h := by omega
    rw [if_pos ⟨by omega, by omega, hi⟩]
theorem vc39 : VC39 := by
  intro a n l f m b k j t u _ _ _ _
  refine ⟨trivial, ?_⟩
  rintro e rfl _ _ _
  refine ⟨fun h1 => ⟨by unfold maE; rw [if_neg h1], trivial⟩, fun h1 => ?_⟩
  have hc : mcE a n l f m b k = 0 := by omega
  have e0 : maE a n l f m b k j t u = if 0 ≤ j ∧ j < n ∧ (0 ≤ t ∧ t ≤ 1099511627776) ∧ 0 ≤ u ∧ u ≤ 1099511627776 then 0 else 2 := by unfold maE; rw [if_pos hc]
  rw [e0]
  refine ⟨by omega, fun _ => ⟨trivial, ?_⟩⟩
  rintro c1 e1
  refine ⟨fun _ => trivial, ?_⟩
  rintro c2 e2
  refine ⟨fun _ => trivial, ?_⟩
  rintro c3 e3
  have q1 : c1 = true ↔ 0 ≤ j ∧ j ≤ n - 1 := by rw [e1]; exact inB_iff
  have q2 : c2 = true ↔ 0 ≤ t ∧ t ≤ 1099511627776 := by rw [e2]; exact inB_iff
  have q3 : c3 = true ↔ 0 ≤ u ∧ u ≤ 1099511627776 := by rw [e3]; exact inB_iff
  refine ⟨fun h => ⟨?_, trivial⟩, fun h => ⟨?_, trivial⟩⟩
  · rw [if_neg]
    rintro ⟨h0, h1, h2, h3, h4⟩
    rcases h with (h | h) | h
    · exact h (q1.2 (by omega))
    · exact h (q2.2 h2)
    · exact h (q3.2 ⟨h3, h4⟩)
  · have r1 := q1.1 (Classical.byContradiction fun hh => h (.inl (.inl hh)))
    have r2 := q2.1 (Classical.byContradiction fun hh => h (.inl (.inr hh)))
    have r3 := q3.1 (Classical.byContradiction fun hh => h (.inr hh))
    rw [if_pos ⟨by omega, by omega, r2, r3.1, r3.2⟩]
theorem tm1 {t : Int} : allI (tmO (setA zA 0 0 t)) 1 = true ↔ 0 ≤ t ∧ t ≤ 1099511627776 := by
  have e : tmO (setA zA 0 0 t) 0 = decide (0 ≤ t ∧ t ≤ 1099511627776) := by unfold tmO; simp [setA]
  constructor
  · intro h
    have := allI_at h (i := 0) (by omega) (by omega)
    rw [e] at this; exact of_decide_eq_true this
  · intro h
    refine allI_of fun i i0 i1 => ?_
    obtain rfl : i = 0 := by omega
    rw [e]; exact decide_eq_true h
theorem tm2 {t u : Int} : allI (tmO (setA (setA zA 0 0 t) 1 0 u)) 2 = true ↔ (0 ≤ t ∧ t ≤ 1099511627776) ∧ 0 ≤ u ∧ u ≤ 1099511627776 := by
  have e : tmO (setA (setA zA 0 0 t) 1 0 u) 0 = decide (0 ≤ t ∧ t ≤ 1099511627776) := by unfold tmO; simp [setA]
  have e2 : tmO (setA (setA zA 0 0 t) 1 0 u) 1 = decide (0 ≤ u ∧ u ≤ 1099511627776) := by unfold tmO; simp [setA]
  constructor
  · intro h
    have h1 := allI_at h (i := 0) (by omega) (by omega)
    have h2 := allI_at h (i := 1) (by omega) (by omega)
    rw [e] at h1; rw [e2] at h2
    exact ⟨of_decide_eq_true h1, of_decide_eq_true h2⟩
  · intro h
    refine allI_of fun i i0 i1 => ?_
    have : i = 0 ∨ i = 1 := by omega
    rcases this with rfl | rfl
    · rw [e]; exact decide_eq_true h.1
    · rw [e2]; exact decide_eq_true h.2
theorem ma1 {a : Int → Nat → Int} {n : Int} {l : Int → Int} {f : Int → Int → Nat → Int} {m : Int} {b : Int → Nat → Int} {k j t : Int} : maT a n l f m b k j (setA zA 0 0 t) 1 = maE a n l f m b k j t 0 := by
  unfold maT maE
  by_cases hc : mcE a n l f m b k = 0
  · rw [if_pos hc, if_pos hc]
    by_cases h : 0 ≤ j ∧ j < n ∧ allI (tmO (setA zA 0 0 t)) 1 = true
    · rw [if_pos h, if_pos ⟨h.1, h.2.1, tm1.1 h.2.2, by omega, by omega⟩]
    · rw [if_neg h, if_neg fun hh => h ⟨hh.1, hh.2.1, tm1.2 hh.2.2.1⟩]
  · rw [if_neg hc, if_neg hc]
theorem ma2 {a : Int → Nat → Int} {n : Int} {l : Int → Int} {f : Int → Int → Nat → Int} {m : Int} {b : Int → Nat → Int} {k j t u : Int} : maT a n l f m b k j (setA (setA zA 0 0 t) 1 0 u) 2 = maE a n l f m b k j t u := by
  unfold maT maE
  by_cases hc : mcE a n l f m b k = 0
  · rw [if_pos hc, if_pos hc]
    by_cases h : 0 ≤ j ∧ j < n ∧ allI (tmO (setA (setA zA 0 0 t) 1 0 u)) 2 = true
    · rw [if_pos h, if_pos ⟨h.1, h.2.1, tm2.1 h.2.2⟩]
    · rw [if_neg h, if_neg fun hh => h ⟨hh.1, hh.2.1, tm2.2 hh.2.2⟩]
  · rw [if_neg hc, if_neg hc]
theorem ma_ok {a : Int → Nat → Int} {n : Int} {l : Int → Int} {f : Int → Int → Nat → Int} {m : Int} {b : Int → Nat → Int} {k j t u : Int} (h : maE a n l f m b k j t u = 0) : mcE a n l f m b k = 0 ∧ 0 ≤ j ∧ j < n ∧ 0 ≤ t ∧ t ≤ 1099511627776 ∧ 0 ≤ u ∧ u ≤ 1099511627776 := by
  unfold maE at h
  split at h
  · rename_i hc
    split at h
    · rename_i h2; exact ⟨hc, h2.1, h2.2.1, h2.2.2.1.1, h2.2.2.1.2, h2.2.2.2.1, h2.2.2.2.2⟩
    · cases h
  · rename_i hc; exact absurd h hc
/-! parts of lists -/
theorem fl_step {p : Int → Bool} {b : Int → Nat → Int} {x : Int → Nat → Int} {c i : Int} (i0 : 0 ≤ i) (hc : c = cntI p i) (hx : ∀ r, 0 ≤ r → r < c → ∀ g, g < 4 → x r g = flA p b i.toNat r g) (hp : p i = true) :
    c + 1 = cntI p (i + 1) ∧ ∀ r, 0 ≤ r → r < c + 1 → ∀ g, g < 4 → appA x c (setA (setA (setA (setA zA 0 0 (b i 0)) 0 1 (b i 1)) 0 2 (b i 2)) 0 3 (b i 3)) r g = flA p b (i + 1).toNat r g := by
  obtain ⟨e1, _⟩ := @cnt_succ p i i0
  rw [if_pos hp] at e1
  refine ⟨by rw [e1, hc], fun r r0 r1 g hg => ?_⟩
  obtain ⟨q, rfl⟩ := Int.eq_ofNat_of_zero_le i0
  rw [show ((q : Int) + 1).toNat = q + 1 by omega]
  rw [show ((q : Int)).toNat = q by omega] at hx
  have hc' : c = cntN p q := by rw [hc]; unfold cntI; rw [show ((q : Int)).toNat = q by omega]
  show _ = (if p q = true then appA (flA p b q) (cntN p q) (fun i g => b q g) else flA p b q) r g
  rw [if_pos hp]
  unfold appA
  rw [← hc']
  split
  · rename_i h; exact hx r r0 h g hg
  · obtain rfl : r = c := by omega
    rw [Int.sub_self]
    match g, hg with
    | 0, _ => simp [setA]
    | 1, _ => simp [setA]
    | 2, _ => simp [setA]
    | 3, _ => simp [setA]
theorem fl_skip {p : Int → Bool} {b : Int → Nat → Int} {i : Int} (i0 : 0 ≤ i) (hp : ¬ p i = true) : cntI p (i + 1) = cntI p i ∧ flA p b (i + 1).toNat = flA p b i.toNat := by
  obtain ⟨e1, _⟩ := @cnt_succ p i i0
  rw [if_neg hp] at e1
  refine ⟨e1, ?_⟩
  obtain ⟨q, rfl⟩ := Int.eq_ofNat_of_zero_le i0
  rw [show ((q : Int) + 1).toNat = q + 1 by omega, show ((q : Int)).toNat = q by omega]
  show (if p q = true then _ else flA p b q) = _
  rw [if_neg hp]
theorem flN_in {p : Int → Bool} {b : Int → Nat → Int} : ∀ (q : Nat) (r : Int), 0 ≤ r → r < cntN p q → ∃ i : Int, 0 ≤ i ∧ i < q ∧ p i = true ∧ ∀ g, flA p b q r g = b i g
  | 0, r, r0, r1 => by
    have : cntN p 0 = 0 := rfl
    omega
  | q + 1, r, r0, r1 => by
    have r1' : r < if p q = true then cntN p q + 1 else cntN p q := r1
    by_cases hp : p q = true
    · rw [if_pos hp] at r1'
      have e : flA p b (q + 1) = appA (flA p b q) (cntN p q) (fun i g => b q g) := by
        show (if p q = true then _ else _) = _
        rw [if_pos hp]
      rw [e]
      unfold appA
      by_cases h : r < cntN p q
      · obtain ⟨i, i0, i1, i2, i3⟩ := flN_in (p := p) (b := b) q r r0 h
        exact ⟨i, i0, by omega, i2, fun g => by rw [if_pos h]; exact i3 g⟩
      · exact ⟨q, by omega, by omega, hp, fun g => by rw [if_neg h]⟩
    · rw [if_neg hp] at r1'
      have e : flA p b (q + 1) = flA p b q := by
        show (if p q = true then _ else _) = _
        rw [if_neg hp]
      rw [e]
      obtain ⟨i, i0, i1, i2, i3⟩ := flN_in (p := p) (b := b) q r r0 r1'
      exact ⟨i, i0, by omega, i2, i3⟩
theorem flN_all {p : Int → Bool} {b : Int → Nat → Int} : ∀ (q : Nat) (i : Int), 0 ≤ i → i < q → p i = true → ∃ r : Int, 0 ≤ r ∧ r < cntN p q ∧ ∀ g, flA p b q r g = b i g
  | 0, i, i0, i1, _ => by omega
  | q + 1, i, i0, i1, hi => by
    have hb := cntN_bd p q
    show ∃ r : Int, 0 ≤ r ∧ (r < if p q = true then cntN p q + 1 else cntN p q) ∧ ∀ g, (if p q = true then appA (flA p b q) (cntN p q) (fun i g => b q g) else flA p b q) r g = b i g
    by_cases hq : i = q
    · subst hq
      rw [if_pos hi, if_pos hi]
      exact ⟨cntN p q, hb.1, by omega, fun g => by unfold appA; rw [if_neg (by omega)]⟩
    · obtain ⟨r, r0, r1, r2⟩ := flN_all (p := p) (b := b) q i i0 (by omega) hi
      by_cases hp : p q = true
      · rw [if_pos hp, if_pos hp]
        exact ⟨r, r0, by omega, fun g => by unfold appA; rw [if_pos r1]; exact r2 g⟩
      · rw [if_neg hp, if_neg hp]
        exact ⟨r, r0, r1, r2⟩
section
variable {a : Int → Nat → Int} {n : Int} {l : Int → Int} {f : Int → Int → Nat → Int} {m : Int} {b : Int → Nat → Int} {k j : Int}
theorem bz_iff {x y : Int} : bzB a f m b k j x y = true ↔ ∃ i, 0 ≤ i ∧ i < k ∧ snP a f m b j i = true ∧ b i 1 < y ∧ x < b i 2 := by
  unfold bzB
  constructor
  · intro h
    apply Classical.byContradiction
    intro hc
    have : allI (bzN a f m b j x y) k = true := allI_of fun i i0 i1 => by
      unfold bzN
      cases h1 : snP a f m b j i with
      | false => rfl
      | true =>
        by_cases h2 : b i 1 < y
        · by_cases h3 : x < b i 2
          · exact absurd ⟨i, i0, i1, h1, h2, h3⟩ hc
          · simp [h3]
        · simp [h2]
    rw [this] at h; cases h
  · rintro ⟨i, i0, i1, h1, h2, h3⟩
    cases hh : allI (bzN a f m b j x y) k with
    | false => rfl
    | true =>
      have := allI_at hh i0 i1
      unfold bzN at this
      rw [h1] at this
      simp [h2, h3] at this
theorem bz_sn {x y : Int} : bzB a f m b k j x y = true ↔ ∃ r, 0 ≤ r ∧ r < snN a f m b k j ∧ snA a f m b k j r 1 < y ∧ x < snA a f m b k j r 2 := by
  rw [bz_iff]
  unfold snN snA cntI
  constructor
  · rintro ⟨i, i0, i1, h1, h2, h3⟩
    obtain ⟨r, r0, r1, r2⟩ := flN_all (p := snP a f m b j) (b := b) k.toNat i i0 (by omega) h1
    exact ⟨r, r0, r1, by rw [r2]; exact h2, by rw [r2]; exact h3⟩
  · rintro ⟨r, r0, r1, h2, h3⟩
    obtain ⟨i, i0, i1, i2, i3⟩ := flN_in (p := snP a f m b j) (b := b) k.toNat r r0 r1
    exact ⟨i, i0, by omega, i2, by rw [← i3]; exact h2, by rw [← i3]; exact h3⟩
theorem bz_no {x y : Int} (h : ¬ ∃ r, 0 ≤ r ∧ r < snN a f m b k j ∧ snA a f m b k j r 1 < y ∧ x < snA a f m b k j r 2) : bzB a f m b k j x y = false := by
  cases hh : bzB a f m b k j x y with
  | false => rfl
  | true => exact absurd (bz_sn.1 hh) h
theorem sn_bd (hc : mcE a n l f m b k = 0) {r : Int} (r0 : 0 ≤ r) (r1 : r < snN a f m b k j) : 0 ≤ snA a f m b k j r 1 ∧ snA a f m b k j r 1 < snA a f m b k j r 2 ∧ snA a f m b k j r 2 ≤ 1099511627776 := by
  obtain ⟨i, i0, i1, i2, i3⟩ := flN_in (p := snP a f m b j) (b := b) k.toNat r r0 r1
  have := (mc_ok hc).2.2 i i0 (by omega)
  have e : ∀ g, snA a f m b k j r g = b i g := i3
  rw [e, e]
  omega
end
theorem vc37 : VC37 := by
  intro a n l f m b k j hp _ _ hk
  obtain ⟨hc, j0, j1⟩ := hp
  obtain ⟨hw, h64, hrow⟩ := mc_ok hc
  refine ⟨fun x c i => 0 ≤ i ∧ i ≤ k ∧ c = cntI (snP a f m b j) i ∧ ∀ r, 0 ≤ r → r < c → ∀ g, g < 4 → x r g = flA (snP a f m b j) b i.toNat r g, fun _ _ i => (k - i).toNat, ⟨by omega, by omega, rfl, fun r h0 h1 => by omega⟩, ?_⟩
  rintro x c i ⟨i0, i1, hcn, hx⟩ _ _ _ _ _
  have hb := cntI_bd (snP a f m b j) i0
  refine ⟨fun h1 => ⟨i0, fun _ => ⟨trivial, ?_⟩⟩, fun h1 => ?_⟩
  · rintro o e ho _
    have hr := hrow i i0 h1
    have hlv : lvE a n l f m j (b i 0) = 0 := by unfold lvE; rw [if_pos hw, if_pos ⟨j0, j1, hr.1, hr.2.1⟩]
    have ho' : o = hrA a f m j (b i 0) := by rw [ho]; unfold hrV; rw [hlv]; simp
    have hsp : snP a f m b j i = true ↔ (o = true ∨ b i 0 = j) := by unfold snP; rw [ho']; simp
    refine ⟨fun h2 => ?_, fun h2 => ?_⟩
    · obtain ⟨e1, e2⟩ := fl_step (b := b) i0 hcn hx (hsp.2 h2)
      exact ⟨by omega, fun _ => ⟨by omega, fun _ => ⟨by omega, fun _ => ⟨⟨by omega, by omega, e1, e2⟩, by dsimp only; omega⟩⟩⟩⟩
    · obtain ⟨e1, e2⟩ := fl_skip (b := b) i0 (fun h => h2 (hsp.1 h))
      exact ⟨by omega, fun _ => ⟨⟨by omega, by omega, by rw [e1]; exact hcn, by rw [e2]; exact hx⟩, by dsimp only; omega⟩⟩
  · obtain rfl : i = k := by omega
    exact ⟨hcn, fun r g r0 r1 hg => hx r r0 (by rw [hcn]; exact r1) g hg, trivial⟩
theorem vc16 : VC16 := by
  intro b k t hp hk
  refine ⟨fun x c i => 0 ≤ i ∧ i ≤ k ∧ c = cntI (drP b t) i ∧ ∀ r, 0 ≤ r → r < c → ∀ g, g < 4 → x r g = flA (drP b t) b i.toNat r g, fun _ _ i => (k - i).toNat, ⟨by omega, by omega, rfl, fun r h0 h1 => by omega⟩, ?_⟩
  rintro x c i ⟨i0, i1, hcn, hx⟩ _ _ _
  have hb := cntI_bd (drP b t) i0
  refine ⟨fun h1 => ⟨i0, fun _ => ⟨fun h2 => ?_, fun h2 => ?_⟩⟩, fun h1 => ?_⟩
  · obtain ⟨e1, e2⟩ := fl_step (b := b) i0 hcn hx (by unfold drP; exact decide_eq_true h2)
    exact ⟨by omega, fun _ => ⟨by omega, fun _ => ⟨by omega, fun _ => ⟨⟨by omega, by omega, e1, e2⟩, by dsimp only; omega⟩⟩⟩⟩
  · obtain ⟨e1, e2⟩ := fl_skip (p := drP b t) (b := b) i0 (by unfold drP; simp; omega)
    exact ⟨by omega, fun _ => ⟨⟨by omega, by omega, by rw [e1]; exact hcn, by rw [e2]; exact hx⟩, by dsimp only; omega⟩⟩
  · obtain rfl : i = k := by omega
    exact ⟨hcn, fun r g r0 r1 hg => hx r r0 (by rw [hcn]; exact r1) g hg, trivial⟩
end Go.Proofs.Ytgdjdaoglkfjdaa
