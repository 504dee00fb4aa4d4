/- Receiving: what is left to show of each function. -/
import Derived.Test.YtgdjdaoglkfjdaaP4
import Derived.Test.YtgdjdaoglkfjdaaC4
namespace Go.Proofs.Ytgdjdaoglkfjdaa
open Go Go.RowKit Go.Proofs.Ytgdjdaoglkfjdaa.Vc
section
variable {a : Int → Nat → Int} {n : Int} {l : Int → Int} {f : Int → Int → Nat → Int} {m : Int} {b : Int → Nat → Int} {k : Int}
theorem lv_range {i j : Int} (h : ckW a n l f m = 0) (i0 : 0 ≤ i) (i1 : i < n) (j0 : 0 ≤ j) (j1 : j < n) : -5000 ≤ lvA a f m i j ∧ lvA a f m i j ≤ 5000 := by
  have r1 := ckW_row h i i0 i1
  have r3 := fun hm => ckW_sh h i j i0 hm j0 j1
  have r4 := ckW_ok h
  have r5 := dsW_ok h i0 i1 j0 j1
  have e : lvA a f m i j = a i 2 - (loss (dsW a i j) + (if 0 < m then f i j 0 else 0)) := rfl
  rw [e]
  split
  · have := r3 (by omega)
    omega
  · omega
theorem vc44 : VC44 := by
  intro a n l f m b k i j hp _ _ _
  obtain ⟨hc, i0, i1, j0, j1⟩ := hp
  obtain ⟨hw, h64, hrow⟩ := mc_ok hc
  have hr := hrow i i0 i1
  refine ⟨i0, fun _ => ⟨i1, fun _ => ⟨⟨hw, hr.1, hr.2.1, j0, j1⟩, ?_⟩⟩⟩
  rintro v hv _ _ _
  refine ⟨⟨hw, j0, j1, hr.1, hr.2.1⟩, ?_⟩
  rintro o ho
  have hcb : caB a f m b k i j = (o && (decide (b i 3 ≤ v) && allI (cnR a f m b i j) k)) := by unfold caB; rw [ho, hv]
  refine ⟨fun h => ⟨?_, trivial⟩, fun h => ?_⟩
  · rw [hcb]
    rcases h with h | h
    · simp [h]
    · rw [decide_eq_false (show ¬ b i 3 ≤ v by omega)]; simp
  · have ho1 : o = true := Classical.byContradiction fun hh => h (.inl hh)
    have hv1 : b i 3 ≤ v := Int.not_lt.1 fun hh => h (.inr hh)
    have hcb2 : caB a f m b k i j = allI (cnR a f m b i j) k := by rw [hcb, ho1, decide_eq_true hv1]; rfl
    have hno : ∀ {r : Int}, 0 ≤ r → r < k → cnR a f m b i j r = false → (False ↔ caB a f m b k i j = true) := fun {r} r0 r1 hh => by
      rw [hcb2]
      refine ⟨False.elim, fun hal => ?_⟩
      rw [allI_at hal r0 r1] at hh; cases hh
    refine ⟨fun r => 0 ≤ r ∧ r ≤ k ∧ allI (cnR a f m b i j) r = true, fun r => (k - r).toNat, ⟨by omega, by omega, rfl⟩, ?_⟩
    rintro r ⟨r0, r1, hr2⟩
    refine ⟨fun hlt => ⟨.inr r0, fun _ => ⟨.inr r0, fun _ => ⟨fun _ => trivial, ?_⟩⟩⟩, fun hge => ⟨?_, trivial⟩⟩
    · rintro ov hov
      have hxr := hrow r r0 hlt
      have hstep : cnR a f m b i j r = true → allI (cnR a f m b i j) (r + 1) = true := fun h => by rw [allI_succ r0, hr2, h]; rfl
      have hcn : cnR a f m b i j r = (decide (r = i) || (!ov || !(cnX a f m b i j r))) := by unfold cnR; rw [hov]
      refine ⟨fun h1 => ⟨by omega, fun _ => ⟨⟨by omega, by omega, hstep ?_⟩, by dsimp only; omega⟩⟩, fun h1 => ⟨r0, fun _ => ?_⟩⟩
      · rw [hcn]
        rcases h1 with h1 | h1
        · simp [h1]
        · simp [h1]
      · have hri : ¬ r = i := fun hh => h1 (.inl hh)
        have hov1 : ov = true := Classical.byContradiction fun hh => h1 (.inr hh)
        have hcn2 : cnR a f m b i j r = !(cnX a f m b i j r) := by rw [hcn, decide_eq_false hri, hov1]; rfl
        refine ⟨fun h2 => ⟨hno r0 hlt (by rw [hcn2]; unfold cnX; simp [h2]), trivial⟩, fun h2 => ⟨hxr.1, fun _ => ⟨hxr.2.1, fun _ => ⟨j0, fun _ => ⟨j1, fun _ => ⟨fun _ => ⟨hw, hxr.1, hxr.2.1, j0, j1⟩, ?_⟩⟩⟩⟩⟩⟩
        rintro u hu
        have hub := lv_range hw hxr.1 hxr.2.1 j0 j1
        rw [← hu] at hub
        have hcx : cnX a f m b i j r = (decide (a (b r 0) 3 = a j 3) && decide (v < u + 100)) := by unfold cnX; rw [decide_eq_false h2, hv, hu]; rfl
        refine ⟨.inr (by omega), fun _ => ⟨fun h3 => ⟨hno r0 hlt (by rw [hcn2, hcx, decide_eq_true h3.1, decide_eq_true h3.2]; rfl), trivial⟩, fun h3 => ⟨by omega, fun _ => ⟨⟨by omega, by omega, hstep ?_⟩, by dsimp only; omega⟩⟩⟩⟩
        rw [hcn2, hcx]
        by_cases h4 : a (b r 0) 3 = a j 3
        · rw [decide_eq_false (show ¬ v < u + 100 from fun h5 => h3 ⟨h4, h5⟩)]; simp
        · simp [h4]
    · obtain rfl : r = k := by omega
      rw [hcb2, hr2]; simp
theorem cnt_le (p : Int → Bool) {i : Int} (h : 0 ≤ i) : 0 ≤ cntI p i ∧ cntI p i ≤ i := cntI_bd p h
theorem rvC_succ {p : Int → Int → Bool} {n i : Int} (h : 0 ≤ i) : rvC p n (i + 1).toNat = rvC p n i.toNat + cntI (p i) n := by
  obtain ⟨k, rfl⟩ := Int.eq_ofNat_of_zero_le h
  rw [show ((k : Int) + 1).toNat = k + 1 by omega, show ((k : Int)).toNat = k by omega]; rfl
theorem rvC_bd (p : Int → Int → Bool) {n : Int} (h0 : 0 ≤ n) (h : n ≤ 32) : ∀ i : Nat, 0 ≤ rvC p n i ∧ rvC p n i ≤ 32 * i
  | 0 => ⟨Int.le_refl _, Int.le_refl _⟩
  | i + 1 => by
    have h1 := rvC_bd p h0 h i
    have h2 := cntI_bd (p i) h0
    show 0 ≤ rvC p n i + cntI (p i) n ∧ rvC p n i + cntI (p i) n ≤ _
    omega
/-- a row that grows -/
structure Grow (q : Int → Bool) (j len : Int) (row : Int → Nat → Int) : Prop where
  l : len = cntI q j
  e : ∀ r, 0 ≤ r → r < len → row r 0 = lstI q j r 0
theorem Grow.zero (q : Int → Bool) (row : Int → Nat → Int) : Grow q 0 0 row := ⟨rfl, fun r h0 h1 => by omega⟩
theorem Grow.skip {q : Int → Bool} {j len : Int} {row : Int → Nat → Int} (h : Grow q j len row) (j0 : 0 ≤ j) (hq : q j = false) : Grow q (j + 1) len row := by
  obtain ⟨c1, c2⟩ := @cnt_succ q j j0
  rw [hq] at c1 c2
  exact ⟨by rw [c1]; exact h.l, by rw [c2]; exact h.e⟩
theorem Grow.take {q : Int → Bool} {j len : Int} {row : Int → Nat → Int} (h : Grow q j len row) (j0 : 0 ≤ j) (hq : q j = true) : Grow q (j + 1) (len + 1) (appA row len (setA zA 0 0 j)) := by
  obtain ⟨c1, c2⟩ := @cnt_succ q j j0
  rw [hq, if_pos rfl] at c1 c2
  refine ⟨by rw [c1, h.l], fun r r0 r1 => ?_⟩
  rw [c2, ← h.l]
  unfold appA
  by_cases hr : r < len
  · rw [if_pos hr, if_pos hr]; exact h.e r r0 hr
  · rw [if_neg hr, if_neg hr]
theorem Grow.congr {q : Int → Bool} {j len : Int} {row row' : Int → Nat → Int} (h : Grow q j len row) (e : ∀ r, row' r 0 = row r 0) : Grow q j len row' := ⟨h.l, fun r r0 r1 => by rw [e]; exact h.e r r0 r1⟩
theorem kp_iff {d : Int → Nat → Int} {h c : Int} : kpB d h c = true ↔ h ≤ c ∨ d c 0 = 0 := by unfold kpB; simp
theorem rv_take {p : Int → Int → Bool} {d : Int → Nat → Int} {h i j c : Int} (hc : c = rvC p n i.toNat + cntI (p i) j) (hp : p i j = true) (hk : h ≤ c ∨ d c 0 = 0) : rvQ p n d h i j = true := by
  unfold rvQ; rw [hp, ← hc, kp_iff.2 hk]; rfl
theorem rv_lost {p : Int → Int → Bool} {d : Int → Nat → Int} {h i j c : Int} (hc : c = rvC p n i.toNat + cntI (p i) j) (hk : ¬ (h ≤ c ∨ d c 0 = 0)) : rvQ p n d h i j = false := by
  unfold rvQ
  rw [← hc, show kpB d h c = false by cases hh : kpB d h c with | false => rfl | true => exact absurd (kp_iff.1 hh) hk]
  simp
theorem rv_not {p : Int → Int → Bool} {d : Int → Nat → Int} {h i j : Int} (hp : p i j = false) : rvQ p n d h i j = false := by unfold rvQ; rw [hp]; rfl
theorem ct_yes {p : Int → Bool} {j : Int} (j0 : 0 ≤ j) (h : p j = true) : cntI p (j + 1) = cntI p j + 1 := by rw [(@cnt_succ p j j0).1, if_pos h]
theorem ct_no {p : Int → Bool} {j : Int} (j0 : 0 ≤ j) (h : p j = false) : cntI p (j + 1) = cntI p j := by rw [(@cnt_succ p j j0).1, if_neg (by rw [h]; simp)]
theorem re_none {e : Int} {d : Int → Nat → Int} {h : Int} (he : e = mcE a n l f m b k) (hn : ¬ e = 0) : (0 : Int) = reN a n l f m b k ∧ (∀ (i : Int), 0 ≤ i → i < reN a n l f m b k → zL i = reL a n f m b k d h i ∧ ∀ (j : Int) (g : Nat), 0 ≤ j → j < reL a n f m b k d h i → g < 1 → zF i j g = reF a n f m b k d h i j g) ∧ e = mcE a n l f m b k ∧ True := by
  have : reN a n l f m b k = 0 := by unfold reN; rw [← he, if_neg hn]
  rw [this]
  exact ⟨rfl, fun i h0 h1 => by omega, he, trivial⟩
end
set_option maxHeartbeats 1000000 in
theorem vc20 : VC20 := by
  intro a n l f m b k d h _ hn hm hk hh
  refine ⟨trivial, ?_⟩
  rintro e he _ _ _ _
  refine ⟨fun h1 => re_none he h1, fun h1 => ?_⟩
  have hc : mcE a n l f m b k = 0 := by omega
  obtain ⟨hw, h64, hrow⟩ := mc_ok hc
  have hn32 := (ckW_ok hw).2.1
  have hN : reN a n l f m b k = k := by unfold reN; rw [if_pos hc]
  obtain ⟨P, hP⟩ : ∃ P, caB a f m b k = P := ⟨_, rfl⟩
  have hL : ∀ i, reL a n f m b k d h i = cntI (rvQ P n d h i) n := fun i => by unfold reL; rw [hP]
  have hF : ∀ i, reF a n f m b k d h i = lstI (rvQ P n d h i) n := fun i => by unfold reF; rw [hP]
  refine ⟨by omega, fun _ => ?_⟩
  refine ⟨fun c i L F N => 0 ≤ i ∧ i ≤ k ∧ N = k ∧ c = rvC P n i.toNat ∧ (∀ q, 0 ≤ q → q < i → Grow (rvQ P n d h q) n (L q) (F q)) ∧ ∀ q, i ≤ q → q < k → L q = 0, fun _ i _ _ _ => (k - i).toNat,
    ⟨by omega, by omega, rfl, rfl, fun q h0 h1 => by omega, fun q h0 h1 => by unfold srL; rw [if_neg (by omega)]; rfl⟩, ?_⟩
  rintro c i L F N ⟨i0, i1, rfl, hcc, hdone, hrest⟩ _ _
  refine ⟨fun h2 => ?_, fun h2 => ?_⟩
  · refine ⟨fun c j L F N' => 0 ≤ j ∧ j ≤ n ∧ N' = N ∧ c = rvC P n i.toNat + cntI (P i) j ∧ (∀ q, 0 ≤ q → q < i → Grow (rvQ P n d h q) n (L q) (F q)) ∧ (∀ q, i < q → q < N → L q = 0) ∧ Grow (rvQ P n d h i) j (L i) (F i), fun _ j _ _ _ => (n - j).toNat,
      ⟨by omega, by omega, rfl, by rw [hcc]; simp [cnt_zero], hdone, fun q h0 h1 => hrest q (by omega) h1, by rw [hrest i (by omega) h2]; exact Grow.zero _ _⟩, ?_⟩
    rintro c j L F N' ⟨j0, j1, rfl, hcj, hdone, hrest, hg⟩ _ _
    have hcb := rvC_bd P hn hn32 i.toNat
    have hcb2 := cntI_bd (P i) j0
    have hgb := cntI_bd (rvQ P n d h i) j0
    rw [← hg.l] at hgb
    refine ⟨fun h3 => ⟨⟨hc, i0, h2, j0, h3⟩, ?_⟩, fun h3 => ?_⟩
    · rintro v hv
      have hv : v = P i j := by rw [hv, hP]
      refine ⟨fun h4 => ?_, fun h4 => ?_⟩
      · have hf : P i j = false := by rw [← hv]; simpa using h4
        exact ⟨by omega, fun _ => ⟨⟨by omega, by omega, rfl, by rw [ct_no j0 hf]; exact hcj, hdone, hrest, hg.skip j0 (rv_not hf)⟩, by dsimp only; omega⟩⟩
      · have ht : P i j = true := by rw [← hv]; exact Classical.not_not.1 h4
        refine ⟨.inr (by omega), fun _ => ⟨by omega, fun _ => ⟨.inr (by omega), fun _ => ⟨by omega, fun _ => ⟨fun h5 => ?_, fun h5 => ?_⟩⟩⟩⟩⟩
        · refine ⟨i0, fun _ => ⟨h2, fun _ => ⟨by omega, fun _ => ⟨by omega, fun _ => ⟨by omega, fun _ => ⟨by omega, fun _ => ⟨⟨by omega, by omega, rfl, by rw [ct_yes j0 ht, hcj]; omega, fun q q0 q1 => ?_, fun q q0 q1 => ?_, ?_⟩, by dsimp only; omega⟩⟩⟩⟩⟩⟩⟩
          · have : q ≠ i := by omega
            simp only [srL, srF, if_neg this]
            exact hdone q q0 q1
          · have : q ≠ i := by omega
            simp only [srL, if_neg this]
            exact hrest q q0 q1
          · simp only [srL, srF, if_pos rfl]
            exact hg.take j0 (rv_take hcj ht h5)
        · exact ⟨by omega, fun _ => ⟨by omega, fun _ => ⟨⟨by omega, by omega, rfl, by rw [ct_yes j0 ht, hcj]; omega, hdone, hrest, hg.skip j0 (rv_lost hcj h5)⟩, by dsimp only; omega⟩⟩⟩
    · obtain rfl : j = n := by omega
      refine ⟨by omega, fun _ => ⟨⟨by omega, by omega, rfl, by rw [rvC_succ i0]; exact hcj, fun q q0 q1 => ?_, fun q q0 q1 => hrest q (by omega) q1⟩, by dsimp only; omega⟩⟩
      by_cases hq : q = i
      · subst hq; exact hg
      · exact hdone q q0 (by omega)
  · obtain rfl : i = N := by omega
    refine ⟨hN.symm, fun q q0 q1 => ?_, hc.symm, trivial⟩
    rw [hN] at q1
    have hg := hdone q q0 q1
    rw [hL, hF]
    refine ⟨hg.l, fun j g j0 j1 hg1 => ?_⟩
    obtain rfl : g = 0 := by omega
    exact hg.e j j0 (by rw [hg.l]; exact j1)
set_option maxHeartbeats 1000000 in
theorem vc21 : VC21 := by
  intro a n l f m b k d h _ hn hm hk hh
  refine ⟨trivial, ?_⟩
  rintro e he _ _ _ _
  refine ⟨fun h1 => re_none he h1, fun h1 => ?_⟩
  have hc : mcE a n l f m b k = 0 := by omega
  obtain ⟨hw, h64, hrow⟩ := mc_ok hc
  have hn32 := (ckW_ok hw).2.1
  have hN : reN a n l f m b k = k := by unfold reN; rw [if_pos hc]
  obtain ⟨P, hP⟩ : ∃ P, caB a f m b k = P := ⟨_, rfl⟩
  have hL : ∀ i, reL a n f m b k d h i = cntI (rvQ P n d h i) n := fun i => by unfold reL; rw [hP]
  have hF : ∀ i, reF a n f m b k d h i = lstI (rvQ P n d h i) n := fun i => by unfold reF; rw [hP]
  refine ⟨fun c i L F N => 0 ≤ i ∧ i ≤ k ∧ N = i ∧ c = rvC P n i.toNat ∧ ∀ q, 0 ≤ q → q < i → Grow (rvQ P n d h q) n (L q) (F q), fun _ i _ _ _ => (k - i).toNat, ⟨by omega, by omega, rfl, rfl, fun q h0 h1 => by omega⟩, ?_⟩
  rintro c N L F i ⟨i0, i1, rfl, hcc, hdone⟩ _ _
  refine ⟨fun h2 => ?_, fun h2 => ?_⟩
  · refine ⟨fun c x len j => 0 ≤ j ∧ j ≤ n ∧ c = rvC P n i.toNat + cntI (P i) j ∧ Grow (rvQ P n d h i) j len x, fun _ _ _ j => (n - j).toNat, ⟨by omega, by omega, by rw [hcc]; simp [cnt_zero], Grow.zero _ _⟩, ?_⟩
    rintro c x len j ⟨j0, j1, hcj, hg⟩ _ _
    have hcb := rvC_bd P hn hn32 i.toNat
    have hcb2 := cntI_bd (P i) j0
    have hgb := cntI_bd (rvQ P n d h i) j0
    rw [← hg.l] at hgb
    refine ⟨fun h3 => ⟨⟨hc, i0, h2, j0, h3⟩, ?_⟩, fun h3 => ?_⟩
    · rintro v hv
      have hv : v = P i j := by rw [hv, hP]
      refine ⟨fun h4 => ?_, fun h4 => ?_⟩
      · have ht : P i j = true := by rw [← hv]; exact h4
        refine ⟨.inr (by omega), fun _ => ⟨by omega, fun _ => ⟨.inr (by omega), fun _ => ⟨by omega, fun _ => ⟨fun h5 => ?_, fun h5 => ?_⟩⟩⟩⟩⟩
        · exact ⟨by omega, fun _ => ⟨by omega, fun _ => ⟨by omega, fun _ => ⟨by omega, fun _ => ⟨⟨by omega, by omega, by rw [ct_yes j0 ht, hcj]; omega, hg.take j0 (rv_take hcj ht h5)⟩, by dsimp only; omega⟩⟩⟩⟩⟩
        · exact ⟨by omega, fun _ => ⟨by omega, fun _ => ⟨⟨by omega, by omega, by rw [ct_yes j0 ht, hcj]; omega, hg.skip j0 (rv_lost hcj h5)⟩, by dsimp only; omega⟩⟩⟩
      · have hf : P i j = false := by rw [← hv]; simpa using h4
        exact ⟨by omega, fun _ => ⟨⟨by omega, by omega, by rw [ct_no j0 hf]; exact hcj, hg.skip j0 (rv_not hf)⟩, by dsimp only; omega⟩⟩
    · obtain rfl : j = n := by omega
      refine ⟨by omega, fun _ => ⟨by omega, fun _ => ⟨by omega, fun _ => ⟨⟨by omega, by omega, rfl, by rw [rvC_succ i0]; exact hcj, fun q q0 q1 => ?_⟩, by dsimp only; omega⟩⟩⟩⟩
      by_cases hq : q = i
      · subst hq
        simp only [srL, srF, if_pos rfl]
        exact hg
      · simp only [srL, srF, if_neg hq]
        exact hdone q q0 (by omega)
  · obtain rfl : i = k := by omega
    refine ⟨hN.symm, fun q q0 q1 => ?_, hc.symm, trivial⟩
    rw [hN] at q1
    have hg := hdone q q0 q1
    rw [hL, hF]
    refine ⟨hg.l, fun j g j0 j1 hg1 => ?_⟩
    obtain rfl : g = 0 := by omega
    exact hg.e j j0 (by rw [hg.l]; exact j1)
theorem vc24 : VC24 := by
  intro l f m l' f' m' _ hm hm' _ _
  have e : srB l f m l' f' m' = (decide (m = m') && allI (smR l f l' f') m) := rfl
  refine ⟨fun h1 => ⟨by rw [e, decide_eq_false h1]; simp, trivial⟩, fun h1 => ?_⟩
  have h1 : m = m' := Classical.not_not.1 h1
  subst h1
  have e2 : srB l f m l' f' m = allI (smR l f l' f') m := by rw [e]; simp
  refine ⟨fun i => 0 ≤ i ∧ i ≤ m ∧ allI (smR l f l' f') i = true, fun i => (m - i).toNat, ⟨by omega, by omega, rfl⟩, ?_⟩
  rintro i ⟨i0, i1, hi⟩
  refine ⟨fun h2 => ⟨i0, fun _ => ⟨h2, fun _ => ⟨trivial, ?_⟩⟩⟩, fun h2 => ⟨?_, trivial⟩⟩
  · rintro v hv _ _ _ _
    have hv2 : smR l f l' f' i = v := by rw [hv]; rfl
    refine ⟨fun h3 => ⟨?_, trivial⟩, fun h3 => ⟨by omega, fun _ => ⟨⟨by omega, by omega, by rw [allI_succ i0, hi, hv2]; simpa using h3⟩, by dsimp only; omega⟩⟩⟩
    rw [e2]
    refine ⟨False.elim, fun hal => h3 ?_⟩
    rw [← hv2]; exact allI_at hal i0 h2
  · obtain rfl : i = m := by omega
    rw [e2, hi]; simp
theorem vc28 : VC28 := by
  intro a n x _ hn
  have e : haB a n x = !(allI (haN a x) n) := rfl
  refine ⟨fun i => 0 ≤ i ∧ i ≤ n ∧ allI (haN a x) i = true, fun i => (n - i).toNat, ⟨by omega, by omega, rfl⟩, ?_⟩
  rintro i ⟨i0, i1, hi⟩ _
  refine ⟨fun h1 => ⟨i0, fun _ => ⟨fun h2 => ⟨?_, trivial⟩, fun h2 => ⟨by omega, fun _ => ⟨⟨by omega, by omega, by rw [allI_succ i0, hi]; unfold haN; simp [h2]⟩, by dsimp only; omega⟩⟩⟩⟩, fun h1 => ⟨?_, trivial⟩⟩
  · have : allI (haN a x) n = false := by
      cases hal : allI (haN a x) n with
      | false => rfl
      | true =>
        have := allI_at hal i0 h1
        unfold haN at this
        simp [h2] at this
    rw [e, this]; simp
  · obtain rfl : i = n := by omega
    rw [e, hi]; simp
theorem lvE_yes {a : Int → Nat → Int} {n : Int} {l : Int → Int} {f : Int → Int → Nat → Int} {m i j : Int} (h : lvE a n l f m i j = 0) : ckW a n l f m = 0 ∧ 0 ≤ i ∧ i < n ∧ 0 ≤ j ∧ j < n := by
  unfold lvE at h
  split at h
  · rename_i hc
    split at h
    · rename_i h2; exact ⟨hc, h2⟩
    · omega
  · omega
theorem vc30 : VC30 := by
  intro a n l f m j _ hn hm
  refine ⟨by omega, ?_⟩
  rw [as1]
  rintro e he _ _
  obtain ⟨p, hp⟩ : ∃ p, p = (fun i => hrA a f m j i) := ⟨_, rfl⟩
  have eN : nbN a n l f m j = if lvE a n l f m j j = 0 then cntI p n else 0 := by rw [hp]; rfl
  have eF : nbF a n f m j = lstI p n := by rw [hp]; rfl
  refine ⟨fun h1 => ?_, fun h1 => ?_⟩
  · have : nbN a n l f m j = 0 := by rw [eN, ← he, if_neg h1]
    rw [this]
    exact ⟨rfl, fun i g h0 h1 => by omega, he, trivial⟩
  have h0 : lvE a n l f m j j = 0 := by omega
  obtain ⟨hw, j0, j1, _, _⟩ := lvE_yes h0
  have hn32 := (ckW_ok hw).2.1
  refine ⟨fun i x c => 0 ≤ i ∧ i ≤ n ∧ Grow p i c x, fun i _ _ => (n - i).toNat, ⟨by omega, by omega, Grow.zero _ _⟩, ?_⟩
  rintro i x c ⟨i0, i1, hg⟩ _ _
  have hgb := cntI_bd p i0
  rw [← hg.l] at hgb
  refine ⟨fun h2 => ⟨⟨hw, j0, j1, i0, h2⟩, ?_⟩, fun h2 => ?_⟩
  · rintro v hv
    have hv : v = p i := by rw [hv, hp]
    refine ⟨fun h3 => ⟨by omega, fun _ => ⟨by omega, fun _ => ⟨by omega, fun _ => ⟨⟨by omega, by omega, hg.take i0 (by rw [← hv]; exact h3)⟩, by dsimp only; omega⟩⟩⟩⟩, fun h3 => ⟨by omega, fun _ => ⟨⟨by omega, by omega, hg.skip i0 (by rw [← hv]; simpa using h3)⟩, by dsimp only; omega⟩⟩⟩
  · obtain rfl : i = n := by omega
    have e3 : nbN a i l f m j = c := by rw [eN, if_pos h0, hg.l]
    rw [e3, eF]
    exact ⟨rfl, (fun r g r0 r1 hg0 => by
      obtain rfl : g = 0 := by omega
      exact hg.e r r0 r1), h0.symm, trivial⟩
end Go.Proofs.Ytgdjdaoglkfjdaa
