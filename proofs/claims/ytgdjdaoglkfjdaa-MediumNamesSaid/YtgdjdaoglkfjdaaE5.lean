/- Receiving in plain words: who is in a row. -/
import Derived.Test.YtgdjdaoglkfjdaaP7
namespace Go.Proofs.Ytgdjdaoglkfjdaa
open Go Go.RowKit Go.Proofs.Ytgdjdaoglkfjdaa.Vc
theorem lstN_in (q : Int → Bool) : ∀ (k : Nat) (r : Int), 0 ≤ r → r < cntN q k → 0 ≤ lstN q k r 0 ∧ lstN q k r 0 < k ∧ q (lstN q k r 0) = true ∧ (0 < r → lstN q k (r - 1) 0 < lstN q k r 0)
  | 0, r, h0, h1 => by
    have : r < 0 := h1
    omega
  | k + 1, r, h0, h1 => by
    have hb := cntN_bd q k
    by_cases hq : q k = true
    · have e1 : cntN q (k + 1) = cntN q k + 1 := by show (if q k = true then cntN q k + 1 else cntN q k) = _; rw [if_pos hq]
      have e2 : lstN q (k + 1) = appA (lstN q k) (cntN q k) (setA zA 0 0 k) := by show (if q k = true then appA (lstN q k) (cntN q k) (setA zA 0 0 k) else lstN q k) = _; rw [if_pos hq]
      have ea : ∀ s, s < cntN q k → lstN q (k + 1) s 0 = lstN q k s 0 := fun s hs => by rw [e2]; unfold appA; rw [if_pos hs]
      have eb : lstN q (k + 1) (cntN q k) 0 = k := by rw [e2]; unfold appA; rw [if_neg (by omega), Int.sub_self]; simp [setA]
      by_cases hr : r < cntN q k
      · obtain ⟨a1, a2, a3, a4⟩ := lstN_in q k r h0 hr
        rw [ea r hr]
        exact ⟨a1, by omega, a3, fun h => by rw [ea _ (by omega)]; exact a4 h⟩
      · have : r = cntN q k := by omega
        subst this
        rw [eb]
        refine ⟨by omega, by omega, hq, fun h => ?_⟩
        rw [ea _ (by omega)]
        exact (lstN_in q k (cntN q k - 1) (by omega) (by omega)).2.1
    · have e1 : cntN q (k + 1) = cntN q k := by show (if q k = true then cntN q k + 1 else cntN q k) = _; rw [if_neg hq]
      have e2 : lstN q (k + 1) = lstN q k := by show (if q k = true then appA (lstN q k) (cntN q k) (setA zA 0 0 k) else lstN q k) = _; rw [if_neg hq]
      rw [e1] at h1
      obtain ⟨a1, a2, a3, a4⟩ := lstN_in q k r h0 h1
      rw [e2]
      exact ⟨a1, by omega, a3, a4⟩
theorem lstI_in (q : Int → Bool) {n r : Int} (h0 : 0 ≤ r) (h1 : r < cntI q n) (hn : 0 ≤ n) : 0 ≤ lstI q n r 0 ∧ lstI q n r 0 < n ∧ q (lstI q n r 0) = true ∧ (0 < r → lstI q n (r - 1) 0 < lstI q n r 0) := by
  have := lstN_in q n.toNat r h0 h1
  unfold lstI
  exact ⟨this.1, by omega, this.2.2⟩
theorem lstN_mem (p : Int → Bool) : ∀ (q : Nat) (i : Int), 0 ≤ i → i < q → p i = true → ∃ r, 0 ≤ r ∧ r < cntN p q ∧ lstN p q r 0 = i
  | 0, i, h0, h1, _ => by omega
  | q + 1, i, h0, h1, hp => by
    have hb := cntN_bd p q
    by_cases hq : p q = true
    · have e1 : cntN p (q + 1) = cntN p q + 1 := by show (if p q = true then cntN p q + 1 else cntN p q) = _; rw [if_pos hq]
      have e2 : lstN p (q + 1) = appA (lstN p q) (cntN p q) (setA zA 0 0 q) := by show (if p q = true then appA (lstN p q) (cntN p q) (setA zA 0 0 q) else lstN p q) = _; rw [if_pos hq]
      by_cases hi : i = q
      · refine ⟨cntN p q, hb.1, by omega, ?_⟩
        rw [e2, hi]; unfold appA; rw [if_neg (by omega), Int.sub_self]
        simp [setA]
      · obtain ⟨r, r0, r1, hr⟩ := lstN_mem p q i h0 (by omega) hp
        exact ⟨r, r0, by omega, by rw [e2]; unfold appA; rw [if_pos r1]; exact hr⟩
    · have e1 : cntN p (q + 1) = cntN p q := by show (if p q = true then cntN p q + 1 else cntN p q) = _; rw [if_neg hq]
      have e2 : lstN p (q + 1) = lstN p q := by show (if p q = true then appA (lstN p q) (cntN p q) (setA zA 0 0 q) else lstN p q) = _; rw [if_neg hq]
      have hi : i ≠ q := fun h => hq (h ▸ hp)
      obtain ⟨r, r0, r1, hr⟩ := lstN_mem p q i h0 (by omega) hp
      exact ⟨r, r0, by omega, by rw [e2]; exact hr⟩
theorem ha_iff {a : Int → Nat → Int} {n x : Int} : haB a n x = true ↔ ∃ r, 0 ≤ r ∧ r < n ∧ a r 0 = x := by
  unfold haB
  constructor
  · intro h
    apply Classical.byContradiction
    intro hh
    have : allI (haN a x) n = true := allI_of fun r r0 r1 => by
      unfold haN
      rw [decide_eq_false fun e => hh ⟨r, r0, r1, e⟩]; rfl
    rw [this] at h; cases h
  · rintro ⟨r, r0, r1, e⟩
    cases hal : allI (haN a x) n with
    | false => rfl
    | true =>
      have := allI_at hal r0 r1
      unfold haN at this
      rw [e] at this
      simp at this
theorem ha_lst {q : Int → Bool} {n x : Int} {a : Int → Nat → Int} {c : Int} (hn : 0 ≤ n) (hc : c = cntI q n) (ha : ∀ r, 0 ≤ r → r < c → a r 0 = lstI q n r 0) : haB a c x = true ↔ 0 ≤ x ∧ x < n ∧ q x = true := by
  rw [ha_iff]
  constructor
  · rintro ⟨r, r0, r1, e⟩
    rw [ha r r0 r1] at e
    rw [hc] at r1
    have := lstI_in q r0 r1 hn
    rw [e] at this
    exact ⟨this.1, this.2.1, this.2.2.1⟩
  · rintro ⟨x0, x1, hq⟩
    obtain ⟨r, r0, r1, e⟩ := lstN_mem q n.toNat x x0 (by omega) hq
    have r2 : r < c := by rw [hc]; exact r1
    exact ⟨r, r0, r2, by rw [ha r r0 r2]; exact e⟩
theorem sr_self {l : Int → Int} {f : Int → Int → Nat → Int} {m : Int} : srB l f m l f m = true := by
  unfold srB
  rw [Bool.and_eq_true]
  refine ⟨by simp, allI_of fun i h0 h1 => ?_⟩
  unfold smR
  exact saI_refl
section
variable {a : Int → Nat → Int} {n : Int} {l : Int → Int} {f : Int → Int → Nat → Int} {m : Int} {b : Int → Nat → Int} {k : Int}
theorem gr1_80 {g : Bool} (hg : g = gr1 n l m k) (h : ¬ g = true) : k ≤ 80 := by
  apply Classical.byContradiction
  intro h2
  apply h
  rw [hg]; unfold gr1
  rw [decide_eq_true (show 80 < k by omega)]; simp
theorem ca_iff {i j : Int} : caB a f m b k i j = true ↔ hrA a f m j (b i 0) = true ∧ b i 3 ≤ lvA a f m (b i 0) j ∧ ∀ r, 0 ≤ r → r < k → r = i ∨ ovl (b r 1) (b r 2) (b i 1) (b i 2) = false ∨ cnX a f m b i j r = false := by
  unfold caB
  rw [Bool.and_eq_true, Bool.and_eq_true, decide_eq_true_eq]
  constructor
  · rintro ⟨h1, h2, h3⟩
    refine ⟨h1, h2, fun r r0 r1 => ?_⟩
    have := allI_at h3 r0 r1
    unfold cnR at this
    rw [Bool.or_eq_true, Bool.or_eq_true, decide_eq_true_eq] at this
    simpa using this
  · rintro ⟨h1, h2, h3⟩
    refine ⟨h1, h2, allI_of fun r r0 r1 => ?_⟩
    unfold cnR
    rw [Bool.or_eq_true, Bool.or_eq_true, decide_eq_true_eq]
    simpa using h3 r r0 r1
theorem hr_iff {i j : Int} : hrA a f m j i = true ↔ i ≠ j ∧ a i 3 = a j 3 ∧ -820 ≤ lvA a f m i j := by unfold hrA; simp
theorem ovl_comm (s1 e1 s2 e2 : Int) : ovl s1 e1 s2 e2 = ovl s2 e2 s1 e1 := by
  unfold ovl
  by_cases h : s1 < e2 ∧ s2 < e1
  · rw [decide_eq_true h, decide_eq_true ⟨h.2, h.1⟩]
  · rw [decide_eq_false h, decide_eq_false fun h2 => h ⟨h2.2, h2.1⟩]
/-- no node receives two transmissions at once -/
theorem ca_once {i j q : Int} (hi : caB a f m b k i j = true) (i0 : 0 ≤ i) (i1 : i < k) (q0 : 0 ≤ q) (q1 : q < k) (hiq : ¬ q = i) (ho : ovl (b i 1) (b i 2) (b q 1) (b q 2) = true) : ¬ b q 0 = j ∧ ¬ caB a f m b k q j = true := by
  obtain ⟨h1, h2, h3⟩ := ca_iff.1 hi
  have h4 := h3 q q0 q1
  rw [ovl_comm] at ho
  have h5 : cnX a f m b i j q = false := by
    rcases h4 with h4 | h4 | h4
    · exact absurd h4 hiq
    · rw [ho] at h4; cases h4
    · exact h4
  unfold cnX at h5
  rw [Bool.or_eq_false_iff, decide_eq_false_iff_not] at h5
  refine ⟨h5.1, fun hq => ?_⟩
  obtain ⟨g1, g2, g3⟩ := ca_iff.1 hq
  have g4 := g3 i i0 i1
  rw [ovl_comm] at ho
  have g5 : cnX a f m b q j i = false := by
    rcases g4 with g4 | g4 | g4
    · exact absurd g4.symm hiq
    · rw [ho] at g4; cases g4
    · exact g4
  unfold cnX at g5
  rw [Bool.or_eq_false_iff] at g5
  have n1 := (hr_iff.1 h1).2.1
  have n2 := (hr_iff.1 g1).2.1
  have x1 := h5.2
  have x2 := g5.2
  rw [decide_eq_true n2, Bool.true_and, decide_eq_false_iff_not] at x1
  rw [decide_eq_true n1, Bool.true_and, decide_eq_false_iff_not] at x2
  omega
/-- the rows of the receivers -/
theorem re_row {d : Int → Nat → Int} {h i : Int} (hn : 0 ≤ n) {r : Int} (r0 : 0 ≤ r) (r1 : r < reL a n f m b k d h i) : 0 ≤ reF a n f m b k d h i r 0 ∧ reF a n f m b k d h i r 0 < n ∧ caB a f m b k i (reF a n f m b k d h i r 0) = true ∧ (0 < r → reF a n f m b k d h i (r - 1) 0 < reF a n f m b k d h i r 0) := by
  have h1 := lstI_in (rvQ (caB a f m b k) n d h i) r0 r1 hn
  refine ⟨h1.1, h1.2.1, ?_, h1.2.2.2⟩
  have := h1.2.2.1
  unfold rvQ at this
  rw [Bool.and_eq_true] at this
  exact this.1
theorem re_ha {d : Int → Nat → Int} {h i x : Int} (hn : 0 ≤ n) : haB (rowA (reF a n f m b k d h) i) (reL a n f m b k d h i) x = true ↔ 0 ≤ x ∧ x < n ∧ rvQ (caB a f m b k) n d h i x = true :=
  ha_lst hn rfl fun r _ _ => rfl
theorem rl_nn {d : Int → Nat → Int} {h i : Int} (hn : 0 ≤ n) : 0 ≤ reL a n f m b k d h i ∧ reL a n f m b k d h i ≤ n := cntI_bd _ hn
end
end Go.Proofs.Ytgdjdaoglkfjdaa
