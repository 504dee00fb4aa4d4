/- What is left to show of the functions of one event. -/
import Derived.Test.YtkagcjibneigdaaDoorC
namespace Go.Proofs.YtkagcjibneigdaaDoor
open Go Go.RowKit Go.Proofs.YtkagcjibneigdaaDoor.Vc
theorem vc54 : VC54 := by
  unfold VC54
  intro c f h
  have h1 := p2_pow f (by omega) (by omega)
  have h2 := p2_bd f
  have hc : c = 0 ∨ c = 1 ∨ c = 2 ∨ c = 3 := by omega
  revert h1
  generalize (2 : Int) ^ f.toNat = y
  intro h1
  subst h1
  unfold aft whi wlo
  generalize p2 f = x at *
  rcases hc with rfl | rfl | rfl | rfl <;> simp <;> omega
theorem vc47 : VC47 := by unfold VC47; (repeat' (first | exact True.intro | apply And.intro | intro _)) <;> (try (subst_vars; grind [winW, winE]))
theorem vc30 : VC30 := by unfold VC30; (repeat' (first | exact True.intro | apply And.intro | intro _)) <;> (try (subst_vars; grind [chkE, winW, winE]))
theorem vc52 : VC52 := by unfold VC52; (repeat' (first | exact True.intro | apply And.intro | intro _)) <;> (try (subst_vars; grind [oddA]))
theorem vc57 : VC57 := by
  unfold VC57
  intro c f d h
  have := aft_bd c f
  (repeat' (first | exact True.intro | apply And.intro | intro _)) <;> (try (subst_vars; grind [drN]))
theorem vc53 : VC53 := by unfold VC53; (repeat' (first | exact True.intro | apply And.intro | intro _)) <;> (try (subst_vars; grind [stW, stN, stT, stG]))
theorem vc43 : VC43 := by
  unfold VC43
  intro c w n t e d
  have := aft_bd c t
  (repeat' (first | exact True.intro | apply And.intro | intro _)) <;> (try (subst_vars; grind [SE, SC, SW, SN, SR, SG, oddA, chkE]))
theorem allN_at {p : Int → Bool} : ∀ {k : Nat}, allN k p = true → ∀ i : Int, 0 ≤ i → i < k → p i = true
  | 0, _, i, h0, h1 => by omega
  | k + 1, h, i, h0, h1 => by
    have h' : (allN k p && p k) = true := h
    rw [Bool.and_eq_true] at h'
    by_cases hi : i < k
    · exact allN_at h'.1 i h0 hi
    · obtain rfl : i = k := by omega
      exact h'.2
theorem allI_at {p : Int → Bool} {n i : Int} (h : allI p n = true) (h0 : 0 ≤ i) (h1 : i < n) : p i = true := allN_at h i h0 (by omega)
theorem allN_of {p : Int → Bool} : ∀ {k : Nat}, (∀ i : Int, 0 ≤ i → i < k → p i = true) → allN k p = true
  | 0, _ => rfl
  | k + 1, h => by
    show (allN k p && p k) = true
    rw [allN_of (fun i h0 h1 => h i h0 (by omega)), h k (by omega) (by omega)]; rfl
theorem allI_of {p : Int → Bool} {n : Int} (h : ∀ i : Int, 0 ≤ i → i < n → p i = true) : allI p n = true := allN_of fun i h0 h1 => h i h0 (by omega)
theorem vc29 : VC29 := by
  intro x lo hi _
  exact ⟨by unfold inR; simp, trivial⟩
theorem inR_iff {x lo hi : Int} : inR x lo hi = true ↔ lo ≤ x ∧ x ≤ hi := by unfold inR; simp
section
variable {b : Int → Nat → Int} {n : Int} {l : Int → Int} {f : Int → Int → Nat → Int} {m : Int} {ask : Bool} {T : Int}
theorem cc_8 (h : ¬ ((2 ≤ n ∧ n ≤ 16) ∧ m = n ∧ (0 ≤ T ∧ T ≤ 2000) ∧ allI (ccS b n l f) n = true)) : ccE b n l f m ask T = 8 := by unfold ccE; rw [if_neg h]
theorem cc_0 (h : (2 ≤ n ∧ n ≤ 16) ∧ m = n ∧ (0 ≤ T ∧ T ≤ 2000) ∧ allI (ccS b n l f) n = true) : ccE b n l f m ask T = 0 := by unfold ccE; rw [if_pos h]
theorem cc_08 : ccE b n l f m ask T = 0 ∨ ccE b n l f m ask T = 8 := by unfold ccE; split <;> simp
theorem cc_bad {i : Int} (h0 : 0 ≤ i) (h1 : i < n) (h : ¬ (l i = n ∧ f i i 0 = 0 ∧ chkE (b i 0) (b i 1) (b i 2) (b i 3) = 0 ∧ (0 ≤ b i 4 ∧ b i 4 ≤ 1000) ∧ (1 ≤ b i 5 ∧ b i 5 ≤ 200) ∧ (0 ≤ b i 6 ∧ b i 6 < n) ∧ ¬ b i 6 = i)) : ccE b n l f m ask T = 8 :=
  cc_8 fun hh => h (of_decide_eq_true (allI_at (p := ccS b n l f) hh.2.2.2 h0 h1))
theorem cc_ok (h : ccE b n l f m ask T = 0) : (2 ≤ n ∧ n ≤ 16) ∧ m = n ∧ (0 ≤ T ∧ T ≤ 2000) ∧ ∀ i, 0 ≤ i → i < n → l i = n ∧ f i i 0 = 0 ∧ chkE (b i 0) (b i 1) (b i 2) (b i 3) = 0 ∧ (0 ≤ b i 4 ∧ b i 4 ≤ 1000) ∧ (1 ≤ b i 5 ∧ b i 5 ≤ 200) ∧ (0 ≤ b i 6 ∧ b i 6 < n) ∧ ¬ b i 6 = i := by
  unfold ccE at h
  split at h
  · rename_i hc
    exact ⟨hc.1, hc.2.1, hc.2.2.1, fun i i0 i1 => of_decide_eq_true (allI_at (p := ccS b n l f) hc.2.2.2 i0 i1)⟩
  · cases h
end
theorem vc14 : VC14 := by
  intro b n l f m ask T hp hn hm
  refine ⟨trivial, ?_⟩
  rintro c1 e1 _ _
  refine ⟨fun _ => trivial, ?_⟩
  rintro c2 e2
  have q1 : c1 = true ↔ 2 ≤ n ∧ n ≤ 16 := by rw [e1]; exact inR_iff
  have q2 : c2 = true ↔ 0 ≤ T ∧ T ≤ 2000 := by rw [e2]; exact inR_iff
  refine ⟨fun h => ⟨(cc_8 fun hh => ?_).symm, trivial⟩, fun h => ?_⟩
  · rcases h with (h | h) | h
    · exact h (q1.2 hh.1)
    · exact h hh.2.1
    · exact h (q2.2 hh.2.2.1)
  have r1 := q1.1 (Classical.byContradiction fun hh => h (.inl (.inl hh)))
  have r2 : m = n := Classical.byContradiction fun hh => h (.inl (.inr hh))
  have r3 := q2.1 (Classical.byContradiction fun hh => h (.inr hh))
  refine ⟨fun i => 0 ≤ i ∧ i ≤ n ∧ ∀ j, 0 ≤ j → j < i → ccS b n l f j = true, fun i => (n - i).toNat, ⟨by omega, by omega, fun j h0 h1 => by omega⟩, ?_⟩
  rintro i ⟨i0, i1, hi⟩
  refine ⟨fun h3 => ?_, fun h3 => ?_⟩
  · have hu := hp.h i i0 h3
    refine ⟨i0, fun _ => ⟨by omega, fun _ => ⟨by omega, fun _ => ⟨by omega, fun _ => ⟨fun _ => hu, ?_⟩⟩⟩⟩⟩
    rintro e he _ _
    have he' : e = chkE (b i 0) (b i 1) (b i 2) (b i 3) := he
    refine ⟨fun h4 => ⟨(cc_bad i0 h3 fun hh => ?_).symm, trivial⟩, fun h4 => ⟨trivial, ?_⟩⟩
    · rcases h4 with (h4 | h4) | h4
      · exact h4 hh.1
      · exact h4 hh.2.1
      · exact h4 (by rw [he']; exact hh.2.2.1)
    rintro c3 e3
    refine ⟨fun _ => trivial, ?_⟩
    rintro c4 e4
    refine ⟨.inr (by omega), fun _ => ⟨fun _ => trivial, ?_⟩⟩
    rintro c5 e5
    have q3 : c3 = true ↔ 0 ≤ b i 4 ∧ b i 4 ≤ 1000 := by rw [e3]; exact inR_iff
    have q4 : c4 = true ↔ 1 ≤ b i 5 ∧ b i 5 ≤ 200 := by rw [e4]; exact inR_iff
    have q5 : c5 = true ↔ 0 ≤ b i 6 ∧ b i 6 ≤ n - 1 := by rw [e5]; exact inR_iff
    refine ⟨fun h5 => ⟨(cc_bad i0 h3 fun hh => ?_).symm, trivial⟩, fun h5 => ⟨by omega, fun _ => ⟨⟨by omega, by omega, fun j j0 j1 => ?_⟩, by dsimp only; omega⟩⟩⟩
    · obtain ⟨_, _, _, k1, k2, k3, k4⟩ := hh
      rcases h5 with ((h5 | h5) | h5) | h5
      · exact h5 (q3.2 k1)
      · exact h5 (q4.2 k2)
      · exact h5 (q5.2 (by omega))
      · exact k4 h5
    · by_cases hj : j = i
      · subst hj
        unfold ccS
        have k0 : l j = n := Classical.byContradiction fun hh => h4 (.inl (.inl hh))
        have k00 : f j j 0 = 0 := Classical.byContradiction fun hh => h4 (.inl (.inr hh))
        have k01 : e = 0 := Classical.byContradiction fun hh => h4 (.inr hh)
        have k1 := q3.1 (Classical.byContradiction fun hh => h5 (.inl (.inl (.inl hh))))
        have k2 := q4.1 (Classical.byContradiction fun hh => h5 (.inl (.inl (.inr hh))))
        have k3 := q5.1 (Classical.byContradiction fun hh => h5 (.inl (.inr hh)))
        exact decide_eq_true ⟨k0, k00, by rw [← he']; exact k01, k1, k2, by omega, fun hh => h5 (.inr hh)⟩
      · exact hi j j0 (by omega)
  · obtain rfl : i = n := by omega
    exact ⟨(cc_0 ⟨r1, r2, r3, allI_of hi⟩).symm, trivial⟩
end Go.Proofs.YtkagcjibneigdaaDoor
