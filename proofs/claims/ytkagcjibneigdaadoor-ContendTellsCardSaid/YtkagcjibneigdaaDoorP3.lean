/- Contests: what is left to show of comparing, sizes, all hear each other. -/
import Derived.Test.YtkagcjibneigdaaDoorP2m
import Derived.Test.YtkagcjibneigdaaDoorC3
namespace Go.Proofs.YtkagcjibneigdaaDoor
open Go Go.RowKit Go.Proofs.YtkagcjibneigdaaDoor.Vc
theorem allI_zero {p : Int → Bool} : allI p 0 = true := rfl
theorem vc15 : VC15 := by
  intro a n b m
  have e : sbB a n b m = (decide (n = m) && allI (sbR a b) n) := rfl
  (repeat' (first | exact True.intro | apply And.intro | intro _)) <;> (try (subst_vars; grind []))
  refine ⟨fun i => 0 ≤ i ∧ i ≤ n ∧ allI (sbR a b) i = true, fun i => (n - i).toNat, by grind [allI_zero], ?_⟩
  intro i hi
  have d1 := @allI_at (sbR a b) n i
  have d2 := @allI_succ (sbR a b) i
  have d3 : sbR a b i = decide (a i 0 = b i 0 ∧ a i 1 = b i 1 ∧ a i 2 = b i 2 ∧ (a i 3 = 0 ↔ b i 3 = 0) ∧ (a i 4 = 0 ↔ b i 4 = 0)) := rfl
  (repeat' (first | exact True.intro | apply And.intro | intro _)) <;> (try (subst_vars; grind []))
theorem vc11 : VC11 := by
  intro b n l f m ask T s
  have e : gcB n l m T s = (decide ((20 < n ∨ 20 < m) ∨ (s < T ∧ T ≤ 2000)) || !(allI (l20 l) m)) := rfl
  (repeat' (first | exact True.intro | apply And.intro | intro _)) <;> (try (subst_vars; grind []))
  refine ⟨fun i => 0 ≤ i ∧ i ≤ m ∧ allI (l20 l) i = true, fun i => (m - i).toNat, by grind [allI_zero], ?_⟩
  intro i hi
  have d1 := @allI_at (l20 l) m i
  have d2 := @allI_succ (l20 l) i
  have d3 : l20 l i = decide (l i ≤ 20) := rfl
  (repeat' (first | exact True.intro | apply And.intro | intro _)) <;> (try (subst_vars; grind []))
theorem vc12 : VC12 := by
  intro b n l f m ask T _ hn hm
  refine ⟨fun i => 0 ≤ i ∧ i ≤ m ∧ allI (meO l f) i = true, fun i => (m - i).toNat, ⟨by omega, by omega, rfl⟩, ?_⟩
  rintro i ⟨i0, i1, hi⟩ _ _
  refine ⟨fun h1 => ?_, fun h1 => ?_⟩
  · refine ⟨fun j => 0 ≤ j ∧ (j ≤ l i ∨ j = 0) ∧ allI (meR f i) j = true, fun j => (l i - j).toNat, ⟨by omega, .inr rfl, rfl⟩, ?_⟩
    rintro j ⟨j0, j1, hj⟩
    refine ⟨i0, fun _ => fun hl0 _ => ⟨fun h2 => ⟨.inr j0, fun _ => ⟨.inr j0, fun _ => ⟨fun h3 => ⟨?_, trivial⟩, fun h3 => ⟨by omega, fun _ => ⟨⟨by omega, .inl (by omega), ?_⟩, by dsimp only; omega⟩⟩⟩⟩⟩, fun h2 => ⟨by omega, fun _ => ⟨⟨by omega, by omega, ?_⟩, by dsimp only; omega⟩⟩⟩⟩
    · have h4 : meR f i j = false := by
        have h3' : f i j 0 = 0 := h3.2
        unfold meR
        exact decide_eq_false fun h => h.elim h3.1 fun h => h h3'
      have : meB l f m = false := by
        cases hh : meB l f m with
        | false => rfl
        | true =>
          have h5 : meO l f i = true := allI_at hh i0 h1
          have h6 := allI_at (p := meR f i) h5 j0 h2
          rw [h4] at h6; cases h6
      rw [this]; simp
    · rw [allI_succ j0, hj, Bool.true_and]
      unfold meR
      refine decide_eq_true (Classical.byContradiction fun h => h3 ⟨fun h4 => h (.inl h4), Classical.byContradiction fun h4 => h (.inr h4)⟩)
    · have : j = l i := by omega
      rw [allI_succ i0, hi, Bool.true_and]
      unfold meO
      rw [← this]; exact hj
  · obtain rfl : i = m := by omega
    exact ⟨by rw [show meB l f i = true from hi]; simp, trivial⟩
end Go.Proofs.YtkagcjibneigdaaDoor
