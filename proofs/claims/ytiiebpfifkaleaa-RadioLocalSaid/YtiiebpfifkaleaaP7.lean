/- The law that reading agrees with the reference: what is left to show. -/
import Derived.Test.YtiiebpfifkaleaaP6
import Derived.Test.YtiiebpfifkaleaaC7
namespace Go.Proofs.Ytiiebpfifkaleaa
open Go Go.RowKit Go.Proofs.Ytiiebpfifkaleaa.Vc
theorem gr_small {n : Int} {l : Int → Int} {m : Int} (h : ¬ grW n l m = true) (hp : ∀ t : Int, 0 ≤ t → t < m → 0 ≤ l t) : smallW n l m := by
  have h' : grW n l m = false := by simpa using h
  unfold grW at h'
  rw [Bool.or_eq_false_iff] at h'
  have h1 := of_decide_eq_false h'.1
  have h2 : allI (fun i => decide (l i ≤ 40)) m = true := by simpa using h'.2
  refine ⟨by omega, by omega, fun i i0 i1 => ⟨hp i i0 i1, ?_⟩⟩
  have := allI_at h2 i0 i1
  exact of_decide_eq_true this
theorem vc8 : VC8 := by
  intro a n l f m i j hp
  have hs := fun h => @gr_small n l m h hp
  have r1 := @smW_refl a n l f m
  have r2 := @saI_refl (nbF a n f m j) (nbN a n l f m j)
  clear hp
  repeat' (first | exact True.intro | apply And.intro | (intro h; (try (have h' := h.symm; subst h'))))
  all_goals (try exact hs (by assumption))
  all_goals (clear hs; grind)
end Go.Proofs.Ytiiebpfifkaleaa
