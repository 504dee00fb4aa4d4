/- Carrier sense: what is left to show of MediumSenses. -/
import Derived.Test.YtgdjdaoglkfjdaaP4
import Derived.Test.YtgdjdaoglkfjdaaC2
namespace Go.Proofs.Ytgdjdaoglkfjdaa
open Go Go.RowKit Go.Proofs.Ytgdjdaoglkfjdaa.Vc
theorem vc3 : VC3 := by
  intro a n l f m b k j t s _ _ _ hk
  refine ⟨trivial, ?_⟩
  rintro g hg _ _ _
  refine ⟨fun _ => ⟨by simp, trivial⟩, fun hgf => ⟨trivial, ?_⟩⟩
  have hk80 : k ≤ 80 := by
    apply Classical.byContradiction
    intro h
    apply hgf
    rw [hg]; unfold gr1
    rw [decide_eq_true (show 80 < k by omega)]; simp
  rintro b1 e1 h1 h2
  refine ⟨trivial, ?_⟩
  rintro b2 e2 h3 h4
  refine ⟨trivial, ?_⟩
  rintro c1 e3 h5 h6
  refine ⟨trivial, ?_⟩
  rintro c2 e4 h7 h8
  have z1 : b1 = b2 := by rw [h1, h3]
  have z2 : e1 = e2 := by rw [h2, h4]
  have z3 : c1 = c2 := by rw [h5, h7]
  have z4 : e3 = e4 := by rw [h6, h8]
  clear h1 h2 h3 h4 h5 h6 h7 h8
  subst z1 z2 z3 z4
  refine ⟨fun _ => hk80, ?_⟩
  rintro A1 N1 h1 h2
  refine ⟨fun _ => hk80, ?_⟩
  rintro A2 N2 h3 h4
  have z1 : A1 = A2 := by rw [h1, h3]
  have z2 : N1 = N2 := by rw [h2, h4]
  clear h1 h2 h3 h4
  subst z1 z2
  refine ⟨fun _ => trivial, ?_⟩
  rintro v hv
  have hv' : v = true := by rw [hv]; exact smL_self fun _ _ _ _ _ => rfl
  refine ⟨fun ok i => ok = true ∧ 1 ≤ i, fun _ i => (k - i).toNat, ⟨by rw [hv']; cases b1 <;> simp, by omega⟩, ?_⟩
  rintro ok i ⟨rfl, i1⟩
  refine ⟨fun h3 => ?_, fun h3 => ⟨by simp, trivial⟩⟩
  refine ⟨.inr (by omega), fun _ => ⟨.inr (by omega), fun _ => ⟨.inr (by omega), fun _ => ⟨.inr (by omega), fun _ => ⟨.inr (by omega), fun _ => ⟨.inr (by omega), fun _ => ⟨.inr (by omega), fun _ => ⟨fun _ => trivial, ?_⟩⟩⟩⟩⟩⟩⟩⟩
  rintro o1 ho1
  refine ⟨.inr (by omega), fun _ => ⟨.inr (by omega), fun _ => ⟨.inr (by omega), fun _ => ⟨.inr (by omega), fun _ => ⟨.inr (by omega), fun _ => ⟨.inr (by omega), fun _ => ⟨.inr (by omega), fun _ => ⟨fun _ => trivial, ?_⟩⟩⟩⟩⟩⟩⟩⟩
  rintro o2 ho2
  have : o1 = o2 := by rw [ho1, ho2]
  subst this
  refine ⟨by omega, fun _ => ⟨⟨by cases o1 <;> simp, by omega⟩, by dsimp only; omega⟩⟩
end Go.Proofs.Ytgdjdaoglkfjdaa
