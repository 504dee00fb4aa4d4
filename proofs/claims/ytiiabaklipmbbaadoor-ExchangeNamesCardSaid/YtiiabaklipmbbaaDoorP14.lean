/- Comparing what came of sequences: what is left to show. -/
import Derived.Test.YtiiabaklipmbbaaDoorC14
namespace Go.Proofs.YtiiabaklipmbbaaDoor
open Go Go.RowKit Go.Proofs.YtiiabaklipmbbaaDoor.Vc
theorem vc11 : VC11 := by
  intro s g gn k kn s' g' gn' k' kn' _ n0 n1 n2 n3
  refine ⟨fun _ => trivial, fun v hv _ _ _ _ => ⟨fun _ => trivial, fun u hu => ⟨?_, trivial⟩⟩⟩
  unfold spB
  rw [← hv, ← hu, Bool.and_eq_true, Bool.and_eq_true, decide_eq_true_eq]
  exact ⟨fun h => ⟨h.1.1, h.1.2, h.2⟩, fun h => ⟨⟨h.1, h.2.1⟩, h.2.2⟩⟩
end Go.Proofs.YtiiabaklipmbbaaDoor
