/- What is left to show of a function without parameters. -/
import Derived.Test.YtkagcjibneigdaaDoorC4
namespace Go.Proofs.YtkagcjibneigdaaDoor
theorem vc10 : VC10 := by unfold VC10; grind
end Go.Proofs.YtkagcjibneigdaaDoor
