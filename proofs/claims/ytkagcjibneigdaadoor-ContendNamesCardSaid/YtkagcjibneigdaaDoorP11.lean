/- What is left to show of a function without parameters. -/
import Derived.Test.YtkagcjibneigdaaDoorC11
namespace Go.Proofs.YtkagcjibneigdaaDoor
theorem vc7 : VC7 := by unfold VC7; grind
end Go.Proofs.YtkagcjibneigdaaDoor
