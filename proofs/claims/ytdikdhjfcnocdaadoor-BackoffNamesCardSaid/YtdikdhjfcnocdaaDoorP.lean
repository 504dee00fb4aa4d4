/- What is left to show of the functions without parameters. -/
import Derived.Test.YtdikdhjfcnocdaaDoorC
namespace Go.Proofs.YtdikdhjfcnocdaaDoor
theorem vc19 : VC19 := by unfold VC19; grind
theorem vc10 : VC10 := by unfold VC10; grind
end Go.Proofs.YtdikdhjfcnocdaaDoor
