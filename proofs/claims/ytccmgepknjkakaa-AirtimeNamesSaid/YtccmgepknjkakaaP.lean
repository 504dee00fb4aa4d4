/- What is left to show of the functions without parameters. -/
import Derived.Test.YtccmgepknjkakaaC
namespace Go.Proofs.Ytccmgepknjkakaa
theorem vc15 : VC15 := by unfold VC15; grind
theorem vc8 : VC8 := by unfold VC8; grind
end Go.Proofs.Ytccmgepknjkakaa
