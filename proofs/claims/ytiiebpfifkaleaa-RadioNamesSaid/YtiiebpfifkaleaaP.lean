/- What is left to show of the functions without parameters. -/
import Derived.Test.YtiiebpfifkaleaaC
namespace Go.Proofs.Ytiiebpfifkaleaa
theorem vc22 : VC22 := by unfold VC22; grind
theorem vc10 : VC10 := by unfold VC10; grind
end Go.Proofs.Ytiiebpfifkaleaa
