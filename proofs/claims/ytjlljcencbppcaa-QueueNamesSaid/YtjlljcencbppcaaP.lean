/- What is left to show of the functions without parameters. -/
import Derived.Test.YtjlljcencbppcaaC
namespace Go.Proofs.Ytjlljcencbppcaa
theorem vc8 : VC8 := by unfold VC8; grind
theorem vc14 : VC14 := by unfold VC14; grind
theorem vc5 : VC5 := by unfold VC5; grind
end Go.Proofs.Ytjlljcencbppcaa
