/- What is left to show of the functions without parameters. -/
import Derived.Test.YtakkebjoeceplaaC
namespace Go.Proofs.Ytakkebjoeceplaa
theorem vc26 : VC26 := by unfold VC26; grind
theorem vc8 : VC8 := by unfold VC8; grind
end Go.Proofs.Ytakkebjoeceplaa
