/- The contracts. -/
import Derived.Test.YtakkebjoeceplaaP
set_option maxRecDepth 100000
namespace Go.Proofs.Ytakkebjoeceplaa
open Go Go.RowKit Go.Proofs.Ytakkebjoeceplaa.Vc
def loopsA : List LA := [
]
theorem ok26 : Meets Try.prog (mkCon sig26 pre26 raw26) 26 sig26 := meetsK [] rfl 26 (by kernel_rfl) vc26
noncomputable def pr26 : Pr Try.prog := ⟨26, sig26, mkCon sig26 pre26 raw26, ok26, ⟨Try.f26, Try.func26, by kernel_rfl, by kernel_rfl⟩⟩
theorem ok8 : Meets Try.prog (mkCon sig8 pre8 raw8) 8 sig8 := meetsK [pr26] rfl 8 (by kernel_rfl) vc8
noncomputable def pr8 : Pr Try.prog := ⟨8, sig8, mkCon sig8 pre8 raw8, ok8, ⟨Try.f8, Try.func8, by kernel_rfl, by kernel_rfl⟩⟩
end Go.Proofs.Ytakkebjoeceplaa
