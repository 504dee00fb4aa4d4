/- The contracts. -/
import Derived.Test.YtakkebjoeceplaaP7
import Derived.Test.YtakkebjoeceplaaM
set_option maxRecDepth 100000
namespace Go.Proofs.Ytakkebjoeceplaa
open Go Go.RowKit Go.Proofs.Ytakkebjoeceplaa.Vc
theorem ok9 : Meets Try.prog (mkCon sig9 pre9 raw9) 9 sig9 := meets [pr26, pr24, pr22, pr15] loopsA rfl 9 (by kernel_rfl) vc9
noncomputable def pr9 : Pr Try.prog := ⟨9, sig9, mkCon sig9 pre9 raw9, ok9, ⟨Try.f9, Try.func9, by kernel_rfl, by kernel_rfl⟩⟩
end Go.Proofs.Ytakkebjoeceplaa
