/- The contracts. -/
import Derived.Test.YtpbpmabnmakdoaaP3
import Derived.Test.YtpbpmabnmakdoaaM2
set_option maxRecDepth 100000
namespace Go.Proofs.Ytpbpmabnmakdoaa
open Go Go.RowKit Go.Proofs.Ytpbpmabnmakdoaa.Vc

theorem ok21 : Meets Try.prog (mkCon sig21 pre21 raw21) 21 sig21 := meetsK [] rfl 21 (by kernel_rfl) vc21
noncomputable def pr21 : Pr Try.prog := ⟨21, sig21, mkCon sig21 pre21 raw21, ok21, ⟨Try.f21, Try.func21, by kernel_rfl, by kernel_rfl⟩⟩
theorem ok9 : Meets Try.prog (mkCon sig9 pre9 raw9) 9 sig9 := meets [pr21, pr22] loopsA rfl 9 (by kernel_rfl) vc9
noncomputable def pr9 : Pr Try.prog := ⟨9, sig9, mkCon sig9 pre9 raw9, ok9, ⟨Try.f9, Try.func9, by kernel_rfl, by kernel_rfl⟩⟩
end Go.Proofs.Ytpbpmabnmakdoaa
