/- The contracts. -/
import Derived.Test.YtpbpmabnmakdoaaP2
import Derived.Test.YtpbpmabnmakdoaaM
set_option maxRecDepth 100000
namespace Go.Proofs.Ytpbpmabnmakdoaa
open Go Go.RowKit Go.Proofs.Ytpbpmabnmakdoaa.Vc
theorem ok31 : Meets Try.prog (mkCon sig31 pre31 raw31) 31 sig31 := meets [pr19] loopsA rfl 31 (by kernel_rfl) (vh31 vc31)
noncomputable def pr31 : Pr Try.prog := ⟨31, sig31, mkCon sig31 pre31 raw31, ok31, ⟨Try.f31, Try.func31, by kernel_rfl, by kernel_rfl⟩⟩
theorem ok13 : Meets Try.prog (mkCon sig13 pre13 raw13) 13 sig13 := meets [pr31, pr27] loopsA rfl 13 (by kernel_rfl) (vh13 vc13)
noncomputable def pr13 : Pr Try.prog := ⟨13, sig13, mkCon sig13 pre13 raw13, ok13, ⟨Try.f13, Try.func13, by kernel_rfl, by kernel_rfl⟩⟩
theorem ok21 : Meets Try.prog (mkCon sig21 pre21 raw21) 21 sig21 := meetsK [] rfl 21 (by kernel_rfl) (vh21 vc21)
noncomputable def pr21 : Pr Try.prog := ⟨21, sig21, mkCon sig21 pre21 raw21, ok21, ⟨Try.f21, Try.func21, by kernel_rfl, by kernel_rfl⟩⟩
theorem ok8 : Meets Try.prog (mkCon sig8 pre8 raw8) 8 sig8 := meets [pr21, pr13, pr10] loopsA rfl 8 (by kernel_rfl) (vh8 vc8)
noncomputable def pr8 : Pr Try.prog := ⟨8, sig8, mkCon sig8 pre8 raw8, ok8, ⟨Try.f8, Try.func8, by kernel_rfl, by kernel_rfl⟩⟩
end Go.Proofs.Ytpbpmabnmakdoaa
