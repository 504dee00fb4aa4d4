/- The contracts. -/
import Derived.Test.YtgdjdaoglkfjdaaP8
import Derived.Test.YtgdjdaoglkfjdaaM4
import Derived.Test.YtgdjdaoglkfjdaaM
set_option maxRecDepth 100000
namespace Go.Proofs.Ytgdjdaoglkfjdaa
open Go Go.RowKit Go.Proofs.Ytgdjdaoglkfjdaa.Vc
theorem ok31 : Meets Try.prog (mkCon sig31 pre31 raw31) 31 sig31 := meetsK [] rfl 31 (by kernel_rfl) (vh31 vc31)
noncomputable def pr31 : Pr Try.prog := ⟨31, sig31, mkCon sig31 pre31 raw31, ok31, ⟨Try.f31, Try.func31, by kernel_rfl, by kernel_rfl⟩⟩
theorem ok25 : Meets Try.prog (mkCon sig25 pre25 raw25) 25 sig25 := meets [pr31, pr20, pr24] loopsA rfl 25 (by kernel_rfl) (vh25 vc25)
noncomputable def pr25 : Pr Try.prog := ⟨25, sig25, mkCon sig25 pre25 raw25, ok25, ⟨Try.f25, Try.func25, by kernel_rfl, by kernel_rfl⟩⟩
end Go.Proofs.Ytgdjdaoglkfjdaa
