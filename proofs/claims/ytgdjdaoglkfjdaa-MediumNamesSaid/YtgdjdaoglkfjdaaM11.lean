/- The contracts. -/
import Derived.Test.YtgdjdaoglkfjdaaP14
import Derived.Test.YtgdjdaoglkfjdaaM5
import Derived.Test.YtgdjdaoglkfjdaaM
set_option maxRecDepth 100000
namespace Go.Proofs.Ytgdjdaoglkfjdaa
open Go Go.RowKit Go.Proofs.Ytgdjdaoglkfjdaa.Vc
theorem ok33 : Meets Try.prog (mkCon sig33 pre33 raw33) 33 sig33 := meetsK [] rfl 33 (by kernel_rfl) (vh33 vc33)
noncomputable def pr33 : Pr Try.prog := ⟨33, sig33, mkCon sig33 pre33 raw33, ok33, ⟨Try.f33, Try.func33, by kernel_rfl, by kernel_rfl⟩⟩
theorem ok9 : Meets Try.prog (mkCon sig9 pre9 raw9) 9 sig9 := meets [pr25, pr31, pr33, pr22, pr11, pr13, pr20, pr16, pr15] loopsA rfl 9 (by kernel_rfl) (vh9 vc9)
noncomputable def pr9 : Pr Try.prog := ⟨9, sig9, mkCon sig9 pre9 raw9, ok9, ⟨Try.f9, Try.func9, by kernel_rfl, by kernel_rfl⟩⟩
end Go.Proofs.Ytgdjdaoglkfjdaa
