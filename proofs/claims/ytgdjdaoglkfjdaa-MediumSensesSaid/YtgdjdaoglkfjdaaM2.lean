/- The contracts. -/
import Derived.Test.YtgdjdaoglkfjdaaP5
import Derived.Test.YtgdjdaoglkfjdaaM
set_option maxRecDepth 100000
namespace Go.Proofs.Ytgdjdaoglkfjdaa
open Go Go.RowKit Go.Proofs.Ytgdjdaoglkfjdaa.Vc
theorem ok3 : Meets Try.prog (mkCon sig3 pre3 raw3) 3 sig3 := meets [pr10, pr11, pr12, pr13, pr14, pr16, pr17, pr15, pr18, pr19] loopsA rfl 3 (by kernel_rfl) (vh3 vc3)
noncomputable def pr3 : Pr Try.prog := ⟨3, sig3, mkCon sig3 pre3 raw3, ok3, ⟨Try.f3, Try.func3, by kernel_rfl, by kernel_rfl⟩⟩
end Go.Proofs.Ytgdjdaoglkfjdaa
