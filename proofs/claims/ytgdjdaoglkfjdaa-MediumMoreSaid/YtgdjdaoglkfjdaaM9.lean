/- The contracts. -/
import Derived.Test.YtgdjdaoglkfjdaaP12
import Derived.Test.YtgdjdaoglkfjdaaM4
import Derived.Test.YtgdjdaoglkfjdaaM5
import Derived.Test.YtgdjdaoglkfjdaaM
set_option maxRecDepth 100000
namespace Go.Proofs.Ytgdjdaoglkfjdaa
open Go Go.RowKit Go.Proofs.Ytgdjdaoglkfjdaa.Vc
theorem ok6 : Meets Try.prog (mkCon sig6 pre6 raw6) 6 sig6 := meets [pr25, pr10, pr20, pr29, pr28] loopsA rfl 6 (by kernel_rfl) (vh6 vc6)
noncomputable def pr6 : Pr Try.prog := ⟨6, sig6, mkCon sig6 pre6 raw6, ok6, ⟨Try.f6, Try.func6, by kernel_rfl, by kernel_rfl⟩⟩
end Go.Proofs.Ytgdjdaoglkfjdaa
