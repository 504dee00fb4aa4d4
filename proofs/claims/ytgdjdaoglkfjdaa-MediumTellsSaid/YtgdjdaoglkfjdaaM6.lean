/- The contracts. -/
import Derived.Test.YtgdjdaoglkfjdaaP9
import Derived.Test.YtgdjdaoglkfjdaaM4
import Derived.Test.YtgdjdaoglkfjdaaM
set_option maxRecDepth 100000
namespace Go.Proofs.Ytgdjdaoglkfjdaa
open Go Go.RowKit Go.Proofs.Ytgdjdaoglkfjdaa.Vc
theorem ok4 : Meets Try.prog (mkCon sig4 pre4 raw4) 4 sig4 := meets [pr10, pr20, pr21, pr22, pr23, pr24, pr15] loopsA rfl 4 (by kernel_rfl) (vh4 vc4)
noncomputable def pr4 : Pr Try.prog := ⟨4, sig4, mkCon sig4 pre4 raw4, ok4, ⟨Try.f4, Try.func4, by kernel_rfl, by kernel_rfl⟩⟩
end Go.Proofs.Ytgdjdaoglkfjdaa
