/- The contracts. -/
import Derived.Test.YtgdjdaoglkfjdaaP10
import Derived.Test.YtgdjdaoglkfjdaaM4
import Derived.Test.YtgdjdaoglkfjdaaM5
import Derived.Test.YtgdjdaoglkfjdaaM
set_option maxRecDepth 100000
namespace Go.Proofs.Ytgdjdaoglkfjdaa
open Go Go.RowKit Go.Proofs.Ytgdjdaoglkfjdaa.Vc
theorem ok5 : Meets Try.prog (mkCon sig5 pre5 raw5) 5 sig5 := meets [pr25, pr10, pr20, pr26, pr27, pr18, pr28] loopsA rfl 5 (by kernel_rfl) (vh5 vc5)
noncomputable def pr5 : Pr Try.prog := ⟨5, sig5, mkCon sig5 pre5 raw5, ok5, ⟨Try.f5, Try.func5, by kernel_rfl, by kernel_rfl⟩⟩
end Go.Proofs.Ytgdjdaoglkfjdaa
