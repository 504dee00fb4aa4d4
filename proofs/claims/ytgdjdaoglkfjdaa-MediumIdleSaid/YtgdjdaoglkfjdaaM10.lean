/- The contracts. -/
import Derived.Test.YtgdjdaoglkfjdaaP13
import Derived.Test.YtgdjdaoglkfjdaaM4
import Derived.Test.YtgdjdaoglkfjdaaM5
import Derived.Test.YtgdjdaoglkfjdaaM
set_option maxRecDepth 100000
namespace Go.Proofs.Ytgdjdaoglkfjdaa
open Go Go.RowKit Go.Proofs.Ytgdjdaoglkfjdaa.Vc
theorem ok8 : Meets Try.prog (mkCon sig8 pre8 raw8) 8 sig8 := meets [pr25, pr10, pr13, pr11, pr26] loopsA rfl 8 (by kernel_rfl) (vh8 vc8)
noncomputable def pr8 : Pr Try.prog := ⟨8, sig8, mkCon sig8 pre8 raw8, ok8, ⟨Try.f8, Try.func8, by kernel_rfl, by kernel_rfl⟩⟩
end Go.Proofs.Ytgdjdaoglkfjdaa
