/- The contracts. -/
import Derived.Test.YtgdjdaoglkfjdaaP11
import Derived.Test.YtgdjdaoglkfjdaaM4
import Derived.Test.YtgdjdaoglkfjdaaM5
import Derived.Test.YtgdjdaoglkfjdaaM
set_option maxRecDepth 100000
namespace Go.Proofs.Ytgdjdaoglkfjdaa
open Go Go.RowKit Go.Proofs.Ytgdjdaoglkfjdaa.Vc
theorem ok7 : Meets Try.prog (mkCon sig7 pre7 raw7) 7 sig7 := meets [pr25, pr10, pr20, pr26, pr27, pr18, pr28, pr30] loopsA rfl 7 (by kernel_rfl) (vh7 vc7)
noncomputable def pr7 : Pr Try.prog := ⟨7, sig7, mkCon sig7 pre7 raw7, ok7, ⟨Try.f7, Try.func7, by kernel_rfl, by kernel_rfl⟩⟩
end Go.Proofs.Ytgdjdaoglkfjdaa
