/- The contracts. -/
import Derived.Test.YtiiabaklipmbbaaP6
import Derived.Test.YtiiabaklipmbbaaM4
import Derived.Test.YtiiabaklipmbbaaM5
import Derived.Test.YtiiabaklipmbbaaM
set_option maxRecDepth 100000
namespace Go.Proofs.Ytiiabaklipmbbaa
open Go Go.RowKit Go.Proofs.Ytiiabaklipmbbaa.Vc
theorem ok3 : Meets Try.prog (mkCon sig3 pre3 raw3) 3 sig3 := meets [pr7, pr8, pr9, pr10] loopsA rfl 3 (by kernel_rfl) vc3
noncomputable def pr3 : Pr Try.prog := ⟨3, sig3, mkCon sig3 pre3 raw3, ok3, ⟨Try.f3, Try.func3, by kernel_rfl, by kernel_rfl⟩⟩
end Go.Proofs.Ytiiabaklipmbbaa
