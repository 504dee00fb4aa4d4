/- The contracts. -/
import Derived.Test.YtiiabaklipmbbaaP4
import Derived.Test.YtiiabaklipmbbaaM2
import Derived.Test.YtiiabaklipmbbaaM
set_option maxRecDepth 100000
namespace Go.Proofs.Ytiiabaklipmbbaa
open Go Go.RowKit Go.Proofs.Ytiiabaklipmbbaa.Vc
theorem ok7 : Meets Try.prog (mkCon sig7 pre7 raw7) 7 sig7 := meets [pr17, pr18, pr12] loopsA rfl 7 (by kernel_rfl) (vh7 vc7)
noncomputable def pr7 : Pr Try.prog := ⟨7, sig7, mkCon sig7 pre7 raw7, ok7, ⟨Try.f7, Try.func7, by kernel_rfl, by kernel_rfl⟩⟩
end Go.Proofs.Ytiiabaklipmbbaa
