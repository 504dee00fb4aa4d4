/- The contracts. -/
import Derived.Test.YtiiabaklipmbbaaP12
import Derived.Test.YtiiabaklipmbbaaM4
import Derived.Test.YtiiabaklipmbbaaM10
import Derived.Test.YtiiabaklipmbbaaM
set_option maxRecDepth 100000
namespace Go.Proofs.Ytiiabaklipmbbaa
open Go Go.RowKit Go.Proofs.Ytiiabaklipmbbaa.Vc
theorem ok6 : Meets Try.prog (mkCon sig6 pre6 raw6) 6 sig6 := meets [pr11, pr7, pr14, pr15, pr13] loopsA rfl 6 (by kernel_rfl) (vh6 vc6)
noncomputable def pr6 : Pr Try.prog := ⟨6, sig6, mkCon sig6 pre6 raw6, ok6, ⟨Try.f6, Try.func6, by kernel_rfl, by kernel_rfl⟩⟩
end Go.Proofs.Ytiiabaklipmbbaa
