/- The contracts. -/
import Derived.Test.YtiiabaklipmbbaaP7
import Derived.Test.YtiiabaklipmbbaaM4
import Derived.Test.YtiiabaklipmbbaaM
set_option maxRecDepth 100000
namespace Go.Proofs.Ytiiabaklipmbbaa
open Go Go.RowKit Go.Proofs.Ytiiabaklipmbbaa.Vc
theorem ok4 : Meets Try.prog (mkCon sig4 pre4 raw4) 4 sig4 := meets [pr11, pr7, pr12] loopsA rfl 4 (by kernel_rfl) vc4
noncomputable def pr4 : Pr Try.prog := ⟨4, sig4, mkCon sig4 pre4 raw4, ok4, ⟨Try.f4, Try.func4, by kernel_rfl, by kernel_rfl⟩⟩
end Go.Proofs.Ytiiabaklipmbbaa
