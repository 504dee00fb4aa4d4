/- The contracts. -/
import Derived.Test.YtiiabaklipmbbaaP8
import Derived.Test.YtiiabaklipmbbaaM4
import Derived.Test.YtiiabaklipmbbaaM
set_option maxRecDepth 100000
namespace Go.Proofs.Ytiiabaklipmbbaa
open Go Go.RowKit Go.Proofs.Ytiiabaklipmbbaa.Vc
theorem ok5 : Meets Try.prog (mkCon sig5 pre5 raw5) 5 sig5 := meets [pr11, pr7, pr12, pr13] loopsA rfl 5 (by kernel_rfl) vc5
noncomputable def pr5 : Pr Try.prog := ⟨5, sig5, mkCon sig5 pre5 raw5, ok5, ⟨Try.f5, Try.func5, by kernel_rfl, by kernel_rfl⟩⟩
end Go.Proofs.Ytiiabaklipmbbaa
