/- The contracts. -/
import Derived.Test.YtiiabaklipmbbaaP5
import Derived.Test.YtiiabaklipmbbaaM3
import Derived.Test.YtiiabaklipmbbaaM
set_option maxRecDepth 100000
namespace Go.Proofs.Ytiiabaklipmbbaa
open Go Go.RowKit Go.Proofs.Ytiiabaklipmbbaa.Vc
theorem ok8 : Meets Try.prog (mkCon sig8 pre8 raw8) 8 sig8 := meets [pr19, pr20] loopsA rfl 8 (by kernel_rfl) vc8
noncomputable def pr8 : Pr Try.prog := ⟨8, sig8, mkCon sig8 pre8 raw8, ok8, ⟨Try.f8, Try.func8, by kernel_rfl, by kernel_rfl⟩⟩
end Go.Proofs.Ytiiabaklipmbbaa
