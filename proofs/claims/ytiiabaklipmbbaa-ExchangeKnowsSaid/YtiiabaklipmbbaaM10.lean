/- The contracts. -/
import Derived.Test.YtiiabaklipmbbaaP11
import Derived.Test.YtiiabaklipmbbaaM9
import Derived.Test.YtiiabaklipmbbaaM
set_option maxRecDepth 100000
namespace Go.Proofs.Ytiiabaklipmbbaa
open Go Go.RowKit Go.Proofs.Ytiiabaklipmbbaa.Vc
theorem ok22 : Meets Try.prog (mkCon sig22 pre22 raw22) 22 sig22 := meets [] loopsA rfl 22 (by kernel_rfl) (vh22 vc22)
noncomputable def pr22 : Pr Try.prog := ⟨22, sig22, mkCon sig22 pre22 raw22, ok22, ⟨Try.f22, Try.func22, by kernel_rfl, by kernel_rfl⟩⟩
theorem ok14 : Meets Try.prog (mkCon sig14 pre14 raw14) 14 sig14 := meets [pr22, pr28] loopsA rfl 14 (by kernel_rfl) (vh14 vc14)
noncomputable def pr14 : Pr Try.prog := ⟨14, sig14, mkCon sig14 pre14 raw14, ok14, ⟨Try.f14, Try.func14, by kernel_rfl, by kernel_rfl⟩⟩
theorem ok15 : Meets Try.prog (mkCon sig15 pre15 raw15) 15 sig15 := meets [] loopsA rfl 15 (by kernel_rfl) (vh15 vc15)
noncomputable def pr15 : Pr Try.prog := ⟨15, sig15, mkCon sig15 pre15 raw15, ok15, ⟨Try.f15, Try.func15, by kernel_rfl, by kernel_rfl⟩⟩
end Go.Proofs.Ytiiabaklipmbbaa
