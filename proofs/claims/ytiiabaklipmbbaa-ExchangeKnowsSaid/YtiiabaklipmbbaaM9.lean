/- The contracts. -/
import Derived.Test.YtiiabaklipmbbaaP10
import Derived.Test.YtiiabaklipmbbaaH10
import Derived.Test.YtiiabaklipmbbaaM
set_option maxRecDepth 100000
namespace Go.Proofs.Ytiiabaklipmbbaa
open Go Go.RowKit Go.Proofs.Ytiiabaklipmbbaa.Vc
noncomputable def pr42 : Pr Try.prog := ⟨42, sig42, mkCon sig42 pre42 raw42, ok42, ⟨Try.f42, Try.func42, by kernel_rfl, by kernel_rfl⟩⟩
theorem ok31 : Meets Try.prog (mkCon sig31 pre31 raw31) 31 sig31 := meets [pr42] loopsA rfl 31 (by kernel_rfl) (vh31 vc31)
noncomputable def pr31 : Pr Try.prog := ⟨31, sig31, mkCon sig31 pre31 raw31, ok31, ⟨Try.f31, Try.func31, by kernel_rfl, by kernel_rfl⟩⟩
theorem ok38 : Meets Try.prog (mkCon sig38 pre38 raw38) 38 sig38 := meets [] loopsA rfl 38 (by kernel_rfl) (vh38 vc38)
noncomputable def pr38 : Pr Try.prog := ⟨38, sig38, mkCon sig38 pre38 raw38, ok38, ⟨Try.f38, Try.func38, by kernel_rfl, by kernel_rfl⟩⟩
theorem ok32 : Meets Try.prog (mkCon sig32 pre32 raw32) 32 sig32 := meets [pr38] loopsA rfl 32 (by kernel_rfl) (vh32 vc32)
noncomputable def pr32 : Pr Try.prog := ⟨32, sig32, mkCon sig32 pre32 raw32, ok32, ⟨Try.f32, Try.func32, by kernel_rfl, by kernel_rfl⟩⟩
theorem ok37 : Meets Try.prog (mkCon sig37 pre37 raw37) 37 sig37 := meets [pr38] loopsA rfl 37 (by kernel_rfl) (vh37 vc37)
noncomputable def pr37 : Pr Try.prog := ⟨37, sig37, mkCon sig37 pre37 raw37, ok37, ⟨Try.f37, Try.func37, by kernel_rfl, by kernel_rfl⟩⟩
theorem ok35 : Meets Try.prog (mkCon sig35 pre35 raw35) 35 sig35 := meets [pr38] loopsA rfl 35 (by kernel_rfl) (vh35 vc35)
noncomputable def pr35 : Pr Try.prog := ⟨35, sig35, mkCon sig35 pre35 raw35, ok35, ⟨Try.f35, Try.func35, by kernel_rfl, by kernel_rfl⟩⟩
theorem ok30 : Meets Try.prog (mkCon sig30 pre30 raw30) 30 sig30 := meets [pr32, pr37, pr35] loopsA rfl 30 (by kernel_rfl) (vh30 vc30)
noncomputable def pr30 : Pr Try.prog := ⟨30, sig30, mkCon sig30 pre30 raw30, ok30, ⟨Try.f30, Try.func30, by kernel_rfl, by kernel_rfl⟩⟩
theorem ok28 : Meets Try.prog (mkCon sig28 pre28 raw28) 28 sig28 := meets [pr30, pr31] loopsA rfl 28 (by kernel_rfl) (vh28 vc28)
noncomputable def pr28 : Pr Try.prog := ⟨28, sig28, mkCon sig28 pre28 raw28, ok28, ⟨Try.f28, Try.func28, by kernel_rfl, by kernel_rfl⟩⟩
end Go.Proofs.Ytiiabaklipmbbaa
