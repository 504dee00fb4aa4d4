/- The contracts. -/
import Derived.Test.YtiiabaklipmbbaaDoorP10
import Derived.Test.YtiiabaklipmbbaaDoorH10
import Derived.Test.YtiiabaklipmbbaaDoorM
set_option maxRecDepth 100000
namespace Go.Proofs.YtiiabaklipmbbaaDoor
open Go Go.RowKit Go.Proofs.YtiiabaklipmbbaaDoor.Vc
noncomputable def pr37 : PrG Tryd.prog GW := ⟨37, sig37, mkCon sig37 pre37 raw37, ok37, ⟨Tryd.f37, Tryd.func37, by kernel_rfl, by kernel_rfl⟩⟩
theorem ok26 : MeetsG Tryd.prog GW (mkCon sig26 pre26 raw26) 26 sig26 := meets [pr37] loopsA rfl 26 (by kernel_rfl) (vh26 vc26)
noncomputable def pr26 : PrG Tryd.prog GW := ⟨26, sig26, mkCon sig26 pre26 raw26, ok26, ⟨Tryd.f26, Tryd.func26, by kernel_rfl, by kernel_rfl⟩⟩
theorem ok33 : MeetsG Tryd.prog GW (mkCon sig33 pre33 raw33) 33 sig33 := meets [] loopsA rfl 33 (by kernel_rfl) (vh33 vc33)
noncomputable def pr33 : PrG Tryd.prog GW := ⟨33, sig33, mkCon sig33 pre33 raw33, ok33, ⟨Tryd.f33, Tryd.func33, by kernel_rfl, by kernel_rfl⟩⟩
theorem ok27 : MeetsG Tryd.prog GW (mkCon sig27 pre27 raw27) 27 sig27 := meets [pr33] loopsA rfl 27 (by kernel_rfl) (vh27 vc27)
noncomputable def pr27 : PrG Tryd.prog GW := ⟨27, sig27, mkCon sig27 pre27 raw27, ok27, ⟨Tryd.f27, Tryd.func27, by kernel_rfl, by kernel_rfl⟩⟩
theorem ok32 : MeetsG Tryd.prog GW (mkCon sig32 pre32 raw32) 32 sig32 := meets [pr33] loopsA rfl 32 (by kernel_rfl) (vh32 vc32)
noncomputable def pr32 : PrG Tryd.prog GW := ⟨32, sig32, mkCon sig32 pre32 raw32, ok32, ⟨Tryd.f32, Tryd.func32, by kernel_rfl, by kernel_rfl⟩⟩
theorem ok30 : MeetsG Tryd.prog GW (mkCon sig30 pre30 raw30) 30 sig30 := meets [pr33] loopsA rfl 30 (by kernel_rfl) (vh30 vc30)
noncomputable def pr30 : PrG Tryd.prog GW := ⟨30, sig30, mkCon sig30 pre30 raw30, ok30, ⟨Tryd.f30, Tryd.func30, by kernel_rfl, by kernel_rfl⟩⟩
theorem ok25 : MeetsG Tryd.prog GW (mkCon sig25 pre25 raw25) 25 sig25 := meets [pr27, pr32, pr30] loopsA rfl 25 (by kernel_rfl) (vh25 vc25)
noncomputable def pr25 : PrG Tryd.prog GW := ⟨25, sig25, mkCon sig25 pre25 raw25, ok25, ⟨Tryd.f25, Tryd.func25, by kernel_rfl, by kernel_rfl⟩⟩
theorem ok23 : MeetsG Tryd.prog GW (mkCon sig23 pre23 raw23) 23 sig23 := meets [pr25, pr26] loopsA rfl 23 (by kernel_rfl) (vh23 vc23)
noncomputable def pr23 : PrG Tryd.prog GW := ⟨23, sig23, mkCon sig23 pre23 raw23, ok23, ⟨Tryd.f23, Tryd.func23, by kernel_rfl, by kernel_rfl⟩⟩
end Go.Proofs.YtiiabaklipmbbaaDoor
