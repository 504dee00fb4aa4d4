/- The contracts. -/
import Derived.Test.YtkagcjibneigdaaDoorP12
import Derived.Test.YtkagcjibneigdaaDoorM
set_option maxRecDepth 100000
namespace Go.Proofs.YtkagcjibneigdaaDoor
open Go Go.RowKit Go.Proofs.YtkagcjibneigdaaDoor.Vc
theorem ok51 : MeetsG Tryd.prog GW (mkCon sig51 pre51 raw51) 51 sig51 := meets [] loopsA rfl 51 (by kernel_rfl) (vh51 vc51)
noncomputable def pr51 : PrG Tryd.prog GW := ⟨51, sig51, mkCon sig51 pre51 raw51, ok51, ⟨Tryd.f51, Tryd.func51, by kernel_rfl, by kernel_rfl⟩⟩
theorem ok39 : MeetsG Tryd.prog GW (mkCon sig39 pre39 raw39) 39 sig39 := meets [pr51] loopsA rfl 39 (by kernel_rfl) (vh39 vc39)
noncomputable def pr39 : PrG Tryd.prog GW := ⟨39, sig39, mkCon sig39 pre39 raw39, ok39, ⟨Tryd.f39, Tryd.func39, by kernel_rfl, by kernel_rfl⟩⟩
theorem ok33 : MeetsG Tryd.prog GW (mkCon sig33 pre33 raw33) 33 sig33 := meets [] loopsA rfl 33 (by kernel_rfl) (vh33 vc33)
noncomputable def pr33 : PrG Tryd.prog GW := ⟨33, sig33, mkCon sig33 pre33 raw33, ok33, ⟨Tryd.f33, Tryd.func33, by kernel_rfl, by kernel_rfl⟩⟩
theorem ok55 : MeetsG Tryd.prog GW (mkCon sig55 pre55 raw55) 55 sig55 := meets [pr51] loopsA rfl 55 (by kernel_rfl) (vh55 vc55)
noncomputable def pr55 : PrG Tryd.prog GW := ⟨55, sig55, mkCon sig55 pre55 raw55, ok55, ⟨Tryd.f55, Tryd.func55, by kernel_rfl, by kernel_rfl⟩⟩
theorem ok56 : MeetsG Tryd.prog GW (mkCon sig56 pre56 raw56) 56 sig56 := meets [pr55] loopsA rfl 56 (by kernel_rfl) (vh56 vc56)
noncomputable def pr56 : PrG Tryd.prog GW := ⟨56, sig56, mkCon sig56 pre56 raw56, ok56, ⟨Tryd.f56, Tryd.func56, by kernel_rfl, by kernel_rfl⟩⟩
theorem ok48 : MeetsG Tryd.prog GW (mkCon sig48 pre48 raw48) 48 sig48 := meets [pr39, pr33, pr55, pr56] loopsA rfl 48 (by kernel_rfl) (vh48 vc48)
noncomputable def pr48 : PrG Tryd.prog GW := ⟨48, sig48, mkCon sig48 pre48 raw48, ok48, ⟨Tryd.f48, Tryd.func48, by kernel_rfl, by kernel_rfl⟩⟩
theorem ok38 : MeetsG Tryd.prog GW (mkCon sig38 pre38 raw38) 38 sig38 := meets [] loopsA rfl 38 (by kernel_rfl) (vh38 vc38)
noncomputable def pr38 : PrG Tryd.prog GW := ⟨38, sig38, mkCon sig38 pre38 raw38, ok38, ⟨Tryd.f38, Tryd.func38, by kernel_rfl, by kernel_rfl⟩⟩
theorem ok22 : MeetsG Tryd.prog GW (mkCon sig22 pre22 raw22) 22 sig22 := meets [pr39, pr38] loopsA rfl 22 (by kernel_rfl) (vh22 vc22)
noncomputable def pr22 : PrG Tryd.prog GW := ⟨22, sig22, mkCon sig22 pre22 raw22, ok22, ⟨Tryd.f22, Tryd.func22, by kernel_rfl, by kernel_rfl⟩⟩
theorem ok23 : MeetsG Tryd.prog GW (mkCon sig23 pre23 raw23) 23 sig23 := meets [pr22] loopsA rfl 23 (by kernel_rfl) (vh23 vc23)
noncomputable def pr23 : PrG Tryd.prog GW := ⟨23, sig23, mkCon sig23 pre23 raw23, ok23, ⟨Tryd.f23, Tryd.func23, by kernel_rfl, by kernel_rfl⟩⟩
theorem ok50 : MeetsG Tryd.prog GW (mkCon sig50 pre50 raw50) 50 sig50 := meets [] loopsA rfl 50 (by kernel_rfl) (vh50 vc50)
noncomputable def pr50 : PrG Tryd.prog GW := ⟨50, sig50, mkCon sig50 pre50 raw50, ok50, ⟨Tryd.f50, Tryd.func50, by kernel_rfl, by kernel_rfl⟩⟩
theorem ok49 : MeetsG Tryd.prog GW (mkCon sig49 pre49 raw49) 49 sig49 := meets [pr50] loopsA rfl 49 (by kernel_rfl) (vh49 vc49)
noncomputable def pr49 : PrG Tryd.prog GW := ⟨49, sig49, mkCon sig49 pre49 raw49, ok49, ⟨Tryd.f49, Tryd.func49, by kernel_rfl, by kernel_rfl⟩⟩
theorem ok19 : MeetsG Tryd.prog GW (mkCon sig19 pre19 raw19) 19 sig19 := meets [] loopsA rfl 19 (by kernel_rfl) (vh19 vc19)
noncomputable def pr19 : PrG Tryd.prog GW := ⟨19, sig19, mkCon sig19 pre19 raw19, ok19, ⟨Tryd.f19, Tryd.func19, by kernel_rfl, by kernel_rfl⟩⟩
end Go.Proofs.YtkagcjibneigdaaDoor
