/- The contracts. -/
import Derived.Test.YtkagcjibneigdaaDoorP3
import Derived.Test.YtkagcjibneigdaaDoorM
set_option maxRecDepth 100000
namespace Go.Proofs.YtkagcjibneigdaaDoor
open Go Go.RowKit Go.Proofs.YtkagcjibneigdaaDoor.Vc
theorem ok15 : MeetsG Tryd.prog GW (mkCon sig15 pre15 raw15) 15 sig15 := meets [] loopsA rfl 15 (by kernel_rfl) (vh15 vc15)
noncomputable def pr15 : PrG Tryd.prog GW := ⟨15, sig15, mkCon sig15 pre15 raw15, ok15, ⟨Tryd.f15, Tryd.func15, by kernel_rfl, by kernel_rfl⟩⟩
theorem ok11 : MeetsG Tryd.prog GW (mkCon sig11 pre11 raw11) 11 sig11 := meets [] loopsA rfl 11 (by kernel_rfl) (vh11 vc11)
noncomputable def pr11 : PrG Tryd.prog GW := ⟨11, sig11, mkCon sig11 pre11 raw11, ok11, ⟨Tryd.f11, Tryd.func11, by kernel_rfl, by kernel_rfl⟩⟩
theorem ok12 : MeetsG Tryd.prog GW (mkCon sig12 pre12 raw12) 12 sig12 := meets [] loopsA rfl 12 (by kernel_rfl) (vh12 vc12)
noncomputable def pr12 : PrG Tryd.prog GW := ⟨12, sig12, mkCon sig12 pre12 raw12, ok12, ⟨Tryd.f12, Tryd.func12, by kernel_rfl, by kernel_rfl⟩⟩
end Go.Proofs.YtkagcjibneigdaaDoor
