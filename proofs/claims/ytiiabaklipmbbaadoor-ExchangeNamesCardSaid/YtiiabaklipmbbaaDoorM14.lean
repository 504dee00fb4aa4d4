/- The contracts. -/
import Derived.Test.YtiiabaklipmbbaaDoorP14
import Derived.Test.YtiiabaklipmbbaaDoorM
set_option maxRecDepth 100000
namespace Go.Proofs.YtiiabaklipmbbaaDoor
open Go Go.RowKit Go.Proofs.YtiiabaklipmbbaaDoor.Vc
theorem ok11 : MeetsG Tryd.prog GW (mkCon sig11 pre11 raw11) 11 sig11 := meets [pr19] loopsA rfl 11 (by kernel_rfl) (vh11 vc11)
noncomputable def pr11 : PrG Tryd.prog GW := ⟨11, sig11, mkCon sig11 pre11 raw11, ok11, ⟨Tryd.f11, Tryd.func11, by kernel_rfl, by kernel_rfl⟩⟩
end Go.Proofs.YtiiabaklipmbbaaDoor
