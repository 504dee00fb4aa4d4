/- The contracts. -/
import Derived.Test.YtiiabaklipmbbaaDoorP15
import Derived.Test.YtiiabaklipmbbaaDoorM4
import Derived.Test.YtiiabaklipmbbaaDoorM10
import Derived.Test.YtiiabaklipmbbaaDoorM12
import Derived.Test.YtiiabaklipmbbaaDoorM14
import Derived.Test.YtiiabaklipmbbaaDoorM
set_option maxRecDepth 100000
namespace Go.Proofs.YtiiabaklipmbbaaDoor
open Go Go.RowKit Go.Proofs.YtiiabaklipmbbaaDoor.Vc
theorem ok3 : MeetsG Tryd.prog GW (mkCon sig3 pre3 raw3) 3 sig3 := meets [pr12, pr6, pr8, pr9, pr10, pr11] loopsA rfl 3 (by kernel_rfl) (vh3 vc3)
noncomputable def pr3 : PrG Tryd.prog GW := ⟨3, sig3, mkCon sig3 pre3 raw3, ok3, ⟨Tryd.f3, Tryd.func3, by kernel_rfl, by kernel_rfl⟩⟩
end Go.Proofs.YtiiabaklipmbbaaDoor
