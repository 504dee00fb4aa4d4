/- The contracts. -/
import Derived.Test.YtiiabaklipmbbaaDoorP13
import Derived.Test.YtiiabaklipmbbaaDoorM4
import Derived.Test.YtiiabaklipmbbaaDoorM12
import Derived.Test.YtiiabaklipmbbaaDoorM
set_option maxRecDepth 100000
namespace Go.Proofs.YtiiabaklipmbbaaDoor
open Go Go.RowKit Go.Proofs.YtiiabaklipmbbaaDoor.Vc
theorem ok4 : MeetsG Tryd.prog GW (mkCon sig4 pre4 raw4) 4 sig4 := meets [pr12, pr6, pr10, pr9, pr13] loopsA rfl 4 (by kernel_rfl) (vh4 vc4)
noncomputable def pr4 : PrG Tryd.prog GW := ⟨4, sig4, mkCon sig4 pre4 raw4, ok4, ⟨Tryd.f4, Tryd.func4, by kernel_rfl, by kernel_rfl⟩⟩
end Go.Proofs.YtiiabaklipmbbaaDoor
