/- The contracts. -/
import Derived.Test.YtiiabaklipmbbaaDoorP4
import Derived.Test.YtiiabaklipmbbaaDoorM2
import Derived.Test.YtiiabaklipmbbaaDoorM
set_option maxRecDepth 100000
namespace Go.Proofs.YtiiabaklipmbbaaDoor
open Go Go.RowKit Go.Proofs.YtiiabaklipmbbaaDoor.Vc
theorem ok6 : MeetsG Tryd.prog GW (mkCon sig6 pre6 raw6) 6 sig6 := meets [pr15, pr16, pr10] loopsA rfl 6 (by kernel_rfl) (vh6 vc6)
noncomputable def pr6 : PrG Tryd.prog GW := ⟨6, sig6, mkCon sig6 pre6 raw6, ok6, ⟨Tryd.f6, Tryd.func6, by kernel_rfl, by kernel_rfl⟩⟩
end Go.Proofs.YtiiabaklipmbbaaDoor
