/- The contracts. -/
import Derived.Test.YtiiabaklipmbbaaDoorP2
import Derived.Test.YtiiabaklipmbbaaDoorM
set_option maxRecDepth 100000
namespace Go.Proofs.YtiiabaklipmbbaaDoor
open Go Go.RowKit Go.Proofs.YtiiabaklipmbbaaDoor.Vc
theorem ok16 : MeetsG Tryd.prog GW (mkCon sig16 pre16 raw16) 16 sig16 := meets [] loopsA rfl 16 (by kernel_rfl) (vh16 vc16)
noncomputable def pr16 : PrG Tryd.prog GW := ⟨16, sig16, mkCon sig16 pre16 raw16, ok16, ⟨Tryd.f16, Tryd.func16, by kernel_rfl, by kernel_rfl⟩⟩
end Go.Proofs.YtiiabaklipmbbaaDoor
