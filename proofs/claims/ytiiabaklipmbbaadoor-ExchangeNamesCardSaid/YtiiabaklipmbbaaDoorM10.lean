/- The contracts. -/
import Derived.Test.YtiiabaklipmbbaaDoorP11
import Derived.Test.YtiiabaklipmbbaaDoorM9
import Derived.Test.YtiiabaklipmbbaaDoorM
set_option maxRecDepth 100000
namespace Go.Proofs.YtiiabaklipmbbaaDoor
open Go Go.RowKit Go.Proofs.YtiiabaklipmbbaaDoor.Vc
theorem ok17 : MeetsG Tryd.prog GW (mkCon sig17 pre17 raw17) 17 sig17 := meets [] loopsA rfl 17 (by kernel_rfl) (vh17 vc17)
noncomputable def pr17 : PrG Tryd.prog GW := ⟨17, sig17, mkCon sig17 pre17 raw17, ok17, ⟨Tryd.f17, Tryd.func17, by kernel_rfl, by kernel_rfl⟩⟩
theorem ok8 : MeetsG Tryd.prog GW (mkCon sig8 pre8 raw8) 8 sig8 := meets [pr17, pr23] loopsA rfl 8 (by kernel_rfl) (vh8 vc8)
noncomputable def pr8 : PrG Tryd.prog GW := ⟨8, sig8, mkCon sig8 pre8 raw8, ok8, ⟨Tryd.f8, Tryd.func8, by kernel_rfl, by kernel_rfl⟩⟩
end Go.Proofs.YtiiabaklipmbbaaDoor
