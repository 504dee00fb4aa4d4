/- The contracts. -/
import Derived.Test.YtdikdhjfcnocdaaDoorP5
import Derived.Test.YtdikdhjfcnocdaaDoorM3
import Derived.Test.YtdikdhjfcnocdaaDoorM
set_option maxRecDepth 100000
namespace Go.Proofs.YtdikdhjfcnocdaaDoor
open Go Go.RowKit Go.Proofs.YtdikdhjfcnocdaaDoor.Vc
theorem ok6 : MeetsG Tryd.prog GW (mkCon sig6 pre6 raw6) 6 sig6 := meets [pr20, pr21] loopsA rfl 6 (by kernel_rfl) vc6
noncomputable def pr6 : PrG Tryd.prog GW := ⟨6, sig6, mkCon sig6 pre6 raw6, ok6, ⟨Tryd.f6, Tryd.func6, by kernel_rfl, by kernel_rfl⟩⟩
end Go.Proofs.YtdikdhjfcnocdaaDoor
