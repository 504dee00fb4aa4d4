/- The contracts. -/
import Derived.Test.YtdikdhjfcnocdaaDoorP6
import Derived.Test.YtdikdhjfcnocdaaDoorM2
import Derived.Test.YtdikdhjfcnocdaaDoorM
set_option maxRecDepth 100000
namespace Go.Proofs.YtdikdhjfcnocdaaDoor
open Go Go.RowKit Go.Proofs.YtdikdhjfcnocdaaDoor.Vc
theorem ok7 : MeetsG Tryd.prog GW (mkCon sig7 pre7 raw7) 7 sig7 := meets [pr19, pr20, pr17] loopsA rfl 7 (by kernel_rfl) vc7
noncomputable def pr7 : PrG Tryd.prog GW := ⟨7, sig7, mkCon sig7 pre7 raw7, ok7, ⟨Tryd.f7, Tryd.func7, by kernel_rfl, by kernel_rfl⟩⟩
end Go.Proofs.YtdikdhjfcnocdaaDoor
