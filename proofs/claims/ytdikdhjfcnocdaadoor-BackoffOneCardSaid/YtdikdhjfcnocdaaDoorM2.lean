/- The contracts. -/
import Derived.Test.YtdikdhjfcnocdaaDoorP3
import Derived.Test.YtdikdhjfcnocdaaDoorM
set_option maxRecDepth 100000
namespace Go.Proofs.YtdikdhjfcnocdaaDoor
open Go Go.RowKit Go.Proofs.YtdikdhjfcnocdaaDoor.Vc
theorem ok20 : MeetsG Tryd.prog GW (mkCon sig20 pre20 raw20) 20 sig20 := meets [pr17, pr25, pr29] loopsA rfl 20 (by kernel_rfl) vc20
noncomputable def pr20 : PrG Tryd.prog GW := ⟨20, sig20, mkCon sig20 pre20 raw20, ok20, ⟨Tryd.f20, Tryd.func20, by kernel_rfl, by kernel_rfl⟩⟩
end Go.Proofs.YtdikdhjfcnocdaaDoor
