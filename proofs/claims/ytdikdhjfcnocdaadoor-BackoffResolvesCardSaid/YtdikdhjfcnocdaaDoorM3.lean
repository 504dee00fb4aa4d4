/- The contracts. -/
import Derived.Test.YtdikdhjfcnocdaaDoorP4
import Derived.Test.YtdikdhjfcnocdaaDoorM2
import Derived.Test.YtdikdhjfcnocdaaDoorM
set_option maxRecDepth 100000
namespace Go.Proofs.YtdikdhjfcnocdaaDoor
open Go Go.RowKit Go.Proofs.YtdikdhjfcnocdaaDoor.Vc
theorem ok21 : MeetsG Tryd.prog GW (mkCon sig21 pre21 raw21) 21 sig21 := meets [pr18, pr27, pr32, pr30] loopsA rfl 21 (by kernel_rfl) vc21
noncomputable def pr21 : PrG Tryd.prog GW := ⟨21, sig21, mkCon sig21 pre21 raw21, ok21, ⟨Tryd.f21, Tryd.func21, by kernel_rfl, by kernel_rfl⟩⟩
end Go.Proofs.YtdikdhjfcnocdaaDoor
