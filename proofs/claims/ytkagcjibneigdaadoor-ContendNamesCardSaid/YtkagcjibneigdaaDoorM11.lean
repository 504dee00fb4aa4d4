/- The contracts. -/
import Derived.Test.YtkagcjibneigdaaDoorP11
import Derived.Test.YtkagcjibneigdaaDoorM4
import Derived.Test.YtkagcjibneigdaaDoorM
set_option maxRecDepth 100000
namespace Go.Proofs.YtkagcjibneigdaaDoor
open Go Go.RowKit Go.Proofs.YtkagcjibneigdaaDoor.Vc
theorem ok7 : MeetsG Tryd.prog GW (mkCon sig7 pre7 raw7) 7 sig7 := meetsK [pr10] rfl 7 (by kernel_rfl) (vh7 vc7)
noncomputable def pr7 : PrG Tryd.prog GW := ⟨7, sig7, mkCon sig7 pre7 raw7, ok7, ⟨Tryd.f7, Tryd.func7, by kernel_rfl, by kernel_rfl⟩⟩
end Go.Proofs.YtkagcjibneigdaaDoor
