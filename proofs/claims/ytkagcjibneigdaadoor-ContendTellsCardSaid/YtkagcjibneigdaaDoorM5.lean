/- The contracts. -/
import Derived.Test.YtkagcjibneigdaaDoorP5
import Derived.Test.YtkagcjibneigdaaDoorM
set_option maxRecDepth 100000
namespace Go.Proofs.YtkagcjibneigdaaDoor
open Go Go.RowKit Go.Proofs.YtkagcjibneigdaaDoor.Vc
theorem ok20 : MeetsG Tryd.prog GW (mkCon sig20 pre20 raw20) 20 sig20 := meets [pr14] loopsA rfl 20 (by kernel_rfl) (vh20 vc20)
noncomputable def pr20 : PrG Tryd.prog GW := ⟨20, sig20, mkCon sig20 pre20 raw20, ok20, ⟨Tryd.f20, Tryd.func20, by kernel_rfl, by kernel_rfl⟩⟩
end Go.Proofs.YtkagcjibneigdaaDoor
