/- The contracts. -/
import Derived.Test.YtkagcjibneigdaaDoorP13
import Derived.Test.YtkagcjibneigdaaDoorM2
import Derived.Test.YtkagcjibneigdaaDoorM3
import Derived.Test.YtkagcjibneigdaaDoorM5
import Derived.Test.YtkagcjibneigdaaDoorM12
import Derived.Test.YtkagcjibneigdaaDoorM
set_option maxRecDepth 100000
namespace Go.Proofs.YtkagcjibneigdaaDoor
open Go Go.RowKit Go.Proofs.YtkagcjibneigdaaDoor.Vc
theorem ok8 : MeetsG Tryd.prog GW (mkCon sig8 pre8 raw8) 8 sig8 := meets [pr11, pr13, pr14, pr20, pr22, pr23, pr33, pr50, pr49, pr48, pr15, pr19] loopsA rfl 8 (by kernel_rfl) (vh8 vc8)
noncomputable def pr8 : PrG Tryd.prog GW := ⟨8, sig8, mkCon sig8 pre8 raw8, ok8, ⟨Tryd.f8, Tryd.func8, by kernel_rfl, by kernel_rfl⟩⟩
end Go.Proofs.YtkagcjibneigdaaDoor
