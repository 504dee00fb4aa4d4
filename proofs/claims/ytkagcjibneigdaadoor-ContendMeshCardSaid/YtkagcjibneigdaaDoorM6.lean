/- The contracts. -/
import Derived.Test.YtkagcjibneigdaaDoorP6
import Derived.Test.YtkagcjibneigdaaDoorM2
import Derived.Test.YtkagcjibneigdaaDoorM3
import Derived.Test.YtkagcjibneigdaaDoorM4
import Derived.Test.YtkagcjibneigdaaDoorM
set_option maxRecDepth 100000
namespace Go.Proofs.YtkagcjibneigdaaDoor
open Go Go.RowKit Go.Proofs.YtkagcjibneigdaaDoor.Vc
theorem ok3 : MeetsG Tryd.prog GW (mkCon sig3 pre3 raw3) 3 sig3 := meets [pr13, pr11, pr12, pr10] loopsA rfl 3 (by kernel_rfl) (vh3 vc3)
noncomputable def pr3 : PrG Tryd.prog GW := ⟨3, sig3, mkCon sig3 pre3 raw3, ok3, ⟨Tryd.f3, Tryd.func3, by kernel_rfl, by kernel_rfl⟩⟩
end Go.Proofs.YtkagcjibneigdaaDoor
