/- The contracts. -/
import Derived.Test.YtkagcjibneigdaaDoorP7
import Derived.Test.YtkagcjibneigdaaDoorM2
import Derived.Test.YtkagcjibneigdaaDoorM3
import Derived.Test.YtkagcjibneigdaaDoorM4
import Derived.Test.YtkagcjibneigdaaDoorM5
import Derived.Test.YtkagcjibneigdaaDoorM
set_option maxRecDepth 100000
namespace Go.Proofs.YtkagcjibneigdaaDoor
open Go Go.RowKit Go.Proofs.YtkagcjibneigdaaDoor.Vc
theorem ok9 : MeetsG Tryd.prog GW (mkCon sig9 pre9 raw9) 9 sig9 := meets [pr13, pr11, pr20, pr10] loopsA rfl 9 (by kernel_rfl) (vh9 vc9)
noncomputable def pr9 : PrG Tryd.prog GW := ⟨9, sig9, mkCon sig9 pre9 raw9, ok9, ⟨Tryd.f9, Tryd.func9, by kernel_rfl, by kernel_rfl⟩⟩
end Go.Proofs.YtkagcjibneigdaaDoor
