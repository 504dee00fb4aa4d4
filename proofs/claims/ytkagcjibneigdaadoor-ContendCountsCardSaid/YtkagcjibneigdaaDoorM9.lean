/- The contracts. -/
import Derived.Test.YtkagcjibneigdaaDoorP9
import Derived.Test.YtkagcjibneigdaaDoorM2
import Derived.Test.YtkagcjibneigdaaDoorM3
import Derived.Test.YtkagcjibneigdaaDoorM4
import Derived.Test.YtkagcjibneigdaaDoorM
set_option maxRecDepth 100000
namespace Go.Proofs.YtkagcjibneigdaaDoor
open Go Go.RowKit Go.Proofs.YtkagcjibneigdaaDoor.Vc
theorem ok5 : MeetsG Tryd.prog GW (mkCon sig5 pre5 raw5) 5 sig5 := meets [pr13, pr11, pr14, pr10] loopsA rfl 5 (by kernel_rfl) (vh5 vc5)
noncomputable def pr5 : PrG Tryd.prog GW := ⟨5, sig5, mkCon sig5 pre5 raw5, ok5, ⟨Tryd.f5, Tryd.func5, by kernel_rfl, by kernel_rfl⟩⟩
end Go.Proofs.YtkagcjibneigdaaDoor
