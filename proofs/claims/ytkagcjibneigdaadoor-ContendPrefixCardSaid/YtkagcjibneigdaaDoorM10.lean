/- The contracts. -/
import Derived.Test.YtkagcjibneigdaaDoorP10
import Derived.Test.YtkagcjibneigdaaDoorM2
import Derived.Test.YtkagcjibneigdaaDoorM3
import Derived.Test.YtkagcjibneigdaaDoorM4
import Derived.Test.YtkagcjibneigdaaDoorM
set_option maxRecDepth 100000
namespace Go.Proofs.YtkagcjibneigdaaDoor
open Go Go.RowKit Go.Proofs.YtkagcjibneigdaaDoor.Vc
theorem ok6 : MeetsG Tryd.prog GW (mkCon sig6 pre6 raw6) 6 sig6 := meets [pr13, pr11, pr15, pr10] loopsA rfl 6 (by kernel_rfl) (vh6 vc6)
noncomputable def pr6 : PrG Tryd.prog GW := ⟨6, sig6, mkCon sig6 pre6 raw6, ok6, ⟨Tryd.f6, Tryd.func6, by kernel_rfl, by kernel_rfl⟩⟩
end Go.Proofs.YtkagcjibneigdaaDoor
