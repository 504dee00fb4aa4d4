/- The contracts. -/
import Derived.Test.YtkagcjibneigdaaDoorP8
import Derived.Test.YtkagcjibneigdaaDoorM2
import Derived.Test.YtkagcjibneigdaaDoorM3
import Derived.Test.YtkagcjibneigdaaDoorM4
import Derived.Test.YtkagcjibneigdaaDoorM
set_option maxRecDepth 100000
namespace Go.Proofs.YtkagcjibneigdaaDoor
open Go Go.RowKit Go.Proofs.YtkagcjibneigdaaDoor.Vc
theorem ok4 : MeetsG Tryd.prog GW (mkCon sig4 pre4 raw4) 4 sig4 := meets [pr13, pr11, pr10] loopsA rfl 4 (by kernel_rfl) (vh4 vc4)
noncomputable def pr4 : PrG Tryd.prog GW := ⟨4, sig4, mkCon sig4 pre4 raw4, ok4, ⟨Tryd.f4, Tryd.func4, by kernel_rfl, by kernel_rfl⟩⟩
end Go.Proofs.YtkagcjibneigdaaDoor
