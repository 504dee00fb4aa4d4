/- The contracts. -/
import Derived.Test.YtkagcjibneigdaaDoorP2m
import Derived.Test.YtkagcjibneigdaaDoorM
set_option maxRecDepth 100000
namespace Go.Proofs.YtkagcjibneigdaaDoor
open Go Go.RowKit Go.Proofs.YtkagcjibneigdaaDoor.Vc
theorem ok13 : MeetsG Tryd.prog GW (mkCon sig13 pre13 raw13) 13 sig13 := meets [pr14, pr43] loopsA rfl 13 (by kernel_rfl) (vh13 vc13)
noncomputable def pr13 : PrG Tryd.prog GW := ⟨13, sig13, mkCon sig13 pre13 raw13, ok13, ⟨Tryd.f13, Tryd.func13, by kernel_rfl, by kernel_rfl⟩⟩
end Go.Proofs.YtkagcjibneigdaaDoor
