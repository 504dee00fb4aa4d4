/- The contracts. -/
import Derived.Test.YtkagcjibneigdaaDoorP4
import Derived.Test.YtkagcjibneigdaaDoorM
set_option maxRecDepth 100000
namespace Go.Proofs.YtkagcjibneigdaaDoor
open Go Go.RowKit Go.Proofs.YtkagcjibneigdaaDoor.Vc
theorem ok10 : MeetsG Tryd.prog GW (mkCon sig10 pre10 raw10) 10 sig10 := meetsK [] rfl 10 (by kernel_rfl) (vh10 vc10)
noncomputable def pr10 : PrG Tryd.prog GW := ⟨10, sig10, mkCon sig10 pre10 raw10, ok10, ⟨Tryd.f10, Tryd.func10, by kernel_rfl, by kernel_rfl⟩⟩
end Go.Proofs.YtkagcjibneigdaaDoor
