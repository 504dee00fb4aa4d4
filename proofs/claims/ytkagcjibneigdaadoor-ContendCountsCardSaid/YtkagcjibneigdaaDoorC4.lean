/- What the functions do, and what is left to show of each. -/
import Derived.Test.YtkagcjibneigdaaDoorC
set_option linter.unusedVariables false
namespace Go.Proofs.YtkagcjibneigdaaDoor
open Go Go.RowKit Go.Proofs.YtkagcjibneigdaaDoor.Vc
/-! hotspotlaw16.alive -/
def sig10 : CSig := ⟨[], [⟨false, [.bool]⟩]⟩
def pre10 : List AV → Prop
  | [] => True
  | _ => False
noncomputable def raw10 : List AV → List AV
  | [] => [.b (true)]
  | _ => []

def VH10 : Prop :=
  (True) →
  (True ↔ true = true) ∧ True
def VC10 : Prop :=
  (True) →
  (True ↔ true = true) ∧ True
theorem vh10 (h : VC10) : VH10 := by
  unfold VH10
  exact h
end Go.Proofs.YtkagcjibneigdaaDoor
