/- What the functions do, and what is left to show of each. -/
import Derived.Test.YtdikdhjfcnocdaaDoorW
set_option linter.unusedVariables false
namespace Go.Proofs.YtdikdhjfcnocdaaDoor
open Go Go.RowKit Go.Proofs.YtdikdhjfcnocdaaDoor.Vc
/-! hotspotlaw14.alive -/
def sig19 : CSig := ⟨[], [⟨false, [.bool]⟩]⟩
def pre19 : List AV → Prop
  | [] => True
  | _ => False
noncomputable def raw19 : List AV → List AV
  | [] => [.b (true)]
  | _ => []

def VC19 : Prop :=
  (True) →
  (True ↔ true = true) ∧ True
/-! hotspotlaw14.BackoffNames -/
def sig10 : CSig := ⟨[], [⟨false, [.bool]⟩]⟩
def pre10 : List AV → Prop
  | [] => True
  | _ => False
noncomputable def raw10 : List AV → List AV
  | [] => [.b (true)]
  | _ => []

def VC10 : Prop :=
  (True) →
  (True) ∧ (∀ (v0 : Bool), v0 = true → 
  (v0 = true ↔ true = true) ∧ True)
end Go.Proofs.YtdikdhjfcnocdaaDoor
