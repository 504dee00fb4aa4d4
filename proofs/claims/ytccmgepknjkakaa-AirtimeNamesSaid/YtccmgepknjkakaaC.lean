/- What the functions do, and what is left to show of each. -/
import Derived.Test.YtccmgepknjkakaaW
set_option linter.unusedVariables false
namespace Go.Proofs.Ytccmgepknjkakaa
open Go Go.RowKit Go.Proofs.Ytccmgepknjkakaa.Vc
/-! hotspotlaw44.alive -/
def sig15 : CSig := ⟨[], [⟨false, [.bool]⟩]⟩
def pre15 : List AV → Prop
  | [] => True
  | _ => False
noncomputable def raw15 : List AV → List AV
  | [] => [.b (true)]
  | _ => []

def VC15 : Prop :=
  (True) →
  (True ↔ true = true) ∧ True
/-! hotspotlaw44.AirtimeNames -/
def sig8 : CSig := ⟨[], [⟨false, [.bool]⟩]⟩
def pre8 : List AV → Prop
  | [] => True
  | _ => False
noncomputable def raw8 : List AV → List AV
  | [] => [.b (true)]
  | _ => []

def VC8 : Prop :=
  (True) →
  (True) ∧ (∀ (v0 : Bool), v0 = true → 
  (v0 = true →
    (True ↔ true = true) ∧ True) ∧
  (¬ (v0 = true) →
    (False ↔ true = true) ∧ True))
end Go.Proofs.Ytccmgepknjkakaa
