/- What the functions do, and what is left to show of each. -/
import Derived.Test.YtakkebjoeceplaaW
set_option linter.unusedVariables false
namespace Go.Proofs.Ytakkebjoeceplaa
open Go Go.RowKit Go.Proofs.Ytakkebjoeceplaa.Vc
/-! hotspotlaw42.alive -/
def sig26 : CSig := ⟨[], [⟨false, [.bool]⟩]⟩
def pre26 : List AV → Prop
  | [] => True
  | _ => False
noncomputable def raw26 : List AV → List AV
  | [] => [.b (true)]
  | _ => []

def VC26 : Prop :=
  (True) →
  (True ↔ true = true) ∧ True
/-! hotspotlaw42.AdaptNames -/
def sig8 : CSig := ⟨[], [⟨false, [.bool]⟩]⟩
def pre8 : List AV → Prop
  | [] => True
  | _ => False
noncomputable def raw8 : List AV → List AV
  | [] => [.b (true)]
  | _ => []

def VC8 : Prop :=
  (True) →
  (True) ∧ (∀ (v0 : Bool), v0 = true → 
  (v0 = true ↔ true = true) ∧ True)
end Go.Proofs.Ytakkebjoeceplaa
