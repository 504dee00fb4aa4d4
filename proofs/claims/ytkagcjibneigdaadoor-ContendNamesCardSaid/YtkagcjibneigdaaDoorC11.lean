/- What the functions do, and what is left to show of each. -/
import Derived.Test.YtkagcjibneigdaaDoorC
set_option linter.unusedVariables false
namespace Go.Proofs.YtkagcjibneigdaaDoor
open Go Go.RowKit Go.Proofs.YtkagcjibneigdaaDoor.Vc
/-! hotspotlaw16.ContendNames -/
def sig7 : CSig := ⟨[], [⟨false, [.bool]⟩]⟩
def pre7 : List AV → Prop
  | [] => True
  | _ => False
noncomputable def raw7 : List AV → List AV
  | [] => [.b (true)]
  | _ => []

def VH7 : Prop :=
  (True) →
  (True) ∧ (∀ (v0 : Bool), v0 = true → 
  (v0 = true →
    (True ↔ true = true) ∧ True) ∧
  (¬ (v0 = true) →
    (False ↔ true = true) ∧ True))
def VC7 : Prop :=
  (True) →
  (True) ∧ (∀ (v0 : Bool), v0 = true → 
  (v0 = true →
    (True ↔ true = true) ∧ True) ∧
  (¬ (v0 = true) →
    (False ↔ true = true) ∧ True))
theorem vh7 (h : VC7) : VH7 := by
  unfold VH7
  exact h
end Go.Proofs.YtkagcjibneigdaaDoor
