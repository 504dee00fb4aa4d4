/- What the functions do, and what is left to show of each. -/
import Derived.Test.YtiiebpfifkaleaaW
set_option linter.unusedVariables false
namespace Go.Proofs.Ytiiebpfifkaleaa
open Go Go.RowKit Go.Proofs.Ytiiebpfifkaleaa.Vc
/-! hotspotlaw10.alive -/
def sig22 : CSig := ⟨[], [⟨false, [.bool]⟩]⟩
def pre22 : List AV → Prop
  | [] => True
  | _ => False
noncomputable def raw22 : List AV → List AV
  | [] => [.b (true)]
  | _ => []

def VC22 : Prop :=
  (True) →
  (True ↔ true = true) ∧ True
/-! hotspotlaw10.RadioNames -/
def sig10 : CSig := ⟨[], [⟨false, [.bool]⟩]⟩
def pre10 : List AV → Prop
  | [] => True
  | _ => False
noncomputable def raw10 : List AV → List AV
  | [] => [.b (true)]
  | _ => []

def VC10 : Prop :=
  (True) →
  (True) ∧ (∀ (v0 : Bool), v0 = true → 
  (v0 = true →
    (True ↔ true = true) ∧ True) ∧
  (¬ (v0 = true) →
    (False ↔ true = true) ∧ True))
end Go.Proofs.Ytiiebpfifkaleaa
