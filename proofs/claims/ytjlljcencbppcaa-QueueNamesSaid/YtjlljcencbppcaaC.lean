/- What the functions do, and what is left to show of each. -/
import Derived.Test.YtjlljcencbppcaaW
set_option linter.unusedVariables false
namespace Go.Proofs.Ytjlljcencbppcaa
open Go Go.RowKit Go.Proofs.Ytjlljcencbppcaa.Vc
/-! hotspotlaw43.alive -/
def sig8 : CSig := ⟨[], [⟨false, [.bool]⟩]⟩
def pre8 : List AV → Prop
  | [] => True
  | _ => False
noncomputable def raw8 : List AV → List AV
  | [] => [.b (true)]
  | _ => []

def VC8 : Prop :=
  (True) →
  (∀ (v0 : Bool),
  (True →
  (v0 = true →
    (True ↔ true = true) ∧ True) ∧
  (¬ (v0 = true) →
    (True ↔ true = true) ∧ True)))
/-! hotspotlaw43.aged -/
def sig14 : CSig := ⟨[], [⟨false, [.bool]⟩]⟩
def pre14 : List AV → Prop
  | [] => True
  | _ => False
noncomputable def raw14 : List AV → List AV
  | [] => [.b (true)]
  | _ => []

def VC14 : Prop :=
  (True) →
  (True ↔ true = true) ∧ True
/-! hotspotlaw43.QueueNames -/
def sig5 : CSig := ⟨[], [⟨false, [.bool]⟩]⟩
def pre5 : List AV → Prop
  | [] => True
  | _ => False
noncomputable def raw5 : List AV → List AV
  | [] => [.b (true)]
  | _ => []

def VC5 : Prop :=
  (True) →
  (True) ∧ (∀ (v0 : Bool), v0 = true → 
  ((v0 = true → True)) ∧ (∀ (v1 : Bool), v1 = true → 
  ((v0 = true ∧ v1 = true) ↔ true = true) ∧ True))
end Go.Proofs.Ytjlljcencbppcaa
