/- What the functions do, and what is left to show of each. -/
import Derived.Test.YtiiebpfifkaleaaC
set_option linter.unusedVariables false
namespace Go.Proofs.Ytiiebpfifkaleaa
open Go Go.RowKit Go.Proofs.Ytiiebpfifkaleaa.Vc
/-! hotspotlaw10.RadioLoss -/
def sig6 : CSig := ⟨[⟨false, [.int .i64]⟩, ⟨false, [.int .i64]⟩], [⟨false, [.bool]⟩]⟩
def pre6 : List AV → Prop
  | [.i v0, .i v1] => -9223372036854775808 ≤ v0 ∧ v0 ≤ 9223372036854775807 ∧ -9223372036854775808 ≤ v1 ∧ v1 ≤ 9223372036854775807
  | _ => False
noncomputable def raw6 : List AV → List AV
  | [.i v0, .i v1] => [.b (true)]
  | _ => []

def VH6 : Prop :=
  ∀ (v0 : Int) (v1 : Int),
  (-9223372036854775808 ≤ v0 ∧ v0 ≤ 9223372036854775807 ∧ -9223372036854775808 ≤ v1 ∧ v1 ≤ 9223372036854775807) →
  (True) ∧ (∀ (v2 : Bool), v2 = true → 
  (True) ∧ (∀ (v3 : Int) (v4 : Int), v3 = (hidF lossv) v0 → v4 = (hidF losse) v0 → 
  (True) ∧ (∀ (v5 : Int) (v6 : Int), v5 = (hidF lossv) v1 → v6 = (hidF losse) v1 → 
  (((¬ (v4 = 0) ∨ ¬ (v6 = 0)) ∨ ¬ (v2 = true)) →
    (((v2 = true ∧ (v4 = 0 ∨ v3 = 0)) ∧ (v6 = 0 ∨ v5 = 0)) ↔ true = true) ∧ True) ∧
  (¬ (((¬ (v4 = 0) ∨ ¬ (v6 = 0)) ∨ ¬ (v2 = true))) →
    ((((v0 ≤ v1 ∧ v5 < v3) ∨ (v1 ≤ v0 ∧ v3 < v5)) ∨ v3 < 400) →
      (False ↔ true = true) ∧ True) ∧
    (¬ ((((v0 ≤ v1 ∧ v5 < v3) ∨ (v1 ≤ v0 ∧ v3 < v5)) ∨ v3 < 400)) →
      (-9223372036854775808 ≤ (2 * v0) ∧ (2 * v0) ≤ 9223372036854775807) ∧ ((-9223372036854775808 ≤ (2 * v0) ∧ (2 * v0) ≤ 9223372036854775807) →
      (True) ∧ (∀ (v7 : Int) (v8 : Int), v7 = (hidF lossv) (2 * v0) → v8 = (hidF losse) (2 * v0) → 
      (¬ ((¬ ((v0 = 0 ∨ (¬ (v8 = 0) ∧ 30000 < (2 * v0)))) ∧ v8 = 0)) ∨ (-9223372036854775808 ≤ (v3 + 60) ∧ (v3 + 60) ≤ 9223372036854775807)) ∧ ((¬ ((¬ ((v0 = 0 ∨ (¬ (v8 = 0) ∧ 30000 < (2 * v0)))) ∧ v8 = 0)) ∨ (-9223372036854775808 ≤ (v3 + 60) ∧ (v3 + 60) ≤ 9223372036854775807)) →
      (((v0 = 0 ∨ (¬ (v8 = 0) ∧ 30000 < (2 * v0))) ∨ (v8 = 0 ∧ v7 = (v3 + 60))) ↔ true = true) ∧ True))))))))
def VC6 : Prop :=
  ∀ (v0 : Int) (v1 : Int),
  (-9223372036854775808 ≤ v0 ∧ v0 ≤ 9223372036854775807 ∧ -9223372036854775808 ≤ v1 ∧ v1 ≤ 9223372036854775807) →
  (True) ∧ (∀ (v2 : Bool), v2 = true → 
  (True) ∧ (∀ (v3 : Int) (v4 : Int), v3 = lossv v0 → v4 = losse v0 → 
  (True) ∧ (∀ (v5 : Int) (v6 : Int), v5 = lossv v1 → v6 = losse v1 → 
  (((¬ (v4 = 0) ∨ ¬ (v6 = 0)) ∨ ¬ (v2 = true)) →
    (((v2 = true ∧ (v4 = 0 ∨ v3 = 0)) ∧ (v6 = 0 ∨ v5 = 0)) ↔ true = true) ∧ True) ∧
  (¬ (((¬ (v4 = 0) ∨ ¬ (v6 = 0)) ∨ ¬ (v2 = true))) →
    ((((v0 ≤ v1 ∧ v5 < v3) ∨ (v1 ≤ v0 ∧ v3 < v5)) ∨ v3 < 400) →
      (False ↔ true = true) ∧ True) ∧
    (¬ ((((v0 ≤ v1 ∧ v5 < v3) ∨ (v1 ≤ v0 ∧ v3 < v5)) ∨ v3 < 400)) →
      (-9223372036854775808 ≤ (2 * v0) ∧ (2 * v0) ≤ 9223372036854775807) ∧ ((-9223372036854775808 ≤ (2 * v0) ∧ (2 * v0) ≤ 9223372036854775807) →
      (True) ∧ (∀ (v7 : Int) (v8 : Int), v7 = lossv (2 * v0) → v8 = losse (2 * v0) → 
      (¬ ((¬ ((v0 = 0 ∨ (¬ (v8 = 0) ∧ 30000 < (2 * v0)))) ∧ v8 = 0)) ∨ (-9223372036854775808 ≤ (v3 + 60) ∧ (v3 + 60) ≤ 9223372036854775807)) ∧ ((¬ ((¬ ((v0 = 0 ∨ (¬ (v8 = 0) ∧ 30000 < (2 * v0)))) ∧ v8 = 0)) ∨ (-9223372036854775808 ≤ (v3 + 60) ∧ (v3 + 60) ≤ 9223372036854775807)) →
      (((v0 = 0 ∨ (¬ (v8 = 0) ∧ 30000 < (2 * v0))) ∨ (v8 = 0 ∧ v7 = (v3 + 60))) ↔ true = true) ∧ True))))))))
theorem vh6 (h : VC6) : VH6 := by
  unfold VH6
  rw [hidF_eq losse, hidF_eq lossv]
  exact h
end Go.Proofs.Ytiiebpfifkaleaa
