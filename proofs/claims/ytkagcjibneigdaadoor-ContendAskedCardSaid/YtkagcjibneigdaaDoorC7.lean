/- What the functions do, and what is left to show of each. -/
import Derived.Test.YtkagcjibneigdaaDoorC
import Derived.Test.YtkagcjibneigdaaDoorD4
set_option linter.unusedVariables false
namespace Go.Proofs.YtkagcjibneigdaaDoor
open Go Go.RowKit Go.Proofs.YtkagcjibneigdaaDoor.Vc
/-! hotspotlaw16.ContendAsked -/
def sig9 : CSig := ⟨[⟨true, [.slc [.int .u8, .int .i64, .int .i64, .int .i64, .int .i64, .int .i64, .int .i64], .mat [.bool], .bool, .int .i64]⟩, ⟨false, [.slc [.int .i64]]⟩], [⟨false, [.bool]⟩]⟩
def pre9 : List AV → Prop
  | [.a v0, .i v1, .m v2l v2f, .i v3, .b v4, .i v5, .a v6, .i v7] => u8P v0 v1
  | _ => False
noncomputable def raw9 : List AV → List AV
  | [.a v0, .i v1, .m v2l v2f, .i v3, .b v4, .i v5, .a v6, .i v7] => [.b (true)]
  | _ => []

def VH9 : Prop :=
  ∀ (v0 : Int → Nat → Int) (v1 : Int) (v2l : Int → Int) (v2f : Int → Int → Nat → Int) (v3 : Int) (v4 : Bool) (v5 : Int) (v6 : Int → Nat → Int) (v7 : Int),
  (u8P v0 v1) →
  (0 ≤ v1 →
  (0 ≤ v3 →
  (0 ≤ v7 →
  (True) ∧ (∀ (v8 : Bool), v8 = true → 
  (v1 ≤ 9223372036854775807 →
  (v3 ≤ 9223372036854775807 →
  (v7 ≤ 9223372036854775807 →
  (True) ∧ (∀ (v9 : Bool), v9 = (hidF gcB) v1 v2l v3 v5 (300 : Int) → 
  ((¬ (((v9 = true ∨ 500 < v7) ∨ ¬ (v4 = true))) → u8P v0 v1)) ∧ (∀ (v10 : Bool), v10 = (hidF evB) v0 v1 v2l v2f v3 v4 v5 → 
  (((((v9 = true ∨ 500 < v7) ∨ ¬ (v4 = true)) ∨ ¬ (v10 = true)) ∨ ¬ (v8 = true)) →
    (v8 = true ↔ true = true) ∧ True) ∧
  (¬ (((((v9 = true ∨ 500 < v7) ∨ ¬ (v4 = true)) ∨ ¬ (v10 = true)) ∨ ¬ (v8 = true))) →
    (u8P v0 v1) ∧ (∀ (v11 : Int → Nat → Int) (v12 : Int) (v13 : Int → Nat → Int) (v14 : Int) (v15 : Int), v11 = (hidF crO) v0 v1 v2l v2f v3 v4 v5 v6 v7 → v12 = (hidF crK) v0 v1 v2l v2f v3 v4 v5 v6 v7 → v13 = (hidF crA) v0 v1 v2l v2f v3 v4 v5 v6 v7 → v14 = (hidF crN) v0 v1 v2l v2f v3 v4 v5 v6 v7 v1 → v15 = (hidF crE) v0 v1 v2l v2f v3 v4 v5 v6 v7 → 
    (0 ≤ v12 →
    (0 ≤ v14 →
    (v12 ≤ 9223372036854775807 →
    (v14 ≤ 9223372036854775807 →
    (¬ (v15 = 0) →
      ((v8 = true ∧ v12 = 0) ↔ true = true) ∧ True) ∧
    (¬ (¬ (v15 = 0)) →
      ∃ (I0 : (Int) → Prop) (μ0 : (Int) → Nat), I0 (0 : Int) ∧ (∀ (v16 : Int), I0 v16 →
        (v16 < v12 →
          0 ≤ v16 ∧ (0 ≤ v16 →
          (¬ ((((¬ ((v11 v16 4) = 0) ∧ ¬ ((v11 v16 3) = 0)) ∨ ((v11 v16 4) = 0 ∧ (v11 v16 3) = 0)) ∧ (v11 v16 4) = 0)) ∨ (-9223372036854775808 ≤ ((v11 v16 1) + 1) ∧ ((v11 v16 1) + 1) ≤ 9223372036854775807)) ∧ ((¬ ((((¬ ((v11 v16 4) = 0) ∧ ¬ ((v11 v16 3) = 0)) ∨ ((v11 v16 4) = 0 ∧ (v11 v16 3) = 0)) ∧ (v11 v16 4) = 0)) ∨ (-9223372036854775808 ≤ ((v11 v16 1) + 1) ∧ ((v11 v16 1) + 1) ≤ 9223372036854775807)) →
          ((¬ (((¬ ((v11 v16 4) = 0) ∧ ¬ ((v11 v16 3) = 0)) ∨ ((v11 v16 4) = 0 ∧ (v11 v16 3) = 0))) ∨ ((v11 v16 4) = 0 ∧ ¬ ((v11 v16 2) = ((v11 v16 1) + 1)))) →
            (False ↔ true = true) ∧ True) ∧
          (¬ ((¬ (((¬ ((v11 v16 4) = 0) ∧ ¬ ((v11 v16 3) = 0)) ∨ ((v11 v16 4) = 0 ∧ (v11 v16 3) = 0))) ∨ ((v11 v16 4) = 0 ∧ ¬ ((v11 v16 2) = ((v11 v16 1) + 1))))) →
            (-9223372036854775808 ≤ (v16 + 1) ∧ (v16 + 1) ≤ 9223372036854775807) ∧ ((-9223372036854775808 ≤ (v16 + 1) ∧ (v16 + 1) ≤ 9223372036854775807) →
            I0 (v16 + 1) ∧ μ0 (v16 + 1) < μ0 v16))))) ∧
        (¬ (v16 < v12) →
          (v8 = true ↔ true = true) ∧ True))))))))))))))))))
def VC9 : Prop :=
  ∀ (v0 : Int → Nat → Int) (v1 : Int) (v2l : Int → Int) (v2f : Int → Int → Nat → Int) (v3 : Int) (v4 : Bool) (v5 : Int) (v6 : Int → Nat → Int) (v7 : Int),
  (u8P v0 v1) →
  (0 ≤ v1 →
  (0 ≤ v3 →
  (0 ≤ v7 →
  (True) ∧ (∀ (v8 : Bool), v8 = true → 
  (v1 ≤ 9223372036854775807 →
  (v3 ≤ 9223372036854775807 →
  (v7 ≤ 9223372036854775807 →
  (True) ∧ (∀ (v9 : Bool), v9 = gcB v1 v2l v3 v5 (300 : Int) → 
  ((¬ (((v9 = true ∨ 500 < v7) ∨ ¬ (v4 = true))) → u8P v0 v1)) ∧ (∀ (v10 : Bool), v10 = evB v0 v1 v2l v2f v3 v4 v5 → 
  (((((v9 = true ∨ 500 < v7) ∨ ¬ (v4 = true)) ∨ ¬ (v10 = true)) ∨ ¬ (v8 = true)) →
    (v8 = true ↔ true = true) ∧ True) ∧
  (¬ (((((v9 = true ∨ 500 < v7) ∨ ¬ (v4 = true)) ∨ ¬ (v10 = true)) ∨ ¬ (v8 = true))) →
    (u8P v0 v1) ∧ (∀ (v11 : Int → Nat → Int) (v12 : Int) (v13 : Int → Nat → Int) (v14 : Int) (v15 : Int), v11 = crO v0 v1 v2l v2f v3 v4 v5 v6 v7 → v12 = crK v0 v1 v2l v2f v3 v4 v5 v6 v7 → v13 = crA v0 v1 v2l v2f v3 v4 v5 v6 v7 → v14 = crN v0 v1 v2l v2f v3 v4 v5 v6 v7 v1 → v15 = crE v0 v1 v2l v2f v3 v4 v5 v6 v7 → 
    (0 ≤ v12 →
    (0 ≤ v14 →
    (v12 ≤ 9223372036854775807 →
    (v14 ≤ 9223372036854775807 →
    (¬ (v15 = 0) →
      ((v8 = true ∧ v12 = 0) ↔ true = true) ∧ True) ∧
    (¬ (¬ (v15 = 0)) →
      ∃ (I0 : (Int) → Prop) (μ0 : (Int) → Nat), I0 (0 : Int) ∧ (∀ (v16 : Int), I0 v16 →
        (v16 < v12 →
          0 ≤ v16 ∧ (0 ≤ v16 →
          (¬ ((((¬ ((v11 v16 4) = 0) ∧ ¬ ((v11 v16 3) = 0)) ∨ ((v11 v16 4) = 0 ∧ (v11 v16 3) = 0)) ∧ (v11 v16 4) = 0)) ∨ (-9223372036854775808 ≤ ((v11 v16 1) + 1) ∧ ((v11 v16 1) + 1) ≤ 9223372036854775807)) ∧ ((¬ ((((¬ ((v11 v16 4) = 0) ∧ ¬ ((v11 v16 3) = 0)) ∨ ((v11 v16 4) = 0 ∧ (v11 v16 3) = 0)) ∧ (v11 v16 4) = 0)) ∨ (-9223372036854775808 ≤ ((v11 v16 1) + 1) ∧ ((v11 v16 1) + 1) ≤ 9223372036854775807)) →
          ((¬ (((¬ ((v11 v16 4) = 0) ∧ ¬ ((v11 v16 3) = 0)) ∨ ((v11 v16 4) = 0 ∧ (v11 v16 3) = 0))) ∨ ((v11 v16 4) = 0 ∧ ¬ ((v11 v16 2) = ((v11 v16 1) + 1)))) →
            (False ↔ true = true) ∧ True) ∧
          (¬ ((¬ (((¬ ((v11 v16 4) = 0) ∧ ¬ ((v11 v16 3) = 0)) ∨ ((v11 v16 4) = 0 ∧ (v11 v16 3) = 0))) ∨ ((v11 v16 4) = 0 ∧ ¬ ((v11 v16 2) = ((v11 v16 1) + 1))))) →
            (-9223372036854775808 ≤ (v16 + 1) ∧ (v16 + 1) ≤ 9223372036854775807) ∧ ((-9223372036854775808 ≤ (v16 + 1) ∧ (v16 + 1) ≤ 9223372036854775807) →
            I0 (v16 + 1) ∧ μ0 (v16 + 1) < μ0 v16))))) ∧
        (¬ (v16 < v12) →
          (v8 = true ↔ true = true) ∧ True))))))))))))))))))
theorem vh9 (h : VC9) : VH9 := by
  unfold VH9
  rw [hidF_eq crA, hidF_eq crE, hidF_eq crK, hidF_eq crN, hidF_eq crO, hidF_eq evB, hidF_eq gcB]
  exact h
end Go.Proofs.YtkagcjibneigdaaDoor
