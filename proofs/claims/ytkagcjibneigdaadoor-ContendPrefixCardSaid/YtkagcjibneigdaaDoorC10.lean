/- What the functions do, and what is left to show of each. -/
import Derived.Test.YtkagcjibneigdaaDoorC
set_option linter.unusedVariables false
namespace Go.Proofs.YtkagcjibneigdaaDoor
open Go Go.RowKit Go.Proofs.YtkagcjibneigdaaDoor.Vc
/-! hotspotlaw16.ContendPrefix -/
def sig6 : CSig := ⟨[⟨true, [.slc [.int .u8, .int .i64, .int .i64, .int .i64, .int .i64, .int .i64, .int .i64], .mat [.bool], .bool, .int .i64]⟩, ⟨false, [.int .i64]⟩, ⟨false, [.slc [.int .i64]]⟩], [⟨false, [.bool]⟩]⟩
def pre6 : List AV → Prop
  | [.a v0, .i v1, .m v2l v2f, .i v3, .b v4, .i v5, .i v6, .a v7, .i v8] => u8P v0 v1
  | _ => False
noncomputable def raw6 : List AV → List AV
  | [.a v0, .i v1, .m v2l v2f, .i v3, .b v4, .i v5, .i v6, .a v7, .i v8] => [.b (true)]
  | _ => []

def VH6 : Prop :=
  ∀ (v0 : Int → Nat → Int) (v1 : Int) (v2l : Int → Int) (v2f : Int → Int → Nat → Int) (v3 : Int) (v4 : Bool) (v5 : Int) (v6 : Int) (v7 : Int → Nat → Int) (v8 : Int),
  (u8P v0 v1) →
  (0 ≤ v1 →
  (0 ≤ v3 →
  (0 ≤ v8 →
  (True) ∧ (∀ (v9 : Bool), v9 = true → 
  (v1 ≤ 9223372036854775807 →
  (v3 ≤ 9223372036854775807 →
  (v8 ≤ 9223372036854775807 →
  (True) ∧ (∀ (v10 : Bool), v10 = (hidF gcB) v1 v2l v3 v5 (300 : Int) → 
  (((((v10 = true ∨ 500 < v8) ∨ v6 < 0) ∨ v5 < v6) ∨ ¬ (v9 = true)) →
    (v9 = true ↔ true = true) ∧ True) ∧
  (¬ (((((v10 = true ∨ 500 < v8) ∨ v6 < 0) ∨ v5 < v6) ∨ ¬ (v9 = true))) →
    (u8P v0 v1) ∧ (∀ (v11 : Int → Nat → Int) (v12 : Int) (v13 : Int → Nat → Int) (v14 : Int) (v15 : Int), v11 = (hidF crO) v0 v1 v2l v2f v3 v4 v5 v7 v8 → v12 = (hidF crK) v0 v1 v2l v2f v3 v4 v5 v7 v8 → v13 = (hidF crA) v0 v1 v2l v2f v3 v4 v5 v7 v8 → v14 = (hidF crN) v0 v1 v2l v2f v3 v4 v5 v7 v8 v1 → v15 = (hidF crE) v0 v1 v2l v2f v3 v4 v5 v7 v8 → 
    (0 ≤ v12 →
    (0 ≤ v14 →
    (u8P v0 v1) ∧ (∀ (v16 : Int → Nat → Int) (v17 : Int) (v18 : Int → Nat → Int) (v19 : Int) (v20 : Int), v16 = (hidF crO) v0 v1 v2l v2f v3 v4 v6 v7 v8 → v17 = (hidF crK) v0 v1 v2l v2f v3 v4 v6 v7 v8 → v18 = (hidF crA) v0 v1 v2l v2f v3 v4 v6 v7 v8 → v19 = (hidF crN) v0 v1 v2l v2f v3 v4 v6 v7 v8 v1 → v20 = (hidF crE) v0 v1 v2l v2f v3 v4 v6 v7 v8 → 
    (0 ≤ v17 →
    (0 ≤ v19 →
    (v12 ≤ 9223372036854775807 →
    (v14 ≤ 9223372036854775807 →
    (v17 ≤ 9223372036854775807 →
    (v19 ≤ 9223372036854775807 →
    (¬ (v15 = 0) →
      (v9 = true ↔ true = true) ∧ True) ∧
    (¬ (¬ (v15 = 0)) →
      ∃ (I0 : (Int) → Prop) (μ0 : (Int) → Nat), I0 (0 : Int) ∧ (∀ (v21 : Int), I0 v21 →
        (¬ (v21 < v12) ∨ 0 ≤ v21) ∧ ((¬ (v21 < v12) ∨ 0 ≤ v21) →
        (¬ (v21 < v12) ∨ 0 ≤ v21) ∧ ((¬ (v21 < v12) ∨ 0 ≤ v21) →
        ((v21 < v12 ∧ (v11 v21 2) ≤ v6) →
          (-9223372036854775808 ≤ (v21 + 1) ∧ (v21 + 1) ≤ 9223372036854775807) ∧ ((-9223372036854775808 ≤ (v21 + 1) ∧ (v21 + 1) ≤ 9223372036854775807) →
          I0 (v21 + 1) ∧ μ0 (v21 + 1) < μ0 v21)) ∧
        (¬ ((v21 < v12 ∧ (v11 v21 2) ≤ v6)) →
          (¬ ((v9 = true ∧ v20 = 0)) ∨ 0 ≤ v21) ∧ ((¬ ((v9 = true ∧ v20 = 0)) ∨ 0 ≤ v21) →
          (¬ ((v9 = true ∧ v20 = 0)) ∨ v21 ≤ v12) ∧ ((¬ ((v9 = true ∧ v20 = 0)) ∨ v21 ≤ v12) →
          (¬ ((v9 = true ∧ v20 = 0)) ∨ v21 ≤ v12) ∧ ((¬ ((v9 = true ∧ v20 = 0)) ∨ v21 ≤ v12) →
          (((v9 = true ∧ v20 = 0) → True)) ∧ (∀ (v22 : Bool), v22 = (hidF sbB) v16 v17 v11 v21 → 
          (((v9 = true ∧ v20 = 0) ∧ v22 = true) ↔ true = true) ∧ True))))))))))))))))))))))))))))
def VC6 : Prop :=
  ∀ (v0 : Int → Nat → Int) (v1 : Int) (v2l : Int → Int) (v2f : Int → Int → Nat → Int) (v3 : Int) (v4 : Bool) (v5 : Int) (v6 : Int) (v7 : Int → Nat → Int) (v8 : Int),
  (u8P v0 v1) →
  (0 ≤ v1 →
  (0 ≤ v3 →
  (0 ≤ v8 →
  (True) ∧ (∀ (v9 : Bool), v9 = true → 
  (v1 ≤ 9223372036854775807 →
  (v3 ≤ 9223372036854775807 →
  (v8 ≤ 9223372036854775807 →
  (True) ∧ (∀ (v10 : Bool), v10 = gcB v1 v2l v3 v5 (300 : Int) → 
  (((((v10 = true ∨ 500 < v8) ∨ v6 < 0) ∨ v5 < v6) ∨ ¬ (v9 = true)) →
    (v9 = true ↔ true = true) ∧ True) ∧
  (¬ (((((v10 = true ∨ 500 < v8) ∨ v6 < 0) ∨ v5 < v6) ∨ ¬ (v9 = true))) →
    (u8P v0 v1) ∧ (∀ (v11 : Int → Nat → Int) (v12 : Int) (v13 : Int → Nat → Int) (v14 : Int) (v15 : Int), v11 = crO v0 v1 v2l v2f v3 v4 v5 v7 v8 → v12 = crK v0 v1 v2l v2f v3 v4 v5 v7 v8 → v13 = crA v0 v1 v2l v2f v3 v4 v5 v7 v8 → v14 = crN v0 v1 v2l v2f v3 v4 v5 v7 v8 v1 → v15 = crE v0 v1 v2l v2f v3 v4 v5 v7 v8 → 
    (0 ≤ v12 →
    (0 ≤ v14 →
    (u8P v0 v1) ∧ (∀ (v16 : Int → Nat → Int) (v17 : Int) (v18 : Int → Nat → Int) (v19 : Int) (v20 : Int), v16 = crO v0 v1 v2l v2f v3 v4 v6 v7 v8 → v17 = crK v0 v1 v2l v2f v3 v4 v6 v7 v8 → v18 = crA v0 v1 v2l v2f v3 v4 v6 v7 v8 → v19 = crN v0 v1 v2l v2f v3 v4 v6 v7 v8 v1 → v20 = crE v0 v1 v2l v2f v3 v4 v6 v7 v8 → 
    (0 ≤ v17 →
    (0 ≤ v19 →
    (v12 ≤ 9223372036854775807 →
    (v14 ≤ 9223372036854775807 →
    (v17 ≤ 9223372036854775807 →
    (v19 ≤ 9223372036854775807 →
    (¬ (v15 = 0) →
      (v9 = true ↔ true = true) ∧ True) ∧
    (¬ (¬ (v15 = 0)) →
      ∃ (I0 : (Int) → Prop) (μ0 : (Int) → Nat), I0 (0 : Int) ∧ (∀ (v21 : Int), I0 v21 →
        (¬ (v21 < v12) ∨ 0 ≤ v21) ∧ ((¬ (v21 < v12) ∨ 0 ≤ v21) →
        (¬ (v21 < v12) ∨ 0 ≤ v21) ∧ ((¬ (v21 < v12) ∨ 0 ≤ v21) →
        ((v21 < v12 ∧ (v11 v21 2) ≤ v6) →
          (-9223372036854775808 ≤ (v21 + 1) ∧ (v21 + 1) ≤ 9223372036854775807) ∧ ((-9223372036854775808 ≤ (v21 + 1) ∧ (v21 + 1) ≤ 9223372036854775807) →
          I0 (v21 + 1) ∧ μ0 (v21 + 1) < μ0 v21)) ∧
        (¬ ((v21 < v12 ∧ (v11 v21 2) ≤ v6)) →
          (¬ ((v9 = true ∧ v20 = 0)) ∨ 0 ≤ v21) ∧ ((¬ ((v9 = true ∧ v20 = 0)) ∨ 0 ≤ v21) →
          (¬ ((v9 = true ∧ v20 = 0)) ∨ v21 ≤ v12) ∧ ((¬ ((v9 = true ∧ v20 = 0)) ∨ v21 ≤ v12) →
          (¬ ((v9 = true ∧ v20 = 0)) ∨ v21 ≤ v12) ∧ ((¬ ((v9 = true ∧ v20 = 0)) ∨ v21 ≤ v12) →
          (((v9 = true ∧ v20 = 0) → True)) ∧ (∀ (v22 : Bool), v22 = sbB v16 v17 v11 v21 → 
          (((v9 = true ∧ v20 = 0) ∧ v22 = true) ↔ true = true) ∧ True))))))))))))))))))))))))))))
theorem vh6 (h : VC6) : VH6 := by
  unfold VH6
  rw [hidF_eq crA, hidF_eq crE, hidF_eq crK, hidF_eq crN, hidF_eq crO, hidF_eq gcB, hidF_eq sbB]
  exact h
end Go.Proofs.YtkagcjibneigdaaDoor
