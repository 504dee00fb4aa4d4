/- What the functions do, and what is left to show of each. -/
import Derived.Test.YtkagcjibneigdaaDoorC
set_option linter.unusedVariables false
namespace Go.Proofs.YtkagcjibneigdaaDoor
open Go Go.RowKit Go.Proofs.YtkagcjibneigdaaDoor.Vc
/-! hotspotlaw16.ContendCounts -/
def sig5 : CSig := ⟨[⟨true, [.slc [.int .u8, .int .i64, .int .i64, .int .i64, .int .i64, .int .i64, .int .i64], .mat [.bool], .bool, .int .i64]⟩, ⟨false, [.slc [.int .i64]]⟩], [⟨false, [.bool]⟩]⟩
def pre5 : List AV → Prop
  | [.a v0, .i v1, .m v2l v2f, .i v3, .b v4, .i v5, .a v6, .i v7] => u8P v0 v1
  | _ => False
noncomputable def raw5 : List AV → List AV
  | [.a v0, .i v1, .m v2l v2f, .i v3, .b v4, .i v5, .a v6, .i v7] => [.b (true)]
  | _ => []

def VH5 : Prop :=
  ∀ (v0 : Int → Nat → Int) (v1 : Int) (v2l : Int → Int) (v2f : Int → Int → Nat → Int) (v3 : Int) (v4 : Bool) (v5 : Int) (v6 : Int → Nat → Int) (v7 : Int),
  (u8P v0 v1) →
  (0 ≤ v1 →
  (0 ≤ v3 →
  (0 ≤ v7 →
  (True) ∧ (∀ (v8 : Bool), v8 = true → 
  (v1 ≤ 9223372036854775807 →
  (v3 ≤ 9223372036854775807 →
  (v7 ≤ 9223372036854775807 →
  (True) ∧ (∀ (v9 : Bool), v9 = (hidF gcB) v1 v2l v3 v5 (300 : Int) → 
  (((v9 = true ∨ 500 < v7) ∨ ¬ (v8 = true)) →
    (v8 = true ↔ true = true) ∧ True) ∧
  (¬ (((v9 = true ∨ 500 < v7) ∨ ¬ (v8 = true))) →
    (u8P v0 v1) ∧ (∀ (v10 : Int → Nat → Int) (v11 : Int) (v12 : Int → Nat → Int) (v13 : Int) (v14 : Int), v10 = (hidF crO) v0 v1 v2l v2f v3 v4 v5 v6 v7 → v11 = (hidF crK) v0 v1 v2l v2f v3 v4 v5 v6 v7 → v12 = (hidF crA) v0 v1 v2l v2f v3 v4 v5 v6 v7 → v13 = (hidF crN) v0 v1 v2l v2f v3 v4 v5 v6 v7 v1 → v14 = (hidF crE) v0 v1 v2l v2f v3 v4 v5 v6 v7 → 
    (0 ≤ v11 →
    (0 ≤ v13 →
    (v11 ≤ 9223372036854775807 →
    (v13 ≤ 9223372036854775807 →
    (¬ (v14 = 0) →
      ((v8 = true ∧ v13 = 0) ↔ true = true) ∧ True) ∧
    (¬ (¬ (v14 = 0)) →
      (¬ (v13 = v1) →
        (False ↔ true = true) ∧ True) ∧
      (¬ (¬ (v13 = v1)) →
        ∃ (I0 : (Int) → Prop) (μ0 : (Int) → Nat), I0 (0 : Int) ∧ (∀ (v15 : Int), I0 v15 →
          (v15 < v13 →
            0 ≤ v15 ∧ (0 ≤ v15 →
            v15 < v1 ∧ (v15 < v1 →
            ∃ (I1 : (Int) → (Int) → (Int) → Prop) (μ1 : (Int) → (Int) → (Int) → Nat), I1 (v0 v15 4) (v0 v15 3) (0 : Int) ∧ (∀ (v16 : Int) (v17 : Int) (v18 : Int), I1 v16 v17 v18 →
              (v18 < v11 →
                0 ≤ v18 ∧ (0 ≤ v18 →
                (¬ ((v10 v18 0) = v15) →
                  (-9223372036854775808 ≤ (v18 + 1) ∧ (v18 + 1) ≤ 9223372036854775807) ∧ ((-9223372036854775808 ≤ (v18 + 1) ∧ (v18 + 1) ≤ 9223372036854775807) →
                  I1 v16 v17 (v18 + 1) ∧ μ1 v16 v17 (v18 + 1) < μ1 v16 v17 v18)) ∧
                (¬ (¬ ((v10 v18 0) = v15)) →
                  (v16 = 0 →
                    (False ↔ true = true) ∧ True) ∧
                  (¬ (v16 = 0) →
                    (-9223372036854775808 ≤ (v17 + 1) ∧ (v17 + 1) ≤ 9223372036854775807) ∧ ((-9223372036854775808 ≤ (v17 + 1) ∧ (v17 + 1) ≤ 9223372036854775807) →
                    ((¬ ((v10 v18 4) = 0) ∨ (v17 + 1) = 7) →
                      (-9223372036854775808 ≤ (v16 - 1) ∧ (v16 - 1) ≤ 9223372036854775807) ∧ ((-9223372036854775808 ≤ (v16 - 1) ∧ (v16 - 1) ≤ 9223372036854775807) →
                      (-9223372036854775808 ≤ (v18 + 1) ∧ (v18 + 1) ≤ 9223372036854775807) ∧ ((-9223372036854775808 ≤ (v18 + 1) ∧ (v18 + 1) ≤ 9223372036854775807) →
                      I1 (v16 - 1) (0 : Int) (v18 + 1) ∧ μ1 (v16 - 1) (0 : Int) (v18 + 1) < μ1 v16 v17 v18))) ∧
                    (¬ ((¬ ((v10 v18 4) = 0) ∨ (v17 + 1) = 7)) →
                      (-9223372036854775808 ≤ (v18 + 1) ∧ (v18 + 1) ≤ 9223372036854775807) ∧ ((-9223372036854775808 ≤ (v18 + 1) ∧ (v18 + 1) ≤ 9223372036854775807) →
                      I1 v16 (v17 + 1) (v18 + 1) ∧ μ1 v16 (v17 + 1) (v18 + 1) < μ1 v16 v17 v18))))))) ∧
              (¬ (v18 < v11) →
                (((((¬ ((v12 v15 4) = v16) ∨ ¬ ((v12 v15 3) = v17)) ∨ ¬ ((v12 v15 5) = (v0 v15 5))) ∨ ¬ ((v12 v15 6) = (v0 v15 6))) ∨ ¬ ((v12 v15 0) = (v0 v15 0))) →
                  (False ↔ true = true) ∧ True) ∧
                (¬ (((((¬ ((v12 v15 4) = v16) ∨ ¬ ((v12 v15 3) = v17)) ∨ ¬ ((v12 v15 5) = (v0 v15 5))) ∨ ¬ ((v12 v15 6) = (v0 v15 6))) ∨ ¬ ((v12 v15 0) = (v0 v15 0)))) →
                  (-9223372036854775808 ≤ (v15 + 1) ∧ (v15 + 1) ≤ 9223372036854775807) ∧ ((-9223372036854775808 ≤ (v15 + 1) ∧ (v15 + 1) ≤ 9223372036854775807) →
                  I0 (v15 + 1) ∧ μ0 (v15 + 1) < μ0 v15))))))) ∧
          (¬ (v15 < v13) →
            ((v8 = true → u8P v12 v13)) ∧ (∀ (v16 : Int), v16 = (hidF ccE) v12 v13 v2l v2f v3 v4 v5 → 
            ((v8 = true ∧ v16 = 0) ↔ true = true) ∧ True)))))))))))))))))))
def VC5 : Prop :=
  ∀ (v0 : Int → Nat → Int) (v1 : Int) (v2l : Int → Int) (v2f : Int → Int → Nat → Int) (v3 : Int) (v4 : Bool) (v5 : Int) (v6 : Int → Nat → Int) (v7 : Int),
  (u8P v0 v1) →
  (0 ≤ v1 →
  (0 ≤ v3 →
  (0 ≤ v7 →
  (True) ∧ (∀ (v8 : Bool), v8 = true → 
  (v1 ≤ 9223372036854775807 →
  (v3 ≤ 9223372036854775807 →
  (v7 ≤ 9223372036854775807 →
  (True) ∧ (∀ (v9 : Bool), v9 = gcB v1 v2l v3 v5 (300 : Int) → 
  (((v9 = true ∨ 500 < v7) ∨ ¬ (v8 = true)) →
    (v8 = true ↔ true = true) ∧ True) ∧
  (¬ (((v9 = true ∨ 500 < v7) ∨ ¬ (v8 = true))) →
    (u8P v0 v1) ∧ (∀ (v10 : Int → Nat → Int) (v11 : Int) (v12 : Int → Nat → Int) (v13 : Int) (v14 : Int), v10 = crO v0 v1 v2l v2f v3 v4 v5 v6 v7 → v11 = crK v0 v1 v2l v2f v3 v4 v5 v6 v7 → v12 = crA v0 v1 v2l v2f v3 v4 v5 v6 v7 → v13 = crN v0 v1 v2l v2f v3 v4 v5 v6 v7 v1 → v14 = crE v0 v1 v2l v2f v3 v4 v5 v6 v7 → 
    (0 ≤ v11 →
    (0 ≤ v13 →
    (v11 ≤ 9223372036854775807 →
    (v13 ≤ 9223372036854775807 →
    (¬ (v14 = 0) →
      ((v8 = true ∧ v13 = 0) ↔ true = true) ∧ True) ∧
    (¬ (¬ (v14 = 0)) →
      (¬ (v13 = v1) →
        (False ↔ true = true) ∧ True) ∧
      (¬ (¬ (v13 = v1)) →
        ∃ (I0 : (Int) → Prop) (μ0 : (Int) → Nat), I0 (0 : Int) ∧ (∀ (v15 : Int), I0 v15 →
          (v15 < v13 →
            0 ≤ v15 ∧ (0 ≤ v15 →
            v15 < v1 ∧ (v15 < v1 →
            ∃ (I1 : (Int) → (Int) → (Int) → Prop) (μ1 : (Int) → (Int) → (Int) → Nat), I1 (v0 v15 4) (v0 v15 3) (0 : Int) ∧ (∀ (v16 : Int) (v17 : Int) (v18 : Int), I1 v16 v17 v18 →
              (v18 < v11 →
                0 ≤ v18 ∧ (0 ≤ v18 →
                (¬ ((v10 v18 0) = v15) →
                  (-9223372036854775808 ≤ (v18 + 1) ∧ (v18 + 1) ≤ 9223372036854775807) ∧ ((-9223372036854775808 ≤ (v18 + 1) ∧ (v18 + 1) ≤ 9223372036854775807) →
                  I1 v16 v17 (v18 + 1) ∧ μ1 v16 v17 (v18 + 1) < μ1 v16 v17 v18)) ∧
                (¬ (¬ ((v10 v18 0) = v15)) →
                  (v16 = 0 →
                    (False ↔ true = true) ∧ True) ∧
                  (¬ (v16 = 0) →
                    (-9223372036854775808 ≤ (v17 + 1) ∧ (v17 + 1) ≤ 9223372036854775807) ∧ ((-9223372036854775808 ≤ (v17 + 1) ∧ (v17 + 1) ≤ 9223372036854775807) →
                    ((¬ ((v10 v18 4) = 0) ∨ (v17 + 1) = 7) →
                      (-9223372036854775808 ≤ (v16 - 1) ∧ (v16 - 1) ≤ 9223372036854775807) ∧ ((-9223372036854775808 ≤ (v16 - 1) ∧ (v16 - 1) ≤ 9223372036854775807) →
                      (-9223372036854775808 ≤ (v18 + 1) ∧ (v18 + 1) ≤ 9223372036854775807) ∧ ((-9223372036854775808 ≤ (v18 + 1) ∧ (v18 + 1) ≤ 9223372036854775807) →
                      I1 (v16 - 1) (0 : Int) (v18 + 1) ∧ μ1 (v16 - 1) (0 : Int) (v18 + 1) < μ1 v16 v17 v18))) ∧
                    (¬ ((¬ ((v10 v18 4) = 0) ∨ (v17 + 1) = 7)) →
                      (-9223372036854775808 ≤ (v18 + 1) ∧ (v18 + 1) ≤ 9223372036854775807) ∧ ((-9223372036854775808 ≤ (v18 + 1) ∧ (v18 + 1) ≤ 9223372036854775807) →
                      I1 v16 (v17 + 1) (v18 + 1) ∧ μ1 v16 (v17 + 1) (v18 + 1) < μ1 v16 v17 v18))))))) ∧
              (¬ (v18 < v11) →
                (((((¬ ((v12 v15 4) = v16) ∨ ¬ ((v12 v15 3) = v17)) ∨ ¬ ((v12 v15 5) = (v0 v15 5))) ∨ ¬ ((v12 v15 6) = (v0 v15 6))) ∨ ¬ ((v12 v15 0) = (v0 v15 0))) →
                  (False ↔ true = true) ∧ True) ∧
                (¬ (((((¬ ((v12 v15 4) = v16) ∨ ¬ ((v12 v15 3) = v17)) ∨ ¬ ((v12 v15 5) = (v0 v15 5))) ∨ ¬ ((v12 v15 6) = (v0 v15 6))) ∨ ¬ ((v12 v15 0) = (v0 v15 0)))) →
                  (-9223372036854775808 ≤ (v15 + 1) ∧ (v15 + 1) ≤ 9223372036854775807) ∧ ((-9223372036854775808 ≤ (v15 + 1) ∧ (v15 + 1) ≤ 9223372036854775807) →
                  I0 (v15 + 1) ∧ μ0 (v15 + 1) < μ0 v15))))))) ∧
          (¬ (v15 < v13) →
            ((v8 = true → u8P v12 v13)) ∧ (∀ (v16 : Int), v16 = ccE v12 v13 v2l v2f v3 v4 v5 → 
            ((v8 = true ∧ v16 = 0) ↔ true = true) ∧ True)))))))))))))))))))
theorem vh5 (h : VC5) : VH5 := by
  unfold VH5
  rw [hidF_eq ccE, hidF_eq crA, hidF_eq crE, hidF_eq crK, hidF_eq crN, hidF_eq crO, hidF_eq gcB]
  exact h
end Go.Proofs.YtkagcjibneigdaaDoor
