/- What the functions do, and what is left to show of each. -/
import Derived.Test.YtgdjdaoglkfjdaaC
import Derived.Test.YtgdjdaoglkfjdaaD5
set_option linter.unusedVariables false
namespace Go.Proofs.Ytgdjdaoglkfjdaa
open Go Go.RowKit Go.Proofs.Ytgdjdaoglkfjdaa.Vc
/-! hotspotlaw11.MediumOnce -/
def sig5 : CSig := ⟨[⟨true, [.slc [.int .i64, .int .i64, .int .i64, .int .i64], .mat [.int .i64]]⟩, ⟨false, [.slc [.int .i64, .int .i64, .int .i64, .int .i64]]⟩, ⟨false, [.slc [.bool]]⟩], [⟨false, [.bool]⟩]⟩
def pre5 : List AV → Prop
  | [.a v0, .i v1, .m v2l v2f, .i v3, .a v4, .i v5, .a v6, .i v7] => True
  | _ => False
noncomputable def raw5 : List AV → List AV
  | [.a v0, .i v1, .m v2l v2f, .i v3, .a v4, .i v5, .a v6, .i v7] => [.b (true)]
  | _ => []

def VH5 : Prop :=
  ∀ (v0 : Int → Nat → Int) (v1 : Int) (v2l : Int → Int) (v2f : Int → Int → Nat → Int) (v3 : Int) (v4 : Int → Nat → Int) (v5 : Int) (v6 : Int → Nat → Int) (v7 : Int),
  (True) →
  (0 ≤ v1 →
  (0 ≤ v3 →
  (0 ≤ v5 →
  (0 ≤ v7 →
  (True) ∧ (∀ (v8 : Bool), v8 = true → 
  (v1 ≤ 9223372036854775807 →
  (v3 ≤ 9223372036854775807 →
  (v5 ≤ 9223372036854775807 →
  (v7 ≤ 9223372036854775807 →
  (True) ∧ (∀ (v9 : Bool), v9 = (hidF gr1) v1 v2l v3 v5 → 
  (((v9 = true ∨ 1000 < v7) ∨ ¬ (v8 = true)) →
    (v8 = true ↔ true = true) ∧ True) ∧
  (¬ (((v9 = true ∨ 1000 < v7) ∨ ¬ (v8 = true))) →
    (True) ∧ (∀ (v10l : Int → Int) (v10f : Int → Int → Nat → Int) (v11 : Int) (v12 : Int), v10l = (hidF reL) v0 v1 v2f v3 v4 v5 v6 v7 → v10f = (hidF reF) v0 v1 v2f v3 v4 v5 v6 v7 → v11 = (hidF reN) v0 v1 v2l v2f v3 v4 v5 → v12 = (hidF mcE) v0 v1 v2l v2f v3 v4 v5 → 
    (0 ≤ v11 →
    (v11 ≤ 9223372036854775807 →
    (¬ (v12 = 0) →
      ((v8 = true ∧ v11 = 0) ↔ true = true) ∧ True) ∧
    (¬ (¬ (v12 = 0)) →
      (¬ (v11 = v5) →
        (False ↔ true = true) ∧ True) ∧
      (¬ (¬ (v11 = v5)) →
        ∃ (I0 : (Int) → Prop) (μ0 : (Int) → Nat), I0 (0 : Int) ∧ (∀ (v13 : Int), I0 v13 →
          (v13 < v5 →
            ∃ (I1 : (Int) → Prop) (μ1 : (Int) → Nat), I1 (0 : Int) ∧ (∀ (v14 : Int), I1 v14 →
              0 ≤ v13 ∧ (0 ≤ v13 →
              v13 < v11 ∧ (v13 < v11 →
              (0 ≤ (v10l v13) →
              ((v10l v13) ≤ 9223372036854775807 →
              (v14 < (v10l v13) →
                0 ≤ v14 ∧ (0 ≤ v14 →
                (True) ∧ (∀ (v15 : Bool) (v16 : Int), v15 = ((hidF hrV) v0 v1 v2l v2f v3 ((rowA v10f v13) v14 0) (v4 v13 0)) → v16 = (hidF lvE) v0 v1 v2l v2f v3 ((rowA v10f v13) v14 0) (v4 v13 0) → 
                (True) ∧ (∀ (v17 : Int) (v18 : Int), v17 = (hidF lvV) v0 v1 v2l v2f v3 (v4 v13 0) ((rowA v10f v13) v14 0) → v18 = (hidF lvE) v0 v1 v2l v2f v3 (v4 v13 0) ((rowA v10f v13) v14 0) → 
                (¬ ((¬ ((((¬ (v16 = 0) ∨ ¬ (v18 = 0)) ∨ ¬ (v15 = true)) ∨ v17 < (v4 v13 3))) ∧ 0 < v14)) ∨ (-9223372036854775808 ≤ (v14 - 1) ∧ (v14 - 1) ≤ 9223372036854775807)) ∧ ((¬ ((¬ ((((¬ (v16 = 0) ∨ ¬ (v18 = 0)) ∨ ¬ (v15 = true)) ∨ v17 < (v4 v13 3))) ∧ 0 < v14)) ∨ (-9223372036854775808 ≤ (v14 - 1) ∧ (v14 - 1) ≤ 9223372036854775807)) →
                (¬ ((¬ ((((¬ (v16 = 0) ∨ ¬ (v18 = 0)) ∨ ¬ (v15 = true)) ∨ v17 < (v4 v13 3))) ∧ 0 < v14)) ∨ 0 ≤ (v14 - 1)) ∧ ((¬ ((¬ ((((¬ (v16 = 0) ∨ ¬ (v18 = 0)) ∨ ¬ (v15 = true)) ∨ v17 < (v4 v13 3))) ∧ 0 < v14)) ∨ 0 ≤ (v14 - 1)) →
                (¬ ((¬ ((((¬ (v16 = 0) ∨ ¬ (v18 = 0)) ∨ ¬ (v15 = true)) ∨ v17 < (v4 v13 3))) ∧ 0 < v14)) ∨ (v14 - 1) < (v10l v13)) ∧ ((¬ ((¬ ((((¬ (v16 = 0) ∨ ¬ (v18 = 0)) ∨ ¬ (v15 = true)) ∨ v17 < (v4 v13 3))) ∧ 0 < v14)) ∨ (v14 - 1) < (v10l v13)) →
                (¬ ((¬ ((((¬ (v16 = 0) ∨ ¬ (v18 = 0)) ∨ ¬ (v15 = true)) ∨ v17 < (v4 v13 3))) ∧ 0 < v14)) ∨ 0 ≤ (v14 - 1)) ∧ ((¬ ((¬ ((((¬ (v16 = 0) ∨ ¬ (v18 = 0)) ∨ ¬ (v15 = true)) ∨ v17 < (v4 v13 3))) ∧ 0 < v14)) ∨ 0 ≤ (v14 - 1)) →
                (¬ ((¬ ((((¬ (v16 = 0) ∨ ¬ (v18 = 0)) ∨ ¬ (v15 = true)) ∨ v17 < (v4 v13 3))) ∧ 0 < v14)) ∨ (v14 - 1) < (v10l v13)) ∧ ((¬ ((¬ ((((¬ (v16 = 0) ∨ ¬ (v18 = 0)) ∨ ¬ (v15 = true)) ∨ v17 < (v4 v13 3))) ∧ 0 < v14)) ∨ (v14 - 1) < (v10l v13)) →
                (((((¬ (v16 = 0) ∨ ¬ (v18 = 0)) ∨ ¬ (v15 = true)) ∨ v17 < (v4 v13 3)) ∨ (0 < v14 ∧ ((rowA v10f v13) v14 0) ≤ ((rowA v10f v13) (v14 - 1) 0))) →
                  (False ↔ true = true) ∧ True) ∧
                (¬ (((((¬ (v16 = 0) ∨ ¬ (v18 = 0)) ∨ ¬ (v15 = true)) ∨ v17 < (v4 v13 3)) ∨ (0 < v14 ∧ ((rowA v10f v13) v14 0) ≤ ((rowA v10f v13) (v14 - 1) 0)))) →
                  ∃ (I2 : (Int) → Prop) (μ2 : (Int) → Nat), I2 (0 : Int) ∧ (∀ (v19 : Int), I2 v19 →
                    (v19 < v5 →
                      (v19 = v13 ∨ 0 ≤ v19) ∧ ((v19 = v13 ∨ 0 ≤ v19) →
                      (v19 = v13 ∨ 0 ≤ v19) ∧ ((v19 = v13 ∨ 0 ≤ v19) →
                      ((¬ (v19 = v13) → True)) ∧ (∀ (v20 : Bool), v20 = (hidF ovl) (v4 v13 1) (v4 v13 2) (v4 v19 1) (v4 v19 2) → 
                      (¬ ((¬ (v19 = v13) ∧ v20 = true)) ∨ 0 ≤ v19) ∧ ((¬ ((¬ (v19 = v13) ∧ v20 = true)) ∨ 0 ≤ v19) →
                      (¬ ((¬ (v19 = v13) ∧ v20 = true)) ∨ 0 ≤ v19) ∧ ((¬ ((¬ (v19 = v13) ∧ v20 = true)) ∨ 0 ≤ v19) →
                      (¬ (((¬ (v19 = v13) ∧ v20 = true) ∧ ¬ ((v4 v19 0) = ((rowA v10f v13) v14 0)))) ∨ 0 ≤ v19) ∧ ((¬ (((¬ (v19 = v13) ∧ v20 = true) ∧ ¬ ((v4 v19 0) = ((rowA v10f v13) v14 0)))) ∨ 0 ≤ v19) →
                      (¬ (((¬ (v19 = v13) ∧ v20 = true) ∧ ¬ ((v4 v19 0) = ((rowA v10f v13) v14 0)))) ∨ v19 < v11) ∧ ((¬ (((¬ (v19 = v13) ∧ v20 = true) ∧ ¬ ((v4 v19 0) = ((rowA v10f v13) v14 0)))) ∨ v19 < v11) →
                      (¬ (((¬ (v19 = v13) ∧ v20 = true) ∧ ¬ ((v4 v19 0) = ((rowA v10f v13) v14 0)))) ∨ 0 ≤ v19) ∧ ((¬ (((¬ (v19 = v13) ∧ v20 = true) ∧ ¬ ((v4 v19 0) = ((rowA v10f v13) v14 0)))) ∨ 0 ≤ v19) →
                      (¬ (((¬ (v19 = v13) ∧ v20 = true) ∧ ¬ ((v4 v19 0) = ((rowA v10f v13) v14 0)))) ∨ v19 < v11) ∧ ((¬ (((¬ (v19 = v13) ∧ v20 = true) ∧ ¬ ((v4 v19 0) = ((rowA v10f v13) v14 0)))) ∨ v19 < v11) →
                      (¬ (((¬ (v19 = v13) ∧ v20 = true) ∧ ¬ ((v4 v19 0) = ((rowA v10f v13) v14 0)))) ∨ 0 ≤ v19) ∧ ((¬ (((¬ (v19 = v13) ∧ v20 = true) ∧ ¬ ((v4 v19 0) = ((rowA v10f v13) v14 0)))) ∨ 0 ≤ v19) →
                      (¬ (((¬ (v19 = v13) ∧ v20 = true) ∧ ¬ ((v4 v19 0) = ((rowA v10f v13) v14 0)))) ∨ v19 < v11) ∧ ((¬ (((¬ (v19 = v13) ∧ v20 = true) ∧ ¬ ((v4 v19 0) = ((rowA v10f v13) v14 0)))) ∨ v19 < v11) →
                      ((((¬ (v19 = v13) ∧ v20 = true) ∧ ¬ ((v4 v19 0) = ((rowA v10f v13) v14 0))) → True)) ∧ (∀ (v21 : Bool), v21 = (hidF haB) (rowA v10f v19) (v10l v19) ((rowA v10f v13) v14 0) → 
                      (((¬ (v19 = v13) ∧ v20 = true) ∧ ((v4 v19 0) = ((rowA v10f v13) v14 0) ∨ v21 = true)) →
                        (False ↔ true = true) ∧ True) ∧
                      (¬ (((¬ (v19 = v13) ∧ v20 = true) ∧ ((v4 v19 0) = ((rowA v10f v13) v14 0) ∨ v21 = true))) →
                        (-9223372036854775808 ≤ (v19 + 1) ∧ (v19 + 1) ≤ 9223372036854775807) ∧ ((-9223372036854775808 ≤ (v19 + 1) ∧ (v19 + 1) ≤ 9223372036854775807) →
                        I2 (v19 + 1) ∧ μ2 (v19 + 1) < μ2 v19))))))))))))))) ∧
                    (¬ (v19 < v5) →
                      (-9223372036854775808 ≤ (v14 + 1) ∧ (v14 + 1) ≤ 9223372036854775807) ∧ ((-9223372036854775808 ≤ (v14 + 1) ∧ (v14 + 1) ≤ 9223372036854775807) →
                      I1 (v14 + 1) ∧ μ1 (v14 + 1) < μ1 v14))))))))))))) ∧
              (¬ (v14 < (v10l v13)) →
                (-9223372036854775808 ≤ (v13 + 1) ∧ (v13 + 1) ≤ 9223372036854775807) ∧ ((-9223372036854775808 ≤ (v13 + 1) ∧ (v13 + 1) ≤ 9223372036854775807) →
                I0 (v13 + 1) ∧ μ0 (v13 + 1) < μ0 v13)))))))) ∧
          (¬ (v13 < v5) →
            (v8 = true ↔ true = true) ∧ True))))))))))))))))))
def VC5 : Prop :=
  ∀ (v0 : Int → Nat → Int) (v1 : Int) (v2l : Int → Int) (v2f : Int → Int → Nat → Int) (v3 : Int) (v4 : Int → Nat → Int) (v5 : Int) (v6 : Int → Nat → Int) (v7 : Int),
  (True) →
  (0 ≤ v1 →
  (0 ≤ v3 →
  (0 ≤ v5 →
  (0 ≤ v7 →
  (True) ∧ (∀ (v8 : Bool), v8 = true → 
  (v1 ≤ 9223372036854775807 →
  (v3 ≤ 9223372036854775807 →
  (v5 ≤ 9223372036854775807 →
  (v7 ≤ 9223372036854775807 →
  (True) ∧ (∀ (v9 : Bool), v9 = gr1 v1 v2l v3 v5 → 
  (((v9 = true ∨ 1000 < v7) ∨ ¬ (v8 = true)) →
    (v8 = true ↔ true = true) ∧ True) ∧
  (¬ (((v9 = true ∨ 1000 < v7) ∨ ¬ (v8 = true))) →
    (True) ∧ (∀ (v10l : Int → Int) (v10f : Int → Int → Nat → Int) (v11 : Int) (v12 : Int), v10l = reL v0 v1 v2f v3 v4 v5 v6 v7 → v10f = reF v0 v1 v2f v3 v4 v5 v6 v7 → v11 = reN v0 v1 v2l v2f v3 v4 v5 → v12 = mcE v0 v1 v2l v2f v3 v4 v5 → 
    (0 ≤ v11 →
    (v11 ≤ 9223372036854775807 →
    (¬ (v12 = 0) →
      ((v8 = true ∧ v11 = 0) ↔ true = true) ∧ True) ∧
    (¬ (¬ (v12 = 0)) →
      (¬ (v11 = v5) →
        (False ↔ true = true) ∧ True) ∧
      (¬ (¬ (v11 = v5)) →
        ∃ (I0 : (Int) → Prop) (μ0 : (Int) → Nat), I0 (0 : Int) ∧ (∀ (v13 : Int), I0 v13 →
          (v13 < v5 →
            ∃ (I1 : (Int) → Prop) (μ1 : (Int) → Nat), I1 (0 : Int) ∧ (∀ (v14 : Int), I1 v14 →
              0 ≤ v13 ∧ (0 ≤ v13 →
              v13 < v11 ∧ (v13 < v11 →
              (0 ≤ (v10l v13) →
              ((v10l v13) ≤ 9223372036854775807 →
              (v14 < (v10l v13) →
                0 ≤ v14 ∧ (0 ≤ v14 →
                (True) ∧ (∀ (v15 : Bool) (v16 : Int), v15 = (hrV v0 v1 v2l v2f v3 ((rowA v10f v13) v14 0) (v4 v13 0)) → v16 = lvE v0 v1 v2l v2f v3 ((rowA v10f v13) v14 0) (v4 v13 0) → 
                (True) ∧ (∀ (v17 : Int) (v18 : Int), v17 = lvV v0 v1 v2l v2f v3 (v4 v13 0) ((rowA v10f v13) v14 0) → v18 = lvE v0 v1 v2l v2f v3 (v4 v13 0) ((rowA v10f v13) v14 0) → 
                (¬ ((¬ ((((¬ (v16 = 0) ∨ ¬ (v18 = 0)) ∨ ¬ (v15 = true)) ∨ v17 < (v4 v13 3))) ∧ 0 < v14)) ∨ (-9223372036854775808 ≤ (v14 - 1) ∧ (v14 - 1) ≤ 9223372036854775807)) ∧ ((¬ ((¬ ((((¬ (v16 = 0) ∨ ¬ (v18 = 0)) ∨ ¬ (v15 = true)) ∨ v17 < (v4 v13 3))) ∧ 0 < v14)) ∨ (-9223372036854775808 ≤ (v14 - 1) ∧ (v14 - 1) ≤ 9223372036854775807)) →
                (¬ ((¬ ((((¬ (v16 = 0) ∨ ¬ (v18 = 0)) ∨ ¬ (v15 = true)) ∨ v17 < (v4 v13 3))) ∧ 0 < v14)) ∨ 0 ≤ (v14 - 1)) ∧ ((¬ ((¬ ((((¬ (v16 = 0) ∨ ¬ (v18 = 0)) ∨ ¬ (v15 = true)) ∨ v17 < (v4 v13 3))) ∧ 0 < v14)) ∨ 0 ≤ (v14 - 1)) →
                (¬ ((¬ ((((¬ (v16 = 0) ∨ ¬ (v18 = 0)) ∨ ¬ (v15 = true)) ∨ v17 < (v4 v13 3))) ∧ 0 < v14)) ∨ (v14 - 1) < (v10l v13)) ∧ ((¬ ((¬ ((((¬ (v16 = 0) ∨ ¬ (v18 = 0)) ∨ ¬ (v15 = true)) ∨ v17 < (v4 v13 3))) ∧ 0 < v14)) ∨ (v14 - 1) < (v10l v13)) →
                (¬ ((¬ ((((¬ (v16 = 0) ∨ ¬ (v18 = 0)) ∨ ¬ (v15 = true)) ∨ v17 < (v4 v13 3))) ∧ 0 < v14)) ∨ 0 ≤ (v14 - 1)) ∧ ((¬ ((¬ ((((¬ (v16 = 0) ∨ ¬ (v18 = 0)) ∨ ¬ (v15 = true)) ∨ v17 < (v4 v13 3))) ∧ 0 < v14)) ∨ 0 ≤ (v14 - 1)) →
                (¬ ((¬ ((((¬ (v16 = 0) ∨ ¬ (v18 = 0)) ∨ ¬ (v15 = true)) ∨ v17 < (v4 v13 3))) ∧ 0 < v14)) ∨ (v14 - 1) < (v10l v13)) ∧ ((¬ ((¬ ((((¬ (v16 = 0) ∨ ¬ (v18 = 0)) ∨ ¬ (v15 = true)) ∨ v17 < (v4 v13 3))) ∧ 0 < v14)) ∨ (v14 - 1) < (v10l v13)) →
                (((((¬ (v16 = 0) ∨ ¬ (v18 = 0)) ∨ ¬ (v15 = true)) ∨ v17 < (v4 v13 3)) ∨ (0 < v14 ∧ ((rowA v10f v13) v14 0) ≤ ((rowA v10f v13) (v14 - 1) 0))) →
                  (False ↔ true = true) ∧ True) ∧
                (¬ (((((¬ (v16 = 0) ∨ ¬ (v18 = 0)) ∨ ¬ (v15 = true)) ∨ v17 < (v4 v13 3)) ∨ (0 < v14 ∧ ((rowA v10f v13) v14 0) ≤ ((rowA v10f v13) (v14 - 1) 0)))) →
                  ∃ (I2 : (Int) → Prop) (μ2 : (Int) → Nat), I2 (0 : Int) ∧ (∀ (v19 : Int), I2 v19 →
                    (v19 < v5 →
                      (v19 = v13 ∨ 0 ≤ v19) ∧ ((v19 = v13 ∨ 0 ≤ v19) →
                      (v19 = v13 ∨ 0 ≤ v19) ∧ ((v19 = v13 ∨ 0 ≤ v19) →
                      ((¬ (v19 = v13) → True)) ∧ (∀ (v20 : Bool), v20 = ovl (v4 v13 1) (v4 v13 2) (v4 v19 1) (v4 v19 2) → 
                      (¬ ((¬ (v19 = v13) ∧ v20 = true)) ∨ 0 ≤ v19) ∧ ((¬ ((¬ (v19 = v13) ∧ v20 = true)) ∨ 0 ≤ v19) →
                      (¬ ((¬ (v19 = v13) ∧ v20 = true)) ∨ 0 ≤ v19) ∧ ((¬ ((¬ (v19 = v13) ∧ v20 = true)) ∨ 0 ≤ v19) →
                      (¬ (((¬ (v19 = v13) ∧ v20 = true) ∧ ¬ ((v4 v19 0) = ((rowA v10f v13) v14 0)))) ∨ 0 ≤ v19) ∧ ((¬ (((¬ (v19 = v13) ∧ v20 = true) ∧ ¬ ((v4 v19 0) = ((rowA v10f v13) v14 0)))) ∨ 0 ≤ v19) →
                      (¬ (((¬ (v19 = v13) ∧ v20 = true) ∧ ¬ ((v4 v19 0) = ((rowA v10f v13) v14 0)))) ∨ v19 < v11) ∧ ((¬ (((¬ (v19 = v13) ∧ v20 = true) ∧ ¬ ((v4 v19 0) = ((rowA v10f v13) v14 0)))) ∨ v19 < v11) →
                      (¬ (((¬ (v19 = v13) ∧ v20 = true) ∧ ¬ ((v4 v19 0) = ((rowA v10f v13) v14 0)))) ∨ 0 ≤ v19) ∧ ((¬ (((¬ (v19 = v13) ∧ v20 = true) ∧ ¬ ((v4 v19 0) = ((rowA v10f v13) v14 0)))) ∨ 0 ≤ v19) →
                      (¬ (((¬ (v19 = v13) ∧ v20 = true) ∧ ¬ ((v4 v19 0) = ((rowA v10f v13) v14 0)))) ∨ v19 < v11) ∧ ((¬ (((¬ (v19 = v13) ∧ v20 = true) ∧ ¬ ((v4 v19 0) = ((rowA v10f v13) v14 0)))) ∨ v19 < v11) →
                      (¬ (((¬ (v19 = v13) ∧ v20 = true) ∧ ¬ ((v4 v19 0) = ((rowA v10f v13) v14 0)))) ∨ 0 ≤ v19) ∧ ((¬ (((¬ (v19 = v13) ∧ v20 = true) ∧ ¬ ((v4 v19 0) = ((rowA v10f v13) v14 0)))) ∨ 0 ≤ v19) →
                      (¬ (((¬ (v19 = v13) ∧ v20 = true) ∧ ¬ ((v4 v19 0) = ((rowA v10f v13) v14 0)))) ∨ v19 < v11) ∧ ((¬ (((¬ (v19 = v13) ∧ v20 = true) ∧ ¬ ((v4 v19 0) = ((rowA v10f v13) v14 0)))) ∨ v19 < v11) →
                      ((((¬ (v19 = v13) ∧ v20 = true) ∧ ¬ ((v4 v19 0) = ((rowA v10f v13) v14 0))) → True)) ∧ (∀ (v21 : Bool), v21 = haB (rowA v10f v19) (v10l v19) ((rowA v10f v13) v14 0) → 
                      (((¬ (v19 = v13) ∧ v20 = true) ∧ ((v4 v19 0) = ((rowA v10f v13) v14 0) ∨ v21 = true)) →
                        (False ↔ true = true) ∧ True) ∧
                      (¬ (((¬ (v19 = v13) ∧ v20 = true) ∧ ((v4 v19 0) = ((rowA v10f v13) v14 0) ∨ v21 = true))) →
                        (-9223372036854775808 ≤ (v19 + 1) ∧ (v19 + 1) ≤ 9223372036854775807) ∧ ((-9223372036854775808 ≤ (v19 + 1) ∧ (v19 + 1) ≤ 9223372036854775807) →
                        I2 (v19 + 1) ∧ μ2 (v19 + 1) < μ2 v19))))))))))))))) ∧
                    (¬ (v19 < v5) →
                      (-9223372036854775808 ≤ (v14 + 1) ∧ (v14 + 1) ≤ 9223372036854775807) ∧ ((-9223372036854775808 ≤ (v14 + 1) ∧ (v14 + 1) ≤ 9223372036854775807) →
                      I1 (v14 + 1) ∧ μ1 (v14 + 1) < μ1 v14))))))))))))) ∧
              (¬ (v14 < (v10l v13)) →
                (-9223372036854775808 ≤ (v13 + 1) ∧ (v13 + 1) ≤ 9223372036854775807) ∧ ((-9223372036854775808 ≤ (v13 + 1) ∧ (v13 + 1) ≤ 9223372036854775807) →
                I0 (v13 + 1) ∧ μ0 (v13 + 1) < μ0 v13)))))))) ∧
          (¬ (v13 < v5) →
            (v8 = true ↔ true = true) ∧ True))))))))))))))))))
theorem vh5 (h : VC5) : VH5 := by
  unfold VH5
  rw [hidF_eq gr1, hidF_eq haB, hidF_eq hrV, hidF_eq lvE, hidF_eq lvV, hidF_eq mcE, hidF_eq ovl, hidF_eq reF, hidF_eq reL, hidF_eq reN]
  exact h
end Go.Proofs.Ytgdjdaoglkfjdaa
