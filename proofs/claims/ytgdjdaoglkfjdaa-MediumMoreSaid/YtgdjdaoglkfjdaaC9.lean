/- What the functions do, and what is left to show of each. -/
import Derived.Test.YtgdjdaoglkfjdaaC
import Derived.Test.YtgdjdaoglkfjdaaD5
set_option linter.unusedVariables false
namespace Go.Proofs.Ytgdjdaoglkfjdaa
open Go Go.RowKit Go.Proofs.Ytgdjdaoglkfjdaa.Vc
/-! hotspotlaw11.MediumMore -/
def sig6 : CSig := ⟨[⟨true, [.slc [.int .i64, .int .i64, .int .i64, .int .i64], .mat [.int .i64]]⟩, ⟨false, [.slc [.int .i64, .int .i64, .int .i64, .int .i64]]⟩, ⟨true, [.int .i64, .int .i64, .int .i64, .int .i64]⟩], [⟨false, [.bool]⟩]⟩
def pre6 : List AV → Prop
  | [.a v0, .i v1, .m v2l v2f, .i v3, .a v4, .i v5, .i v6, .i v7, .i v8, .i v9] => True
  | _ => False
noncomputable def raw6 : List AV → List AV
  | [.a v0, .i v1, .m v2l v2f, .i v3, .a v4, .i v5, .i v6, .i v7, .i v8, .i v9] => [.b (true)]
  | _ => []

def VH6 : Prop :=
  ∀ (v0 : Int → Nat → Int) (v1 : Int) (v2l : Int → Int) (v2f : Int → Int → Nat → Int) (v3 : Int) (v4 : Int → Nat → Int) (v5 : Int) (v6 : Int) (v7 : Int) (v8 : Int) (v9 : Int),
  (True) →
  (0 ≤ v1 →
  (0 ≤ v3 →
  (0 ≤ v5 →
  (True) ∧ (∀ (v10 : Bool), v10 = true → 
  (v1 ≤ 9223372036854775807 →
  (v3 ≤ 9223372036854775807 →
  (v5 ≤ 9223372036854775807 →
  (True) ∧ (∀ (v11 : Bool), v11 = (hidF gr1) v1 v2l v3 v5 → 
  (((v11 = true ∨ 79 < v5) ∨ ¬ (v10 = true)) →
    (v10 = true ↔ true = true) ∧ True) ∧
  (¬ (((v11 = true ∨ 79 < v5) ∨ ¬ (v10 = true))) →
    (True) ∧ (∀ (v12l : Int → Int) (v12f : Int → Int → Nat → Int) (v13 : Int) (v14 : Int), v12l = (hidF reL) v0 v1 v2f v3 v4 v5 zA (0 : Int) → v12f = (hidF reF) v0 v1 v2f v3 v4 v5 zA (0 : Int) → v13 = (hidF reN) v0 v1 v2l v2f v3 v4 v5 → v14 = (hidF mcE) v0 v1 v2l v2f v3 v4 v5 → 
    (0 ≤ v13 →
    ((1 + v5) * 32) ≤ 140737488355328 ∧ (((1 + v5) * 32) ≤ 140737488355328 →
    (1 + v5) ≤ 140737488355328 ∧ ((1 + v5) ≤ 140737488355328 →
    (True) ∧ (∀ (v15l : Int → Int) (v15f : Int → Int → Nat → Int) (v16 : Int) (v17 : Int), v15l = (hidF reL) v0 v1 v2f v3 (appA (setA (setA (setA (setA zA 0 0 v6) 0 1 v7) 0 2 v8) 0 3 v9) 1 v4) (1 + v5) zA (0 : Int) → v15f = (hidF reF) v0 v1 v2f v3 (appA (setA (setA (setA (setA zA 0 0 v6) 0 1 v7) 0 2 v8) 0 3 v9) 1 v4) (1 + v5) zA (0 : Int) → v16 = (hidF reN) v0 v1 v2l v2f v3 (appA (setA (setA (setA (setA zA 0 0 v6) 0 1 v7) 0 2 v8) 0 3 v9) 1 v4) (1 + v5) → v17 = (hidF mcE) v0 v1 v2l v2f v3 (appA (setA (setA (setA (setA zA 0 0 v6) 0 1 v7) 0 2 v8) 0 3 v9) 1 v4) (1 + v5) → 
    (0 ≤ v16 →
    (v13 ≤ 9223372036854775807 →
    (v16 ≤ 9223372036854775807 →
    ((1 + v5) ≤ 9223372036854775807 →
    (v5 * 32) ≤ 140737488355328 ∧ ((v5 * 32) ≤ 140737488355328 →
    v5 ≤ 140737488355328 ∧ (v5 ≤ 140737488355328 →
    ((v5 + 1) * 32) ≤ 140737488355328 ∧ (((v5 + 1) * 32) ≤ 140737488355328 →
    (v5 + 1) ≤ 140737488355328 ∧ ((v5 + 1) ≤ 140737488355328 →
    (True) ∧ (∀ (v18l : Int → Int) (v18f : Int → Int → Nat → Int) (v19 : Int) (v20 : Int), v18l = (hidF reL) v0 v1 v2f v3 (appA v4 v5 (setA (setA (setA (setA zA 0 0 v6) 0 1 v7) 0 2 v8) 0 3 v9)) (v5 + 1) zA (0 : Int) → v18f = (hidF reF) v0 v1 v2f v3 (appA v4 v5 (setA (setA (setA (setA zA 0 0 v6) 0 1 v7) 0 2 v8) 0 3 v9)) (v5 + 1) zA (0 : Int) → v19 = (hidF reN) v0 v1 v2l v2f v3 (appA v4 v5 (setA (setA (setA (setA zA 0 0 v6) 0 1 v7) 0 2 v8) 0 3 v9)) (v5 + 1) → v20 = (hidF mcE) v0 v1 v2l v2f v3 (appA v4 v5 (setA (setA (setA (setA zA 0 0 v6) 0 1 v7) 0 2 v8) 0 3 v9)) (v5 + 1) → 
    (0 ≤ v19 →
    (v19 ≤ 9223372036854775807 →
    ((v5 + 1) ≤ 9223372036854775807 →
    ((¬ (v17 = 0) ∨ ¬ (v20 = 0)) →
      (((v10 = true ∧ v17 = v20) ∧ (v14 = 0 ∨ v14 = v17)) ↔ true = true) ∧ True) ∧
    (¬ ((¬ (v17 = 0) ∨ ¬ (v20 = 0))) →
      ((¬ (v14 = 0) ∨ ¬ (v13 = v5)) ∨ (-9223372036854775808 ≤ (v5 + 1) ∧ (v5 + 1) ≤ 9223372036854775807)) ∧ (((¬ (v14 = 0) ∨ ¬ (v13 = v5)) ∨ (-9223372036854775808 ≤ (v5 + 1) ∧ (v5 + 1) ≤ 9223372036854775807)) →
      (((¬ (v14 = 0) ∨ ¬ (v13 = v5)) ∨ ¬ (v16 = (v5 + 1))) ∨ (-9223372036854775808 ≤ (v5 + 1) ∧ (v5 + 1) ≤ 9223372036854775807)) ∧ ((((¬ (v14 = 0) ∨ ¬ (v13 = v5)) ∨ ¬ (v16 = (v5 + 1))) ∨ (-9223372036854775808 ≤ (v5 + 1) ∧ (v5 + 1) ≤ 9223372036854775807)) →
      ((((¬ (v14 = 0) ∨ ¬ (v13 = v5)) ∨ ¬ (v16 = (v5 + 1))) ∨ ¬ (v19 = (v5 + 1))) →
        (False ↔ true = true) ∧ True) ∧
      (¬ ((((¬ (v14 = 0) ∨ ¬ (v13 = v5)) ∨ ¬ (v16 = (v5 + 1))) ∨ ¬ (v19 = (v5 + 1)))) →
        ∃ (I0 : (Int) → Prop) (μ0 : (Int) → Nat), I0 (0 : Int) ∧ (∀ (v21 : Int), I0 v21 →
          (v21 < v5 →
            (-9223372036854775808 ≤ (v21 + 1) ∧ (v21 + 1) ≤ 9223372036854775807) ∧ ((-9223372036854775808 ≤ (v21 + 1) ∧ (v21 + 1) ≤ 9223372036854775807) →
            0 ≤ (v21 + 1) ∧ (0 ≤ (v21 + 1) →
            (v21 + 1) < v16 ∧ ((v21 + 1) < v16 →
            0 ≤ v21 ∧ (0 ≤ v21 →
            v21 < v19 ∧ (v21 < v19 →
            (True) ∧ (∀ (v22 : Bool), v22 = (hidF saI) (rowA v15f (v21 + 1)) (v15l (v21 + 1)) (rowA v18f v21) (v18l v21) → 
            (0 ≤ (v15l (v21 + 1)) →
            ((v15l (v21 + 1)) ≤ 9223372036854775807 →
            (0 ≤ (v18l v21) →
            ((v18l v21) ≤ 9223372036854775807 →
            (¬ (v22 = true) →
              (False ↔ true = true) ∧ True) ∧
            (¬ (¬ (v22 = true)) →
              ∃ (I1 : (Int) → Prop) (μ1 : (Int) → Nat), I1 (0 : Int) ∧ (∀ (v23 : Int), I1 v23 →
                (v23 < (v18l v21) →
                  v21 < v13 ∧ (v21 < v13 →
                  0 ≤ v23 ∧ (0 ≤ v23 →
                  (True) ∧ (∀ (v24 : Bool), v24 = (hidF haB) (rowA v12f v21) (v12l v21) ((rowA v18f v21) v23 0) → 
                  (0 ≤ (v12l v21) →
                  ((v12l v21) ≤ 9223372036854775807 →
                  (¬ (v24 = true) →
                    (False ↔ true = true) ∧ True) ∧
                  (¬ (¬ (v24 = true)) →
                    (-9223372036854775808 ≤ (v23 + 1) ∧ (v23 + 1) ≤ 9223372036854775807) ∧ ((-9223372036854775808 ≤ (v23 + 1) ∧ (v23 + 1) ≤ 9223372036854775807) →
                    I1 (v23 + 1) ∧ μ1 (v23 + 1) < μ1 v23)))))))) ∧
                (¬ (v23 < (v18l v21)) →
                  I0 (v21 + 1) ∧ μ0 (v21 + 1) < μ0 v21)))))))))))))) ∧
          (¬ (v21 < v5) →
            (¬ (v10 = true) ∨ 0 < v16) ∧ ((¬ (v10 = true) ∨ 0 < v16) →
            (¬ (v10 = true) ∨ 0 < v16) ∧ ((¬ (v10 = true) ∨ 0 < v16) →
            (¬ (v10 = true) ∨ v5 < v19) ∧ ((¬ (v10 = true) ∨ v5 < v19) →
            (¬ (v10 = true) ∨ v5 < v19) ∧ ((¬ (v10 = true) ∨ v5 < v19) →
            (¬ (v10 = true) ∨ 0 < v16) ∧ ((¬ (v10 = true) ∨ 0 < v16) →
            (¬ (v10 = true) ∨ v5 < v19) ∧ ((¬ (v10 = true) ∨ v5 < v19) →
            ((v10 = true → True)) ∧ (∀ (v22 : Bool), v22 = (hidF saI) (rowA v15f 0) (v15l 0) (rowA v18f v5) (v18l v5) → 
            ((v10 = true ∧ v22 = true) ↔ true = true) ∧ True)))))))))))))))))))))))))))))))))))))))
def VC6 : Prop :=
  ∀ (v0 : Int → Nat → Int) (v1 : Int) (v2l : Int → Int) (v2f : Int → Int → Nat → Int) (v3 : Int) (v4 : Int → Nat → Int) (v5 : Int) (v6 : Int) (v7 : Int) (v8 : Int) (v9 : Int),
  (True) →
  (0 ≤ v1 →
  (0 ≤ v3 →
  (0 ≤ v5 →
  (True) ∧ (∀ (v10 : Bool), v10 = true → 
  (v1 ≤ 9223372036854775807 →
  (v3 ≤ 9223372036854775807 →
  (v5 ≤ 9223372036854775807 →
  (True) ∧ (∀ (v11 : Bool), v11 = gr1 v1 v2l v3 v5 → 
  (((v11 = true ∨ 79 < v5) ∨ ¬ (v10 = true)) →
    (v10 = true ↔ true = true) ∧ True) ∧
  (¬ (((v11 = true ∨ 79 < v5) ∨ ¬ (v10 = true))) →
    (True) ∧ (∀ (v12l : Int → Int) (v12f : Int → Int → Nat → Int) (v13 : Int) (v14 : Int), v12l = reL v0 v1 v2f v3 v4 v5 zA (0 : Int) → v12f = reF v0 v1 v2f v3 v4 v5 zA (0 : Int) → v13 = reN v0 v1 v2l v2f v3 v4 v5 → v14 = mcE v0 v1 v2l v2f v3 v4 v5 → 
    (0 ≤ v13 →
    ((1 + v5) * 32) ≤ 140737488355328 ∧ (((1 + v5) * 32) ≤ 140737488355328 →
    (1 + v5) ≤ 140737488355328 ∧ ((1 + v5) ≤ 140737488355328 →
    (True) ∧ (∀ (v15l : Int → Int) (v15f : Int → Int → Nat → Int) (v16 : Int) (v17 : Int), v15l = reL v0 v1 v2f v3 (appA (setA (setA (setA (setA zA 0 0 v6) 0 1 v7) 0 2 v8) 0 3 v9) 1 v4) (1 + v5) zA (0 : Int) → v15f = reF v0 v1 v2f v3 (appA (setA (setA (setA (setA zA 0 0 v6) 0 1 v7) 0 2 v8) 0 3 v9) 1 v4) (1 + v5) zA (0 : Int) → v16 = reN v0 v1 v2l v2f v3 (appA (setA (setA (setA (setA zA 0 0 v6) 0 1 v7) 0 2 v8) 0 3 v9) 1 v4) (1 + v5) → v17 = mcE v0 v1 v2l v2f v3 (appA (setA (setA (setA (setA zA 0 0 v6) 0 1 v7) 0 2 v8) 0 3 v9) 1 v4) (1 + v5) → 
    (0 ≤ v16 →
    (v13 ≤ 9223372036854775807 →
    (v16 ≤ 9223372036854775807 →
    ((1 + v5) ≤ 9223372036854775807 →
    (v5 * 32) ≤ 140737488355328 ∧ ((v5 * 32) ≤ 140737488355328 →
    v5 ≤ 140737488355328 ∧ (v5 ≤ 140737488355328 →
    ((v5 + 1) * 32) ≤ 140737488355328 ∧ (((v5 + 1) * 32) ≤ 140737488355328 →
    (v5 + 1) ≤ 140737488355328 ∧ ((v5 + 1) ≤ 140737488355328 →
    (True) ∧ (∀ (v18l : Int → Int) (v18f : Int → Int → Nat → Int) (v19 : Int) (v20 : Int), v18l = reL v0 v1 v2f v3 (appA v4 v5 (setA (setA (setA (setA zA 0 0 v6) 0 1 v7) 0 2 v8) 0 3 v9)) (v5 + 1) zA (0 : Int) → v18f = reF v0 v1 v2f v3 (appA v4 v5 (setA (setA (setA (setA zA 0 0 v6) 0 1 v7) 0 2 v8) 0 3 v9)) (v5 + 1) zA (0 : Int) → v19 = reN v0 v1 v2l v2f v3 (appA v4 v5 (setA (setA (setA (setA zA 0 0 v6) 0 1 v7) 0 2 v8) 0 3 v9)) (v5 + 1) → v20 = mcE v0 v1 v2l v2f v3 (appA v4 v5 (setA (setA (setA (setA zA 0 0 v6) 0 1 v7) 0 2 v8) 0 3 v9)) (v5 + 1) → 
    (0 ≤ v19 →
    (v19 ≤ 9223372036854775807 →
    ((v5 + 1) ≤ 9223372036854775807 →
    ((¬ (v17 = 0) ∨ ¬ (v20 = 0)) →
      (((v10 = true ∧ v17 = v20) ∧ (v14 = 0 ∨ v14 = v17)) ↔ true = true) ∧ True) ∧
    (¬ ((¬ (v17 = 0) ∨ ¬ (v20 = 0))) →
      ((¬ (v14 = 0) ∨ ¬ (v13 = v5)) ∨ (-9223372036854775808 ≤ (v5 + 1) ∧ (v5 + 1) ≤ 9223372036854775807)) ∧ (((¬ (v14 = 0) ∨ ¬ (v13 = v5)) ∨ (-9223372036854775808 ≤ (v5 + 1) ∧ (v5 + 1) ≤ 9223372036854775807)) →
      (((¬ (v14 = 0) ∨ ¬ (v13 = v5)) ∨ ¬ (v16 = (v5 + 1))) ∨ (-9223372036854775808 ≤ (v5 + 1) ∧ (v5 + 1) ≤ 9223372036854775807)) ∧ ((((¬ (v14 = 0) ∨ ¬ (v13 = v5)) ∨ ¬ (v16 = (v5 + 1))) ∨ (-9223372036854775808 ≤ (v5 + 1) ∧ (v5 + 1) ≤ 9223372036854775807)) →
      ((((¬ (v14 = 0) ∨ ¬ (v13 = v5)) ∨ ¬ (v16 = (v5 + 1))) ∨ ¬ (v19 = (v5 + 1))) →
        (False ↔ true = true) ∧ True) ∧
      (¬ ((((¬ (v14 = 0) ∨ ¬ (v13 = v5)) ∨ ¬ (v16 = (v5 + 1))) ∨ ¬ (v19 = (v5 + 1)))) →
        ∃ (I0 : (Int) → Prop) (μ0 : (Int) → Nat), I0 (0 : Int) ∧ (∀ (v21 : Int), I0 v21 →
          (v21 < v5 →
            (-9223372036854775808 ≤ (v21 + 1) ∧ (v21 + 1) ≤ 9223372036854775807) ∧ ((-9223372036854775808 ≤ (v21 + 1) ∧ (v21 + 1) ≤ 9223372036854775807) →
            0 ≤ (v21 + 1) ∧ (0 ≤ (v21 + 1) →
            (v21 + 1) < v16 ∧ ((v21 + 1) < v16 →
            0 ≤ v21 ∧ (0 ≤ v21 →
            v21 < v19 ∧ (v21 < v19 →
            (True) ∧ (∀ (v22 : Bool), v22 = saI (rowA v15f (v21 + 1)) (v15l (v21 + 1)) (rowA v18f v21) (v18l v21) → 
            (0 ≤ (v15l (v21 + 1)) →
            ((v15l (v21 + 1)) ≤ 9223372036854775807 →
            (0 ≤ (v18l v21) →
            ((v18l v21) ≤ 9223372036854775807 →
            (¬ (v22 = true) →
              (False ↔ true = true) ∧ True) ∧
            (¬ (¬ (v22 = true)) →
              ∃ (I1 : (Int) → Prop) (μ1 : (Int) → Nat), I1 (0 : Int) ∧ (∀ (v23 : Int), I1 v23 →
                (v23 < (v18l v21) →
                  v21 < v13 ∧ (v21 < v13 →
                  0 ≤ v23 ∧ (0 ≤ v23 →
                  (True) ∧ (∀ (v24 : Bool), v24 = haB (rowA v12f v21) (v12l v21) ((rowA v18f v21) v23 0) → 
                  (0 ≤ (v12l v21) →
                  ((v12l v21) ≤ 9223372036854775807 →
                  (¬ (v24 = true) →
                    (False ↔ true = true) ∧ True) ∧
                  (¬ (¬ (v24 = true)) →
                    (-9223372036854775808 ≤ (v23 + 1) ∧ (v23 + 1) ≤ 9223372036854775807) ∧ ((-9223372036854775808 ≤ (v23 + 1) ∧ (v23 + 1) ≤ 9223372036854775807) →
                    I1 (v23 + 1) ∧ μ1 (v23 + 1) < μ1 v23)))))))) ∧
                (¬ (v23 < (v18l v21)) →
                  I0 (v21 + 1) ∧ μ0 (v21 + 1) < μ0 v21)))))))))))))) ∧
          (¬ (v21 < v5) →
            (¬ (v10 = true) ∨ 0 < v16) ∧ ((¬ (v10 = true) ∨ 0 < v16) →
            (¬ (v10 = true) ∨ 0 < v16) ∧ ((¬ (v10 = true) ∨ 0 < v16) →
            (¬ (v10 = true) ∨ v5 < v19) ∧ ((¬ (v10 = true) ∨ v5 < v19) →
            (¬ (v10 = true) ∨ v5 < v19) ∧ ((¬ (v10 = true) ∨ v5 < v19) →
            (¬ (v10 = true) ∨ 0 < v16) ∧ ((¬ (v10 = true) ∨ 0 < v16) →
            (¬ (v10 = true) ∨ v5 < v19) ∧ ((¬ (v10 = true) ∨ v5 < v19) →
            ((v10 = true → True)) ∧ (∀ (v22 : Bool), v22 = saI (rowA v15f 0) (v15l 0) (rowA v18f v5) (v18l v5) → 
            ((v10 = true ∧ v22 = true) ↔ true = true) ∧ True)))))))))))))))))))))))))))))))))))))))
theorem vh6 (h : VC6) : VH6 := by
  unfold VH6
  rw [hidF_eq gr1, hidF_eq haB, hidF_eq mcE, hidF_eq reF, hidF_eq reL, hidF_eq reN, hidF_eq saI]
  exact h
end Go.Proofs.Ytgdjdaoglkfjdaa
