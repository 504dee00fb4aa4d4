/- What the functions do, and what is left to show of each. -/
import Derived.Test.YtgdjdaoglkfjdaaC
import Derived.Test.YtgdjdaoglkfjdaaD5
set_option linter.unusedVariables false
namespace Go.Proofs.Ytgdjdaoglkfjdaa
open Go Go.RowKit Go.Proofs.Ytgdjdaoglkfjdaa.Vc
/-! hotspotlaw11.MediumLone -/
def sig7 : CSig := ⟨[⟨true, [.slc [.int .i64, .int .i64, .int .i64, .int .i64], .mat [.int .i64]]⟩, ⟨false, [.slc [.int .i64, .int .i64, .int .i64, .int .i64]]⟩], [⟨false, [.bool]⟩]⟩
def pre7 : List AV → Prop
  | [.a v0, .i v1, .m v2l v2f, .i v3, .a v4, .i v5] => True
  | _ => False
noncomputable def raw7 : List AV → List AV
  | [.a v0, .i v1, .m v2l v2f, .i v3, .a v4, .i v5] => [.b (true)]
  | _ => []

def VH7 : Prop :=
  ∀ (v0 : Int → Nat → Int) (v1 : Int) (v2l : Int → Int) (v2f : Int → Int → Nat → Int) (v3 : Int) (v4 : Int → Nat → Int) (v5 : Int),
  (True) →
  (0 ≤ v1 →
  (0 ≤ v3 →
  (0 ≤ v5 →
  (True) ∧ (∀ (v6 : Bool), v6 = true → 
  (v1 ≤ 9223372036854775807 →
  (v3 ≤ 9223372036854775807 →
  (v5 ≤ 9223372036854775807 →
  (True) ∧ (∀ (v7 : Bool), v7 = (hidF gr1) v1 v2l v3 v5 → 
  ((v7 = true ∨ ¬ (v6 = true)) →
    (v6 = true ↔ true = true) ∧ True) ∧
  (¬ ((v7 = true ∨ ¬ (v6 = true))) →
    (True) ∧ (∀ (v8l : Int → Int) (v8f : Int → Int → Nat → Int) (v9 : Int) (v10 : Int), v8l = (hidF reL) v0 v1 v2f v3 v4 v5 zA (0 : Int) → v8f = (hidF reF) v0 v1 v2f v3 v4 v5 zA (0 : Int) → v9 = (hidF reN) v0 v1 v2l v2f v3 v4 v5 → v10 = (hidF mcE) v0 v1 v2l v2f v3 v4 v5 → 
    (0 ≤ v9 →
    (v9 ≤ 9223372036854775807 →
    ((¬ (v10 = 0) ∨ ¬ (v9 = v5)) →
      ((v6 = true ∧ ¬ (v10 = 0)) ↔ true = true) ∧ True) ∧
    (¬ ((¬ (v10 = 0) ∨ ¬ (v9 = v5))) →
      ∃ (I0 : (Int) → Prop) (μ0 : (Int) → Nat), I0 (0 : Int) ∧ (∀ (v11 : Int), I0 v11 →
        (v11 < v5 →
          ∃ (I1 : (Int) → (Bool) → Prop) (μ1 : (Int) → (Bool) → Nat), I1 (0 : Int) true ∧ (∀ (v12 : Int) (v13 : Bool), I1 v12 v13 →
            (v12 < v5 →
              (¬ ((v13 = true ∧ ¬ (v12 = v11))) ∨ 0 ≤ v11) ∧ ((¬ ((v13 = true ∧ ¬ (v12 = v11))) ∨ 0 ≤ v11) →
              (¬ ((v13 = true ∧ ¬ (v12 = v11))) ∨ 0 ≤ v11) ∧ ((¬ ((v13 = true ∧ ¬ (v12 = v11))) ∨ 0 ≤ v11) →
              (¬ ((v13 = true ∧ ¬ (v12 = v11))) ∨ 0 ≤ v12) ∧ ((¬ ((v13 = true ∧ ¬ (v12 = v11))) ∨ 0 ≤ v12) →
              (¬ ((v13 = true ∧ ¬ (v12 = v11))) ∨ 0 ≤ v12) ∧ ((¬ ((v13 = true ∧ ¬ (v12 = v11))) ∨ 0 ≤ v12) →
              (((v13 = true ∧ ¬ (v12 = v11)) → True)) ∧ (∀ (v14 : Bool), v14 = (hidF ovl) (v4 v11 1) (v4 v11 2) (v4 v12 1) (v4 v12 2) → 
              (-9223372036854775808 ≤ (v12 + 1) ∧ (v12 + 1) ≤ 9223372036854775807) ∧ ((-9223372036854775808 ≤ (v12 + 1) ∧ (v12 + 1) ≤ 9223372036854775807) →
              I1 (v12 + 1) (v13 && ((decide (v12 = v11)) || (!v14))) ∧ μ1 (v12 + 1) (v13 && ((decide (v12 = v11)) || (!v14))) < μ1 v12 v13))))))) ∧
            (¬ (v12 < v5) →
              (¬ (v13 = true) →
                (-9223372036854775808 ≤ (v11 + 1) ∧ (v11 + 1) ≤ 9223372036854775807) ∧ ((-9223372036854775808 ≤ (v11 + 1) ∧ (v11 + 1) ≤ 9223372036854775807) →
                I0 (v11 + 1) ∧ μ0 (v11 + 1) < μ0 v11)) ∧
              (¬ (¬ (v13 = true)) →
                (True) ∧ (∀ (v14 : Int → Nat → Int) (v15 : Int) (v16 : Int), v14 = (hidF nbF) v0 v1 v2f v3 (0 : Int) → v15 = (hidF nbN) v0 v1 v2l v2f v3 (0 : Int) → v16 = (hidF lvE) v0 v1 v2l v2f v3 (0 : Int) (0 : Int) → 
                (0 ≤ v15 →
                (v15 ≤ 9223372036854775807 →
                ((¬ (v16 = 0) ∨ v1 ≤ v15) →
                  (False ↔ true = true) ∧ True) ∧
                (¬ ((¬ (v16 = 0) ∨ v1 ≤ v15)) →
                  ∃ (I2 : (Int) → Prop) (μ2 : (Int) → Nat), I2 (0 : Int) ∧ (∀ (v17 : Int), I2 v17 →
                    (v17 < v1 →
                      0 ≤ v11 ∧ (0 ≤ v11 →
                      (True) ∧ (∀ (v18 : Bool) (v19 : Int), v18 = ((hidF hrV) v0 v1 v2l v2f v3 v17 (v4 v11 0)) → v19 = (hidF lvE) v0 v1 v2l v2f v3 v17 (v4 v11 0) → 
                      (True) ∧ (∀ (v20 : Int) (v21 : Int), v20 = (hidF lvV) v0 v1 v2l v2f v3 (v4 v11 0) v17 → v21 = (hidF lvE) v0 v1 v2l v2f v3 (v4 v11 0) v17 → 
                      ((¬ (v19 = 0) ∨ ¬ (v21 = 0)) ∨ v11 < v9) ∧ (((¬ (v19 = 0) ∨ ¬ (v21 = 0)) ∨ v11 < v9) →
                      ((¬ (v19 = 0) ∨ ¬ (v21 = 0)) ∨ v11 < v9) ∧ (((¬ (v19 = 0) ∨ ¬ (v21 = 0)) ∨ v11 < v9) →
                      ((¬ (v19 = 0) ∨ ¬ (v21 = 0)) ∨ v11 < v9) ∧ (((¬ (v19 = 0) ∨ ¬ (v21 = 0)) ∨ v11 < v9) →
                      ((¬ ((¬ (v19 = 0) ∨ ¬ (v21 = 0))) → True)) ∧ (∀ (v22 : Bool), v22 = (hidF haB) (rowA v8f v11) (v8l v11) v17 → 
                      (((¬ (v19 = 0) ∨ ¬ (v21 = 0)) ∨ ¬ (((v22 = true ∧ (v18 = true ∧ (v4 v11 3) ≤ v20)) ∨ (¬ (v22 = true) ∧ ¬ ((v18 = true ∧ (v4 v11 3) ≤ v20)))))) →
                        (False ↔ true = true) ∧ True) ∧
                      (¬ (((¬ (v19 = 0) ∨ ¬ (v21 = 0)) ∨ ¬ (((v22 = true ∧ (v18 = true ∧ (v4 v11 3) ≤ v20)) ∨ (¬ (v22 = true) ∧ ¬ ((v18 = true ∧ (v4 v11 3) ≤ v20))))))) →
                        (-9223372036854775808 ≤ (v17 + 1) ∧ (v17 + 1) ≤ 9223372036854775807) ∧ ((-9223372036854775808 ≤ (v17 + 1) ∧ (v17 + 1) ≤ 9223372036854775807) →
                        I2 (v17 + 1) ∧ μ2 (v17 + 1) < μ2 v17)))))))))) ∧
                    (¬ (v17 < v1) →
                      (-9223372036854775808 ≤ (v11 + 1) ∧ (v11 + 1) ≤ 9223372036854775807) ∧ ((-9223372036854775808 ≤ (v11 + 1) ∧ (v11 + 1) ≤ 9223372036854775807) →
                      I0 (v11 + 1) ∧ μ0 (v11 + 1) < μ0 v11))))))))))) ∧
        (¬ (v11 < v5) →
          (v6 = true ↔ true = true) ∧ True)))))))))))))))
def VC7 : Prop :=
  ∀ (v0 : Int → Nat → Int) (v1 : Int) (v2l : Int → Int) (v2f : Int → Int → Nat → Int) (v3 : Int) (v4 : Int → Nat → Int) (v5 : Int),
  (True) →
  (0 ≤ v1 →
  (0 ≤ v3 →
  (0 ≤ v5 →
  (True) ∧ (∀ (v6 : Bool), v6 = true → 
  (v1 ≤ 9223372036854775807 →
  (v3 ≤ 9223372036854775807 →
  (v5 ≤ 9223372036854775807 →
  (True) ∧ (∀ (v7 : Bool), v7 = gr1 v1 v2l v3 v5 → 
  ((v7 = true ∨ ¬ (v6 = true)) →
    (v6 = true ↔ true = true) ∧ True) ∧
  (¬ ((v7 = true ∨ ¬ (v6 = true))) →
    (True) ∧ (∀ (v8l : Int → Int) (v8f : Int → Int → Nat → Int) (v9 : Int) (v10 : Int), v8l = reL v0 v1 v2f v3 v4 v5 zA (0 : Int) → v8f = reF v0 v1 v2f v3 v4 v5 zA (0 : Int) → v9 = reN v0 v1 v2l v2f v3 v4 v5 → v10 = mcE v0 v1 v2l v2f v3 v4 v5 → 
    (0 ≤ v9 →
    (v9 ≤ 9223372036854775807 →
    ((¬ (v10 = 0) ∨ ¬ (v9 = v5)) →
      ((v6 = true ∧ ¬ (v10 = 0)) ↔ true = true) ∧ True) ∧
    (¬ ((¬ (v10 = 0) ∨ ¬ (v9 = v5))) →
      ∃ (I0 : (Int) → Prop) (μ0 : (Int) → Nat), I0 (0 : Int) ∧ (∀ (v11 : Int), I0 v11 →
        (v11 < v5 →
          ∃ (I1 : (Int) → (Bool) → Prop) (μ1 : (Int) → (Bool) → Nat), I1 (0 : Int) true ∧ (∀ (v12 : Int) (v13 : Bool), I1 v12 v13 →
            (v12 < v5 →
              (¬ ((v13 = true ∧ ¬ (v12 = v11))) ∨ 0 ≤ v11) ∧ ((¬ ((v13 = true ∧ ¬ (v12 = v11))) ∨ 0 ≤ v11) →
              (¬ ((v13 = true ∧ ¬ (v12 = v11))) ∨ 0 ≤ v11) ∧ ((¬ ((v13 = true ∧ ¬ (v12 = v11))) ∨ 0 ≤ v11) →
              (¬ ((v13 = true ∧ ¬ (v12 = v11))) ∨ 0 ≤ v12) ∧ ((¬ ((v13 = true ∧ ¬ (v12 = v11))) ∨ 0 ≤ v12) →
              (¬ ((v13 = true ∧ ¬ (v12 = v11))) ∨ 0 ≤ v12) ∧ ((¬ ((v13 = true ∧ ¬ (v12 = v11))) ∨ 0 ≤ v12) →
              (((v13 = true ∧ ¬ (v12 = v11)) → True)) ∧ (∀ (v14 : Bool), v14 = ovl (v4 v11 1) (v4 v11 2) (v4 v12 1) (v4 v12 2) → 
              (-9223372036854775808 ≤ (v12 + 1) ∧ (v12 + 1) ≤ 9223372036854775807) ∧ ((-9223372036854775808 ≤ (v12 + 1) ∧ (v12 + 1) ≤ 9223372036854775807) →
              I1 (v12 + 1) (v13 && ((decide (v12 = v11)) || (!v14))) ∧ μ1 (v12 + 1) (v13 && ((decide (v12 = v11)) || (!v14))) < μ1 v12 v13))))))) ∧
            (¬ (v12 < v5) →
              (¬ (v13 = true) →
                (-9223372036854775808 ≤ (v11 + 1) ∧ (v11 + 1) ≤ 9223372036854775807) ∧ ((-9223372036854775808 ≤ (v11 + 1) ∧ (v11 + 1) ≤ 9223372036854775807) →
                I0 (v11 + 1) ∧ μ0 (v11 + 1) < μ0 v11)) ∧
              (¬ (¬ (v13 = true)) →
                (True) ∧ (∀ (v14 : Int → Nat → Int) (v15 : Int) (v16 : Int), v14 = nbF v0 v1 v2f v3 (0 : Int) → v15 = nbN v0 v1 v2l v2f v3 (0 : Int) → v16 = lvE v0 v1 v2l v2f v3 (0 : Int) (0 : Int) → 
                (0 ≤ v15 →
                (v15 ≤ 9223372036854775807 →
                ((¬ (v16 = 0) ∨ v1 ≤ v15) →
                  (False ↔ true = true) ∧ True) ∧
                (¬ ((¬ (v16 = 0) ∨ v1 ≤ v15)) →
                  ∃ (I2 : (Int) → Prop) (μ2 : (Int) → Nat), I2 (0 : Int) ∧ (∀ (v17 : Int), I2 v17 →
                    (v17 < v1 →
                      0 ≤ v11 ∧ (0 ≤ v11 →
                      (True) ∧ (∀ (v18 : Bool) (v19 : Int), v18 = (hrV v0 v1 v2l v2f v3 v17 (v4 v11 0)) → v19 = lvE v0 v1 v2l v2f v3 v17 (v4 v11 0) → 
                      (True) ∧ (∀ (v20 : Int) (v21 : Int), v20 = lvV v0 v1 v2l v2f v3 (v4 v11 0) v17 → v21 = lvE v0 v1 v2l v2f v3 (v4 v11 0) v17 → 
                      ((¬ (v19 = 0) ∨ ¬ (v21 = 0)) ∨ v11 < v9) ∧ (((¬ (v19 = 0) ∨ ¬ (v21 = 0)) ∨ v11 < v9) →
                      ((¬ (v19 = 0) ∨ ¬ (v21 = 0)) ∨ v11 < v9) ∧ (((¬ (v19 = 0) ∨ ¬ (v21 = 0)) ∨ v11 < v9) →
                      ((¬ (v19 = 0) ∨ ¬ (v21 = 0)) ∨ v11 < v9) ∧ (((¬ (v19 = 0) ∨ ¬ (v21 = 0)) ∨ v11 < v9) →
                      ((¬ ((¬ (v19 = 0) ∨ ¬ (v21 = 0))) → True)) ∧ (∀ (v22 : Bool), v22 = haB (rowA v8f v11) (v8l v11) v17 → 
                      (((¬ (v19 = 0) ∨ ¬ (v21 = 0)) ∨ ¬ (((v22 = true ∧ (v18 = true ∧ (v4 v11 3) ≤ v20)) ∨ (¬ (v22 = true) ∧ ¬ ((v18 = true ∧ (v4 v11 3) ≤ v20)))))) →
                        (False ↔ true = true) ∧ True) ∧
                      (¬ (((¬ (v19 = 0) ∨ ¬ (v21 = 0)) ∨ ¬ (((v22 = true ∧ (v18 = true ∧ (v4 v11 3) ≤ v20)) ∨ (¬ (v22 = true) ∧ ¬ ((v18 = true ∧ (v4 v11 3) ≤ v20))))))) →
                        (-9223372036854775808 ≤ (v17 + 1) ∧ (v17 + 1) ≤ 9223372036854775807) ∧ ((-9223372036854775808 ≤ (v17 + 1) ∧ (v17 + 1) ≤ 9223372036854775807) →
                        I2 (v17 + 1) ∧ μ2 (v17 + 1) < μ2 v17)))))))))) ∧
                    (¬ (v17 < v1) →
                      (-9223372036854775808 ≤ (v11 + 1) ∧ (v11 + 1) ≤ 9223372036854775807) ∧ ((-9223372036854775808 ≤ (v11 + 1) ∧ (v11 + 1) ≤ 9223372036854775807) →
                      I0 (v11 + 1) ∧ μ0 (v11 + 1) < μ0 v11))))))))))) ∧
        (¬ (v11 < v5) →
          (v6 = true ↔ true = true) ∧ True)))))))))))))))
theorem vh7 (h : VC7) : VH7 := by
  unfold VH7
  rw [hidF_eq gr1, hidF_eq haB, hidF_eq hrV, hidF_eq lvE, hidF_eq lvV, hidF_eq mcE, hidF_eq nbF, hidF_eq nbN, hidF_eq ovl, hidF_eq reF, hidF_eq reL, hidF_eq reN]
  exact h
end Go.Proofs.Ytgdjdaoglkfjdaa
