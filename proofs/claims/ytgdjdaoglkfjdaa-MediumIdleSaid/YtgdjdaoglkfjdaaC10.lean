/- What the functions do, and what is left to show of each. -/
import Derived.Test.YtgdjdaoglkfjdaaC
import Derived.Test.YtgdjdaoglkfjdaaD5
set_option linter.unusedVariables false
namespace Go.Proofs.Ytgdjdaoglkfjdaa
open Go Go.RowKit Go.Proofs.Ytgdjdaoglkfjdaa.Vc
/-! hotspotlaw11.MediumIdle -/
def sig8 : CSig := ⟨[⟨true, [.slc [.int .i64, .int .i64, .int .i64, .int .i64], .mat [.int .i64]]⟩, ⟨false, [.slc [.int .i64, .int .i64, .int .i64, .int .i64]]⟩, ⟨false, [.int .i64]⟩, ⟨false, [.int .i64]⟩, ⟨false, [.int .i64]⟩], [⟨false, [.bool]⟩]⟩
def pre8 : List AV → Prop
  | [.a v0, .i v1, .m v2l v2f, .i v3, .a v4, .i v5, .i v6, .i v7, .i v8] => True
  | _ => False
noncomputable def raw8 : List AV → List AV
  | [.a v0, .i v1, .m v2l v2f, .i v3, .a v4, .i v5, .i v6, .i v7, .i v8] => [.b (true)]
  | _ => []

def VH8 : Prop :=
  ∀ (v0 : Int → Nat → Int) (v1 : Int) (v2l : Int → Int) (v2f : Int → Int → Nat → Int) (v3 : Int) (v4 : Int → Nat → Int) (v5 : Int) (v6 : Int) (v7 : Int) (v8 : Int),
  (True) →
  (0 ≤ v1 →
  (0 ≤ v3 →
  (0 ≤ v5 →
  (True) ∧ (∀ (v9 : Bool), v9 = true → 
  (v1 ≤ 9223372036854775807 →
  (v3 ≤ 9223372036854775807 →
  (v5 ≤ 9223372036854775807 →
  (True) ∧ (∀ (v10 : Bool), v10 = (hidF gr1) v1 v2l v3 v5 → 
  (((v10 = true ∨ 60 < v8) ∨ ¬ (v9 = true)) →
    (v9 = true ↔ true = true) ∧ True) ∧
  (¬ (((v10 = true ∨ 60 < v8) ∨ ¬ (v9 = true))) →
    (True) ∧ (∀ (v11 : Int) (v12 : Int), v11 = (hidF idV) v0 v1 v2l v2f v3 v4 v5 v6 v7 v8 → v12 = (hidF maE) v0 v1 v2l v2f v3 v4 v5 v6 v7 v8 → 
    (¬ (v12 = 0) →
      ((v9 = true ∧ v11 = 0) ↔ true = true) ∧ True) ∧
    (¬ (¬ (v12 = 0)) →
      (v8 < 0 →
        (False ↔ true = true) ∧ True) ∧
      (¬ (v8 < 0) →
        (-9223372036854775808 ≤ (v11 - v8) ∧ (v11 - v8) ≤ 9223372036854775807) ∧ ((-9223372036854775808 ≤ (v11 - v8) ∧ (v11 - v8) ≤ 9223372036854775807) →
        ∃ (I0 : (Int) → Prop) (μ0 : (Int) → Nat), I0 (max (v11 - v8) 0) ∧ (∀ (v13 : Int), I0 v13 →
          ((v13 < v11 ∧ v13 ≤ 1099511627776) →
            (True) ∧ (∀ (v14 : Bool) (v15 : Int), v14 = (hidF buV) v0 v1 v2l v2f v3 v4 v5 v6 v13 → v15 = (hidF maE) v0 v1 v2l v2f v3 v4 v5 v6 v13 0 → 
            ((¬ (v15 = 0) ∨ v14 = true) →
              (False ↔ true = true) ∧ True) ∧
            (¬ ((¬ (v15 = 0) ∨ v14 = true)) →
              (-9223372036854775808 ≤ (v13 + 1) ∧ (v13 + 1) ≤ 9223372036854775807) ∧ ((-9223372036854775808 ≤ (v13 + 1) ∧ (v13 + 1) ≤ 9223372036854775807) →
              I0 (v13 + 1) ∧ μ0 (v13 + 1) < μ0 v13)))) ∧
          (¬ ((v13 < v11 ∧ v13 ≤ 1099511627776)) →
            ∃ (I1 : (Bool) → (Int) → Prop) (μ1 : (Bool) → (Int) → Nat), I1 (decide (v11 = v7)) (0 : Int) ∧ (∀ (v14 : Bool) (v15 : Int), I1 v14 v15 →
              (v15 < v5 →
                0 ≤ v15 ∧ (0 ≤ v15 →
                (True) ∧ (∀ (v16 : Bool) (v17 : Int), v16 = ((hidF hrV) v0 v1 v2l v2f v3 v6 (v4 v15 0)) → v17 = (hidF lvE) v0 v1 v2l v2f v3 v6 (v4 v15 0) → 
                (¬ ((¬ (v14 = true) ∧ (v17 = 0 ∧ (v16 = true ∨ (v4 v15 0) = v6)))) ∨ (-9223372036854775808 ≤ ((v4 v15 2) + v8) ∧ ((v4 v15 2) + v8) ≤ 9223372036854775807)) ∧ ((¬ ((¬ (v14 = true) ∧ (v17 = 0 ∧ (v16 = true ∨ (v4 v15 0) = v6)))) ∨ (-9223372036854775808 ≤ ((v4 v15 2) + v8) ∧ ((v4 v15 2) + v8) ≤ 9223372036854775807)) →
                (-9223372036854775808 ≤ (v15 + 1) ∧ (v15 + 1) ≤ 9223372036854775807) ∧ ((-9223372036854775808 ≤ (v15 + 1) ∧ (v15 + 1) ≤ 9223372036854775807) →
                I1 (v14 || (((decide (v17 = 0)) && (v16 || (decide ((v4 v15 0) = v6)))) && (decide (v11 = ((v4 v15 2) + v8))))) (v15 + 1) ∧ μ1 (v14 || (((decide (v17 = 0)) && (v16 || (decide ((v4 v15 0) = v6)))) && (decide (v11 = ((v4 v15 2) + v8))))) (v15 + 1) < μ1 v14 v15))))) ∧
              (¬ (v15 < v5) →
                (((v9 = true ∧ v7 ≤ v11) ∧ v14 = true) ↔ true = true) ∧ True)))))))))))))))))
def VC8 : Prop :=
  ∀ (v0 : Int → Nat → Int) (v1 : Int) (v2l : Int → Int) (v2f : Int → Int → Nat → Int) (v3 : Int) (v4 : Int → Nat → Int) (v5 : Int) (v6 : Int) (v7 : Int) (v8 : Int),
  (True) →
  (0 ≤ v1 →
  (0 ≤ v3 →
  (0 ≤ v5 →
  (True) ∧ (∀ (v9 : Bool), v9 = true → 
  (v1 ≤ 9223372036854775807 →
  (v3 ≤ 9223372036854775807 →
  (v5 ≤ 9223372036854775807 →
  (True) ∧ (∀ (v10 : Bool), v10 = gr1 v1 v2l v3 v5 → 
  (((v10 = true ∨ 60 < v8) ∨ ¬ (v9 = true)) →
    (v9 = true ↔ true = true) ∧ True) ∧
  (¬ (((v10 = true ∨ 60 < v8) ∨ ¬ (v9 = true))) →
    (True) ∧ (∀ (v11 : Int) (v12 : Int), v11 = idV v0 v1 v2l v2f v3 v4 v5 v6 v7 v8 → v12 = maE v0 v1 v2l v2f v3 v4 v5 v6 v7 v8 → 
    (¬ (v12 = 0) →
      ((v9 = true ∧ v11 = 0) ↔ true = true) ∧ True) ∧
    (¬ (¬ (v12 = 0)) →
      (v8 < 0 →
        (False ↔ true = true) ∧ True) ∧
      (¬ (v8 < 0) →
        (-9223372036854775808 ≤ (v11 - v8) ∧ (v11 - v8) ≤ 9223372036854775807) ∧ ((-9223372036854775808 ≤ (v11 - v8) ∧ (v11 - v8) ≤ 9223372036854775807) →
        ∃ (I0 : (Int) → Prop) (μ0 : (Int) → Nat), I0 (max (v11 - v8) 0) ∧ (∀ (v13 : Int), I0 v13 →
          ((v13 < v11 ∧ v13 ≤ 1099511627776) →
            (True) ∧ (∀ (v14 : Bool) (v15 : Int), v14 = buV v0 v1 v2l v2f v3 v4 v5 v6 v13 → v15 = maE v0 v1 v2l v2f v3 v4 v5 v6 v13 0 → 
            ((¬ (v15 = 0) ∨ v14 = true) →
              (False ↔ true = true) ∧ True) ∧
            (¬ ((¬ (v15 = 0) ∨ v14 = true)) →
              (-9223372036854775808 ≤ (v13 + 1) ∧ (v13 + 1) ≤ 9223372036854775807) ∧ ((-9223372036854775808 ≤ (v13 + 1) ∧ (v13 + 1) ≤ 9223372036854775807) →
              I0 (v13 + 1) ∧ μ0 (v13 + 1) < μ0 v13)))) ∧
          (¬ ((v13 < v11 ∧ v13 ≤ 1099511627776)) →
            ∃ (I1 : (Bool) → (Int) → Prop) (μ1 : (Bool) → (Int) → Nat), I1 (decide (v11 = v7)) (0 : Int) ∧ (∀ (v14 : Bool) (v15 : Int), I1 v14 v15 →
              (v15 < v5 →
                0 ≤ v15 ∧ (0 ≤ v15 →
                (True) ∧ (∀ (v16 : Bool) (v17 : Int), v16 = (hrV v0 v1 v2l v2f v3 v6 (v4 v15 0)) → v17 = lvE v0 v1 v2l v2f v3 v6 (v4 v15 0) → 
                (¬ ((¬ (v14 = true) ∧ (v17 = 0 ∧ (v16 = true ∨ (v4 v15 0) = v6)))) ∨ (-9223372036854775808 ≤ ((v4 v15 2) + v8) ∧ ((v4 v15 2) + v8) ≤ 9223372036854775807)) ∧ ((¬ ((¬ (v14 = true) ∧ (v17 = 0 ∧ (v16 = true ∨ (v4 v15 0) = v6)))) ∨ (-9223372036854775808 ≤ ((v4 v15 2) + v8) ∧ ((v4 v15 2) + v8) ≤ 9223372036854775807)) →
                (-9223372036854775808 ≤ (v15 + 1) ∧ (v15 + 1) ≤ 9223372036854775807) ∧ ((-9223372036854775808 ≤ (v15 + 1) ∧ (v15 + 1) ≤ 9223372036854775807) →
                I1 (v14 || (((decide (v17 = 0)) && (v16 || (decide ((v4 v15 0) = v6)))) && (decide (v11 = ((v4 v15 2) + v8))))) (v15 + 1) ∧ μ1 (v14 || (((decide (v17 = 0)) && (v16 || (decide ((v4 v15 0) = v6)))) && (decide (v11 = ((v4 v15 2) + v8))))) (v15 + 1) < μ1 v14 v15))))) ∧
              (¬ (v15 < v5) →
                (((v9 = true ∧ v7 ≤ v11) ∧ v14 = true) ↔ true = true) ∧ True)))))))))))))))))
theorem vh8 (h : VC8) : VH8 := by
  unfold VH8
  rw [hidF_eq buV, hidF_eq gr1, hidF_eq hrV, hidF_eq idV, hidF_eq lvE, hidF_eq maE]
  exact h
end Go.Proofs.Ytgdjdaoglkfjdaa
