/- What the functions do, and what is left to show of each. -/
import Derived.Test.YtgdjdaoglkfjdaaC
set_option linter.unusedVariables false
namespace Go.Proofs.Ytgdjdaoglkfjdaa
open Go Go.RowKit Go.Proofs.Ytgdjdaoglkfjdaa.Vc
/-! hotspotlaw11.MediumSenses -/
def sig3 : CSig := ⟨[⟨true, [.slc [.int .i64, .int .i64, .int .i64, .int .i64], .mat [.int .i64]]⟩, ⟨false, [.slc [.int .i64, .int .i64, .int .i64, .int .i64]]⟩, ⟨false, [.int .i64]⟩, ⟨false, [.int .i64]⟩, ⟨false, [.int .i64]⟩], [⟨false, [.bool]⟩]⟩
def pre3 : List AV → Prop
  | [.a v0, .i v1, .m v2l v2f, .i v3, .a v4, .i v5, .i v6, .i v7, .i v8] => True
  | _ => False
noncomputable def raw3 : List AV → List AV
  | [.a v0, .i v1, .m v2l v2f, .i v3, .a v4, .i v5, .i v6, .i v7, .i v8] => [.b (true)]
  | _ => []

def VH3 : Prop :=
  ∀ (v0 : Int → Nat → Int) (v1 : Int) (v2l : Int → Int) (v2f : Int → Int → Nat → Int) (v3 : Int) (v4 : Int → Nat → Int) (v5 : Int) (v6 : Int) (v7 : Int) (v8 : Int),
  (True) →
  (0 ≤ v1 →
  (0 ≤ v3 →
  (0 ≤ v5 →
  (True) ∧ (∀ (v9 : Bool), v9 = (hidF gr1) v1 v2l v3 v5 → 
  (v1 ≤ 9223372036854775807 →
  (v3 ≤ 9223372036854775807 →
  (v5 ≤ 9223372036854775807 →
  (v9 = true →
    (True ↔ true = true) ∧ True) ∧
  (¬ (v9 = true) →
    (True) ∧ (∀ (v10 : Bool) (v11 : Int), v10 = (hidF buV) v0 v1 v2l v2f v3 v4 v5 v6 v7 → v11 = (hidF maE) v0 v1 v2l v2f v3 v4 v5 v6 v7 0 → 
    (True) ∧ (∀ (v12 : Bool) (v13 : Int), v12 = (hidF buV) v0 v1 v2l v2f v3 v4 v5 v6 v7 → v13 = (hidF maE) v0 v1 v2l v2f v3 v4 v5 v6 v7 0 → 
    (True) ∧ (∀ (v14 : Int) (v15 : Int), v14 = (hidF idV) v0 v1 v2l v2f v3 v4 v5 v6 v7 v8 → v15 = (hidF maE) v0 v1 v2l v2f v3 v4 v5 v6 v7 v8 → 
    (True) ∧ (∀ (v16 : Int) (v17 : Int), v16 = (hidF idV) v0 v1 v2l v2f v3 v4 v5 v6 v7 v8 → v17 = (hidF maE) v0 v1 v2l v2f v3 v4 v5 v6 v7 v8 → 
    (((((((v10 = true ∧ v12 = true) ∨ (¬ (v10 = true) ∧ ¬ (v12 = true))) ∧ v11 = v13) ∧ v14 = v16) ∧ v15 = v17) → v5 ≤ 80)) ∧ (∀ (v18 : Int → Nat → Int) (v19 : Int), v18 = (hidF drA) v4 v5 v7 → v19 = (hidF drN) v4 v5 v7 → 
    (((((((v10 = true ∧ v12 = true) ∨ (¬ (v10 = true) ∧ ¬ (v12 = true))) ∧ v11 = v13) ∧ v14 = v16) ∧ v15 = v17) → v5 ≤ 80)) ∧ (∀ (v20 : Int → Nat → Int) (v21 : Int), v20 = (hidF drA) v4 v5 v7 → v21 = (hidF drN) v4 v5 v7 → 
    (((((((v10 = true ∧ v12 = true) ∨ (¬ (v10 = true) ∧ ¬ (v12 = true))) ∧ v11 = v13) ∧ v14 = v16) ∧ v15 = v17) → True)) ∧ (∀ (v22 : Bool), v22 = (hidF smL) v18 v19 v20 v21 → 
    ∃ (I0 : (Bool) → (Int) → Prop) (μ0 : (Bool) → (Int) → Nat), I0 ((((((v10 && v12) || ((!v10) && (!v12))) && (decide (v11 = v13))) && (decide (v14 = v16))) && (decide (v15 = v17))) && v22) (1 : Int) ∧ (∀ (v23 : Bool) (v24 : Int), I0 v23 v24 →
      (v24 < v5 →
        (¬ (v23 = true) ∨ (-9223372036854775808 ≤ (v24 - 1) ∧ (v24 - 1) ≤ 9223372036854775807)) ∧ ((¬ (v23 = true) ∨ (-9223372036854775808 ≤ (v24 - 1) ∧ (v24 - 1) ≤ 9223372036854775807)) →
        (¬ (v23 = true) ∨ 0 ≤ (v24 - 1)) ∧ ((¬ (v23 = true) ∨ 0 ≤ (v24 - 1)) →
        (¬ (v23 = true) ∨ (v24 - 1) < v5) ∧ ((¬ (v23 = true) ∨ (v24 - 1) < v5) →
        (¬ (v23 = true) ∨ 0 ≤ (v24 - 1)) ∧ ((¬ (v23 = true) ∨ 0 ≤ (v24 - 1)) →
        (¬ (v23 = true) ∨ (v24 - 1) < v5) ∧ ((¬ (v23 = true) ∨ (v24 - 1) < v5) →
        (¬ (v23 = true) ∨ 0 ≤ v24) ∧ ((¬ (v23 = true) ∨ 0 ≤ v24) →
        (¬ (v23 = true) ∨ 0 ≤ v24) ∧ ((¬ (v23 = true) ∨ 0 ≤ v24) →
        ((v23 = true → True)) ∧ (∀ (v25 : Bool), v25 = (hidF ovl) (v4 (v24 - 1) 1) (v4 (v24 - 1) 2) (v4 v24 1) (v4 v24 2) → 
        (¬ (v23 = true) ∨ (-9223372036854775808 ≤ (v24 - 1) ∧ (v24 - 1) ≤ 9223372036854775807)) ∧ ((¬ (v23 = true) ∨ (-9223372036854775808 ≤ (v24 - 1) ∧ (v24 - 1) ≤ 9223372036854775807)) →
        (¬ (v23 = true) ∨ 0 ≤ (v24 - 1)) ∧ ((¬ (v23 = true) ∨ 0 ≤ (v24 - 1)) →
        (¬ (v23 = true) ∨ (v24 - 1) < v5) ∧ ((¬ (v23 = true) ∨ (v24 - 1) < v5) →
        (¬ (v23 = true) ∨ 0 ≤ (v24 - 1)) ∧ ((¬ (v23 = true) ∨ 0 ≤ (v24 - 1)) →
        (¬ (v23 = true) ∨ (v24 - 1) < v5) ∧ ((¬ (v23 = true) ∨ (v24 - 1) < v5) →
        (¬ (v23 = true) ∨ 0 ≤ v24) ∧ ((¬ (v23 = true) ∨ 0 ≤ v24) →
        (¬ (v23 = true) ∨ 0 ≤ v24) ∧ ((¬ (v23 = true) ∨ 0 ≤ v24) →
        ((v23 = true → True)) ∧ (∀ (v26 : Bool), v26 = (hidF ovl) (v4 (v24 - 1) 1) (v4 (v24 - 1) 2) (v4 v24 1) (v4 v24 2) → 
        (-9223372036854775808 ≤ (v24 + 1) ∧ (v24 + 1) ≤ 9223372036854775807) ∧ ((-9223372036854775808 ≤ (v24 + 1) ∧ (v24 + 1) ≤ 9223372036854775807) →
        I0 (v23 && ((v25 && v26) || ((!v25) && (!v26)))) (v24 + 1) ∧ μ0 (v23 && ((v25 && v26) || ((!v25) && (!v26)))) (v24 + 1) < μ0 v23 v24)))))))))))))))))) ∧
      (¬ (v24 < v5) →
        (v23 = true ↔ true = true) ∧ True)))))))))))))))))
def VC3 : Prop :=
  ∀ (v0 : Int → Nat → Int) (v1 : Int) (v2l : Int → Int) (v2f : Int → Int → Nat → Int) (v3 : Int) (v4 : Int → Nat → Int) (v5 : Int) (v6 : Int) (v7 : Int) (v8 : Int),
  (True) →
  (0 ≤ v1 →
  (0 ≤ v3 →
  (0 ≤ v5 →
  (True) ∧ (∀ (v9 : Bool), v9 = gr1 v1 v2l v3 v5 → 
  (v1 ≤ 9223372036854775807 →
  (v3 ≤ 9223372036854775807 →
  (v5 ≤ 9223372036854775807 →
  (v9 = true →
    (True ↔ true = true) ∧ True) ∧
  (¬ (v9 = true) →
    (True) ∧ (∀ (v10 : Bool) (v11 : Int), v10 = buV v0 v1 v2l v2f v3 v4 v5 v6 v7 → v11 = maE v0 v1 v2l v2f v3 v4 v5 v6 v7 0 → 
    (True) ∧ (∀ (v12 : Bool) (v13 : Int), v12 = buV v0 v1 v2l v2f v3 v4 v5 v6 v7 → v13 = maE v0 v1 v2l v2f v3 v4 v5 v6 v7 0 → 
    (True) ∧ (∀ (v14 : Int) (v15 : Int), v14 = idV v0 v1 v2l v2f v3 v4 v5 v6 v7 v8 → v15 = maE v0 v1 v2l v2f v3 v4 v5 v6 v7 v8 → 
    (True) ∧ (∀ (v16 : Int) (v17 : Int), v16 = idV v0 v1 v2l v2f v3 v4 v5 v6 v7 v8 → v17 = maE v0 v1 v2l v2f v3 v4 v5 v6 v7 v8 → 
    (((((((v10 = true ∧ v12 = true) ∨ (¬ (v10 = true) ∧ ¬ (v12 = true))) ∧ v11 = v13) ∧ v14 = v16) ∧ v15 = v17) → v5 ≤ 80)) ∧ (∀ (v18 : Int → Nat → Int) (v19 : Int), v18 = drA v4 v5 v7 → v19 = drN v4 v5 v7 → 
    (((((((v10 = true ∧ v12 = true) ∨ (¬ (v10 = true) ∧ ¬ (v12 = true))) ∧ v11 = v13) ∧ v14 = v16) ∧ v15 = v17) → v5 ≤ 80)) ∧ (∀ (v20 : Int → Nat → Int) (v21 : Int), v20 = drA v4 v5 v7 → v21 = drN v4 v5 v7 → 
    (((((((v10 = true ∧ v12 = true) ∨ (¬ (v10 = true) ∧ ¬ (v12 = true))) ∧ v11 = v13) ∧ v14 = v16) ∧ v15 = v17) → True)) ∧ (∀ (v22 : Bool), v22 = smL v18 v19 v20 v21 → 
    ∃ (I0 : (Bool) → (Int) → Prop) (μ0 : (Bool) → (Int) → Nat), I0 ((((((v10 && v12) || ((!v10) && (!v12))) && (decide (v11 = v13))) && (decide (v14 = v16))) && (decide (v15 = v17))) && v22) (1 : Int) ∧ (∀ (v23 : Bool) (v24 : Int), I0 v23 v24 →
      (v24 < v5 →
        (¬ (v23 = true) ∨ (-9223372036854775808 ≤ (v24 - 1) ∧ (v24 - 1) ≤ 9223372036854775807)) ∧ ((¬ (v23 = true) ∨ (-9223372036854775808 ≤ (v24 - 1) ∧ (v24 - 1) ≤ 9223372036854775807)) →
        (¬ (v23 = true) ∨ 0 ≤ (v24 - 1)) ∧ ((¬ (v23 = true) ∨ 0 ≤ (v24 - 1)) →
        (¬ (v23 = true) ∨ (v24 - 1) < v5) ∧ ((¬ (v23 = true) ∨ (v24 - 1) < v5) →
        (¬ (v23 = true) ∨ 0 ≤ (v24 - 1)) ∧ ((¬ (v23 = true) ∨ 0 ≤ (v24 - 1)) →
        (¬ (v23 = true) ∨ (v24 - 1) < v5) ∧ ((¬ (v23 = true) ∨ (v24 - 1) < v5) →
        (¬ (v23 = true) ∨ 0 ≤ v24) ∧ ((¬ (v23 = true) ∨ 0 ≤ v24) →
        (¬ (v23 = true) ∨ 0 ≤ v24) ∧ ((¬ (v23 = true) ∨ 0 ≤ v24) →
        ((v23 = true → True)) ∧ (∀ (v25 : Bool), v25 = ovl (v4 (v24 - 1) 1) (v4 (v24 - 1) 2) (v4 v24 1) (v4 v24 2) → 
        (¬ (v23 = true) ∨ (-9223372036854775808 ≤ (v24 - 1) ∧ (v24 - 1) ≤ 9223372036854775807)) ∧ ((¬ (v23 = true) ∨ (-9223372036854775808 ≤ (v24 - 1) ∧ (v24 - 1) ≤ 9223372036854775807)) →
        (¬ (v23 = true) ∨ 0 ≤ (v24 - 1)) ∧ ((¬ (v23 = true) ∨ 0 ≤ (v24 - 1)) →
        (¬ (v23 = true) ∨ (v24 - 1) < v5) ∧ ((¬ (v23 = true) ∨ (v24 - 1) < v5) →
        (¬ (v23 = true) ∨ 0 ≤ (v24 - 1)) ∧ ((¬ (v23 = true) ∨ 0 ≤ (v24 - 1)) →
        (¬ (v23 = true) ∨ (v24 - 1) < v5) ∧ ((¬ (v23 = true) ∨ (v24 - 1) < v5) →
        (¬ (v23 = true) ∨ 0 ≤ v24) ∧ ((¬ (v23 = true) ∨ 0 ≤ v24) →
        (¬ (v23 = true) ∨ 0 ≤ v24) ∧ ((¬ (v23 = true) ∨ 0 ≤ v24) →
        ((v23 = true → True)) ∧ (∀ (v26 : Bool), v26 = ovl (v4 (v24 - 1) 1) (v4 (v24 - 1) 2) (v4 v24 1) (v4 v24 2) → 
        (-9223372036854775808 ≤ (v24 + 1) ∧ (v24 + 1) ≤ 9223372036854775807) ∧ ((-9223372036854775808 ≤ (v24 + 1) ∧ (v24 + 1) ≤ 9223372036854775807) →
        I0 (v23 && ((v25 && v26) || ((!v25) && (!v26)))) (v24 + 1) ∧ μ0 (v23 && ((v25 && v26) || ((!v25) && (!v26)))) (v24 + 1) < μ0 v23 v24)))))))))))))))))) ∧
      (¬ (v24 < v5) →
        (v23 = true ↔ true = true) ∧ True)))))))))))))))))
theorem vh3 (h : VC3) : VH3 := by
  unfold VH3
  rw [hidF_eq buV, hidF_eq drA, hidF_eq drN, hidF_eq gr1, hidF_eq idV, hidF_eq maE, hidF_eq ovl, hidF_eq smL]
  exact h
end Go.Proofs.Ytgdjdaoglkfjdaa
