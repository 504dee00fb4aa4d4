/- What the functions do, and what is left to show of each. -/
import Derived.Test.YtccmgepknjkakaaC
set_option linter.unusedVariables false
namespace Go.Proofs.Ytccmgepknjkakaa
open Go Go.RowKit Go.Proofs.Ytccmgepknjkakaa.Vc
/-! hotspotlaw44.AirtimeRuns -/
def sig3 : CSig := ⟨[⟨true, [.slc [.int .i64, .int .i64], .int .i64]⟩, ⟨false, [.mat [.int .i64]]⟩], [⟨false, [.bool]⟩]⟩
def pre3 : List AV → Prop
  | [.a v0, .i v1, .i v2, .m v3l v3f, .i v4] => rwP v3l v4
  | _ => False
noncomputable def raw3 : List AV → List AV
  | [.a v0, .i v1, .i v2, .m v3l v3f, .i v4] => [.b (true)]
  | _ => []

def VH3 : Prop :=
  ∀ (v0 : Int → Nat → Int) (v1 : Int) (v2 : Int) (v3l : Int → Int) (v3f : Int → Int → Nat → Int) (v4 : Int),
  (rwP v3l v4) →
  (0 ≤ v1 →
  (0 ≤ v4 →
  ((¬ (40 < v1) → rwP v3l v4)) ∧ (∀ (v5 : Bool), v5 = (hidF grA) v3l v3f v4 → 
  (v1 ≤ 9223372036854775807 →
  (v4 ≤ 9223372036854775807 →
  ((40 < v1 ∨ v5 = true) →
    (True ↔ true = true) ∧ True) ∧
  (¬ ((40 < v1 ∨ v5 = true)) →
    ∃ (I0 : (Int → Int) → (Int → Int → Nat → Int) → (Int) → (Int) → Prop) (μ0 : (Int → Int) → (Int → Int → Nat → Int) → (Int) → (Int) → Nat), I0 (srL zL (-1) 0) (srF zF (-1) zA) (0 : Int) (0 : Int) ∧ (∀ (v6l : Int → Int) (v6f : Int → Int → Nat → Int) (v7 : Int) (v8 : Int), I0 v6l v6f v7 v8 →
      (0 ≤ v7 →
      (v7 ≤ 9223372036854775807 →
      (v8 < v4 →
        0 ≤ v8 ∧ (0 ≤ v8 →
        0 ≤ (v3l v8) ∧ (0 ≤ (v3l v8) →
        ((v3l v8) * 8) ≤ 140737488355328 ∧ (((v3l v8) * 8) ≤ 140737488355328 →
        (v3l v8) ≤ 140737488355328 ∧ ((v3l v8) ≤ 140737488355328 →
        ((v7 + 1) * 24) ≤ 140737488355328 ∧ (((v7 + 1) * 24) ≤ 140737488355328 →
        (v7 + 1) ≤ 140737488355328 ∧ ((v7 + 1) ≤ 140737488355328 →
        (-9223372036854775808 ≤ (v8 + 1) ∧ (v8 + 1) ≤ 9223372036854775807) ∧ ((-9223372036854775808 ≤ (v8 + 1) ∧ (v8 + 1) ≤ 9223372036854775807) →
        I0 (srL v6l v7 (v3l v8)) (srF v6f v7 (rowA v3f v8)) (v7 + 1) (v8 + 1) ∧ μ0 (srL v6l v7 (v3l v8)) (srF v6f v7 (rowA v3f v8)) (v7 + 1) (v8 + 1) < μ0 v6l v6f v7 v8)))))))) ∧
      (¬ (v8 < v4) →
        (v7 ≤ 40 ∧ rwP v6l v7) ∧ (∀ (v9 : Int → Nat → Int) (v10 : Int) (v11 : Int → Nat → Int) (v12 : Int) (v13 : Int) (v14 : Int), v9 = (hidF ruO) v0 v1 v2 v6l v6f v7 → v10 = (hidF ruK) v0 v1 v2 v6l v6f v7 → v11 = (hidF ruA) v0 v1 v2 v6l v6f v7 → v12 = (hidF ruN) v0 v1 v2 v6l v6f v7 v1 → v13 = (hidF ruT) v0 v1 v2 v6l v6f v7 → v14 = (hidF ruE) v0 v1 v2 v6l v6f v7 → 
        (0 ≤ v10 →
        (0 ≤ v12 →
        (v4 ≤ 40 ∧ rwP v3l v4) ∧ (∀ (v15 : Int → Nat → Int) (v16 : Int) (v17 : Int → Nat → Int) (v18 : Int) (v19 : Int) (v20 : Int), v15 = (hidF ruO) v0 v1 v2 v3l v3f v4 → v16 = (hidF ruK) v0 v1 v2 v3l v3f v4 → v17 = (hidF ruA) v0 v1 v2 v3l v3f v4 → v18 = (hidF ruN) v0 v1 v2 v3l v3f v4 v1 → v19 = (hidF ruT) v0 v1 v2 v3l v3f v4 → v20 = (hidF ruE) v0 v1 v2 v3l v3f v4 → 
        (v12 ≤ 9223372036854775807 →
        (0 ≤ v16 →
        (0 ≤ v18 →
        (v10 ≤ 9223372036854775807 →
        (True) ∧ (∀ (v21 : Bool), v21 = (hidF siA) v9 v10 v15 v16 → 
        (v18 ≤ 9223372036854775807 →
        (v16 ≤ 9223372036854775807 →
        ((v21 = true → True)) ∧ (∀ (v22 : Bool), v22 = (hidF smA) v11 v12 v13 v17 v18 v19 → 
        ∃ (I1 : (Bool) → (Int) → Prop) (μ1 : (Bool) → (Int) → Nat), I1 ((v21 && v22) && (decide (v14 = v20))) (0 : Int) ∧ (∀ (v23 : Bool) (v24 : Int), I1 v23 v24 →
          (v24 < v4 →
            (¬ (v23 = true) ∨ 0 ≤ v24) ∧ ((¬ (v23 = true) ∨ 0 ≤ v24) →
            (¬ (v23 = true) ∨ v24 < v7) ∧ ((¬ (v23 = true) ∨ v24 < v7) →
            (¬ (v23 = true) ∨ 0 ≤ v24) ∧ ((¬ (v23 = true) ∨ 0 ≤ v24) →
            (¬ (v23 = true) ∨ v24 < v7) ∧ ((¬ (v23 = true) ∨ v24 < v7) →
            (¬ (v23 = true) ∨ 0 ≤ v24) ∧ ((¬ (v23 = true) ∨ 0 ≤ v24) →
            (¬ (v23 = true) ∨ 0 ≤ v24) ∧ ((¬ (v23 = true) ∨ 0 ≤ v24) →
            (¬ (v23 = true) ∨ 0 ≤ v24) ∧ ((¬ (v23 = true) ∨ 0 ≤ v24) →
            (¬ (v23 = true) ∨ v24 < v7) ∧ ((¬ (v23 = true) ∨ v24 < v7) →
            (¬ (v23 = true) ∨ 0 ≤ v24) ∧ ((¬ (v23 = true) ∨ 0 ≤ v24) →
            ((v23 = true → True)) ∧ (∀ (v25 : Bool), v25 = (hidF siA) (rowA v6f v24) (v6l v24) (rowA v3f v24) (v3l v24) → 
            (-9223372036854775808 ≤ (v24 + 1) ∧ (v24 + 1) ≤ 9223372036854775807) ∧ ((-9223372036854775808 ≤ (v24 + 1) ∧ (v24 + 1) ≤ 9223372036854775807) →
            I1 (v23 && v25) (v24 + 1) ∧ μ1 (v23 && v25) (v24 + 1) < μ1 v23 v24)))))))))))) ∧
          (¬ (v24 < v4) →
            (v23 = true ↔ true = true) ∧ True))))))))))))))))))))))))
def VC3 : Prop :=
  ∀ (v0 : Int → Nat → Int) (v1 : Int) (v2 : Int) (v3l : Int → Int) (v3f : Int → Int → Nat → Int) (v4 : Int),
  (rwP v3l v4) →
  (0 ≤ v1 →
  (0 ≤ v4 →
  ((¬ (40 < v1) → rwP v3l v4)) ∧ (∀ (v5 : Bool), v5 = grA v3l v3f v4 → 
  (v1 ≤ 9223372036854775807 →
  (v4 ≤ 9223372036854775807 →
  ((40 < v1 ∨ v5 = true) →
    (True ↔ true = true) ∧ True) ∧
  (¬ ((40 < v1 ∨ v5 = true)) →
    ∃ (I0 : (Int → Int) → (Int → Int → Nat → Int) → (Int) → (Int) → Prop) (μ0 : (Int → Int) → (Int → Int → Nat → Int) → (Int) → (Int) → Nat), I0 (srL zL (-1) 0) (srF zF (-1) zA) (0 : Int) (0 : Int) ∧ (∀ (v6l : Int → Int) (v6f : Int → Int → Nat → Int) (v7 : Int) (v8 : Int), I0 v6l v6f v7 v8 →
      (0 ≤ v7 →
      (v7 ≤ 9223372036854775807 →
      (v8 < v4 →
        0 ≤ v8 ∧ (0 ≤ v8 →
        0 ≤ (v3l v8) ∧ (0 ≤ (v3l v8) →
        ((v3l v8) * 8) ≤ 140737488355328 ∧ (((v3l v8) * 8) ≤ 140737488355328 →
        (v3l v8) ≤ 140737488355328 ∧ ((v3l v8) ≤ 140737488355328 →
        ((v7 + 1) * 24) ≤ 140737488355328 ∧ (((v7 + 1) * 24) ≤ 140737488355328 →
        (v7 + 1) ≤ 140737488355328 ∧ ((v7 + 1) ≤ 140737488355328 →
        (-9223372036854775808 ≤ (v8 + 1) ∧ (v8 + 1) ≤ 9223372036854775807) ∧ ((-9223372036854775808 ≤ (v8 + 1) ∧ (v8 + 1) ≤ 9223372036854775807) →
        I0 (srL v6l v7 (v3l v8)) (srF v6f v7 (rowA v3f v8)) (v7 + 1) (v8 + 1) ∧ μ0 (srL v6l v7 (v3l v8)) (srF v6f v7 (rowA v3f v8)) (v7 + 1) (v8 + 1) < μ0 v6l v6f v7 v8)))))))) ∧
      (¬ (v8 < v4) →
        (v7 ≤ 40 ∧ rwP v6l v7) ∧ (∀ (v9 : Int → Nat → Int) (v10 : Int) (v11 : Int → Nat → Int) (v12 : Int) (v13 : Int) (v14 : Int), v9 = ruO v0 v1 v2 v6l v6f v7 → v10 = ruK v0 v1 v2 v6l v6f v7 → v11 = ruA v0 v1 v2 v6l v6f v7 → v12 = ruN v0 v1 v2 v6l v6f v7 v1 → v13 = ruT v0 v1 v2 v6l v6f v7 → v14 = ruE v0 v1 v2 v6l v6f v7 → 
        (0 ≤ v10 →
        (0 ≤ v12 →
        (v4 ≤ 40 ∧ rwP v3l v4) ∧ (∀ (v15 : Int → Nat → Int) (v16 : Int) (v17 : Int → Nat → Int) (v18 : Int) (v19 : Int) (v20 : Int), v15 = ruO v0 v1 v2 v3l v3f v4 → v16 = ruK v0 v1 v2 v3l v3f v4 → v17 = ruA v0 v1 v2 v3l v3f v4 → v18 = ruN v0 v1 v2 v3l v3f v4 v1 → v19 = ruT v0 v1 v2 v3l v3f v4 → v20 = ruE v0 v1 v2 v3l v3f v4 → 
        (v12 ≤ 9223372036854775807 →
        (0 ≤ v16 →
        (0 ≤ v18 →
        (v10 ≤ 9223372036854775807 →
        (True) ∧ (∀ (v21 : Bool), v21 = siA v9 v10 v15 v16 → 
        (v18 ≤ 9223372036854775807 →
        (v16 ≤ 9223372036854775807 →
        ((v21 = true → True)) ∧ (∀ (v22 : Bool), v22 = smA v11 v12 v13 v17 v18 v19 → 
        ∃ (I1 : (Bool) → (Int) → Prop) (μ1 : (Bool) → (Int) → Nat), I1 ((v21 && v22) && (decide (v14 = v20))) (0 : Int) ∧ (∀ (v23 : Bool) (v24 : Int), I1 v23 v24 →
          (v24 < v4 →
            (¬ (v23 = true) ∨ 0 ≤ v24) ∧ ((¬ (v23 = true) ∨ 0 ≤ v24) →
            (¬ (v23 = true) ∨ v24 < v7) ∧ ((¬ (v23 = true) ∨ v24 < v7) →
            (¬ (v23 = true) ∨ 0 ≤ v24) ∧ ((¬ (v23 = true) ∨ 0 ≤ v24) →
            (¬ (v23 = true) ∨ v24 < v7) ∧ ((¬ (v23 = true) ∨ v24 < v7) →
            (¬ (v23 = true) ∨ 0 ≤ v24) ∧ ((¬ (v23 = true) ∨ 0 ≤ v24) →
            (¬ (v23 = true) ∨ 0 ≤ v24) ∧ ((¬ (v23 = true) ∨ 0 ≤ v24) →
            (¬ (v23 = true) ∨ 0 ≤ v24) ∧ ((¬ (v23 = true) ∨ 0 ≤ v24) →
            (¬ (v23 = true) ∨ v24 < v7) ∧ ((¬ (v23 = true) ∨ v24 < v7) →
            (¬ (v23 = true) ∨ 0 ≤ v24) ∧ ((¬ (v23 = true) ∨ 0 ≤ v24) →
            ((v23 = true → True)) ∧ (∀ (v25 : Bool), v25 = siA (rowA v6f v24) (v6l v24) (rowA v3f v24) (v3l v24) → 
            (-9223372036854775808 ≤ (v24 + 1) ∧ (v24 + 1) ≤ 9223372036854775807) ∧ ((-9223372036854775808 ≤ (v24 + 1) ∧ (v24 + 1) ≤ 9223372036854775807) →
            I1 (v23 && v25) (v24 + 1) ∧ μ1 (v23 && v25) (v24 + 1) < μ1 v23 v24)))))))))))) ∧
          (¬ (v24 < v4) →
            (v23 = true ↔ true = true) ∧ True))))))))))))))))))))))))
theorem vh3 (h : VC3) : VH3 := by
  unfold VH3
  rw [hidF_eq grA, hidF_eq ruA, hidF_eq ruE, hidF_eq ruK, hidF_eq ruN, hidF_eq ruO, hidF_eq ruT, hidF_eq siA, hidF_eq smA]
  exact h
end Go.Proofs.Ytccmgepknjkakaa
