/- What the functions do, and what is left to show of each. -/
import Derived.Test.YtccmgepknjkakaaC
set_option linter.unusedVariables false
namespace Go.Proofs.Ytccmgepknjkakaa
open Go Go.RowKit Go.Proofs.Ytccmgepknjkakaa.Vc
/-! hotspotlaw44.AirtimeSteps -/
def sig9 : CSig := ⟨[⟨true, [.slc [.int .i64, .int .i64], .int .i64]⟩, ⟨false, [.mat [.int .i64]]⟩], [⟨false, [.bool]⟩]⟩
def pre9 : List AV → Prop
  | [.a v0, .i v1, .i v2, .m v3l v3f, .i v4] => rwP v3l v4
  | _ => False
noncomputable def raw9 : List AV → List AV
  | [.a v0, .i v1, .i v2, .m v3l v3f, .i v4] => [.b (true)]
  | _ => []

def VH9 : Prop :=
  ∀ (v0 : Int → Nat → Int) (v1 : Int) (v2 : Int) (v3l : Int → Int) (v3f : Int → Int → Nat → Int) (v4 : Int),
  (rwP v3l v4) →
  (0 ≤ v1 →
  (0 ≤ v4 →
  (True) ∧ (∀ (v5 : Bool), v5 = true → 
  (v1 ≤ 9223372036854775807 →
  (v4 ≤ 9223372036854775807 →
  ((¬ (40 < v1) → rwP v3l v4)) ∧ (∀ (v6 : Bool), v6 = (hidF grA) v3l v3f v4 → 
  (((40 < v1 ∨ v6 = true) ∨ ¬ (v5 = true)) →
    (v5 = true ↔ true = true) ∧ True) ∧
  (¬ (((40 < v1 ∨ v6 = true) ∨ ¬ (v5 = true))) →
    (v4 ≤ 40 ∧ rwP v3l v4) ∧ (∀ (v7 : Int → Nat → Int) (v8 : Int) (v9 : Int → Nat → Int) (v10 : Int) (v11 : Int) (v12 : Int), v7 = (hidF ruO) v0 v1 v2 v3l v3f v4 → v8 = (hidF ruK) v0 v1 v2 v3l v3f v4 → v9 = (hidF ruA) v0 v1 v2 v3l v3f v4 → v10 = (hidF ruN) v0 v1 v2 v3l v3f v4 v1 → v11 = (hidF ruT) v0 v1 v2 v3l v3f v4 → v12 = (hidF ruE) v0 v1 v2 v3l v3f v4 → 
    (0 ≤ v8 →
    (0 ≤ v10 →
    (v10 ≤ 9223372036854775807 →
    (v8 ≤ 9223372036854775807 →
    (¬ (v12 = 0) →
      ((v5 = true ∧ v8 = 0) ↔ true = true) ∧ True) ∧
    (¬ (¬ (v12 = 0)) →
      (v4 * 8) ≤ 140737488355328 ∧ ((v4 * 8) ≤ 140737488355328 →
      ∃ (I0 : (Int → Nat → Int) → (Int) → (Int) → (Int) → (Int → Nat → Int) → Prop) (μ0 : (Int → Nat → Int) → (Int) → (Int) → (Int) → (Int → Nat → Int) → Nat), I0 v0 v1 v2 (0 : Int) zA ∧ (∀ (v13 : Int → Nat → Int) (v14 : Int) (v15 : Int) (v16 : Int) (v17 : Int → Nat → Int), I0 v13 v14 v15 v16 v17 →
        (0 ≤ v14 →
        (v14 ≤ 9223372036854775807 →
        (v16 < v8 →
          ∃ (I1 : (Int → Nat → Int) → (Int) → (Int) → Prop) (μ1 : (Int → Nat → Int) → (Int) → (Int) → Nat), I1 zA (0 : Int) (0 : Int) ∧ (∀ (v18 : Int → Nat → Int) (v19 : Int) (v20 : Int), I1 v18 v19 v20 →
            (0 ≤ v19 →
            (v19 ≤ 9223372036854775807 →
            (v20 < v4 →
              0 ≤ v20 ∧ (0 ≤ v20 →
              ((v19 + 1) * 1) ≤ 140737488355328 ∧ (((v19 + 1) * 1) ≤ 140737488355328 →
              (v19 + 1) ≤ 140737488355328 ∧ ((v19 + 1) ≤ 140737488355328 →
              ((v19 + 1) ≤ 9223372036854775807 →
              (0 ≤ (v3l v20) →
              ((v3l v20) ≤ 9223372036854775807 →
              (-9223372036854775808 ≤ (v20 + 1) ∧ (v20 + 1) ≤ 9223372036854775807) ∧ ((-9223372036854775808 ≤ (v20 + 1) ∧ (v20 + 1) ≤ 9223372036854775807) →
              I1 (appA v18 v19 (setA zA 0 0 (if (decide ((v17 v20 0) < (v3l v20))) = true then (1 : Int) else (0 : Int)))) (v19 + 1) (v20 + 1) ∧ μ1 (appA v18 v19 (setA zA 0 0 (if (decide ((v17 v20 0) < (v3l v20))) = true then (1 : Int) else (0 : Int)))) (v19 + 1) (v20 + 1) < μ1 v18 v19 v20)))))))) ∧
            (¬ (v20 < v4) →
              (True) ∧ (∀ (v21 : Int) (v22 : Int → Nat → Int) (v23 : Int) (v24 : Int) (v25 : Int), v21 = (hidF pcW) v13 v14 v15 v18 v19 → v22 = (hidF pcA) v13 v14 v15 v18 v19 → v23 = (hidF pcN) v13 v14 v15 v18 v19 v14 → v24 = (hidF pcT) v13 v14 v15 v18 v19 → v25 = (hidF pcE) v13 v14 v15 v18 v19 → 
              (0 ≤ v23 →
              (¬ (v25 = 0) ∨ 0 ≤ v16) ∧ ((¬ (v25 = 0) ∨ 0 ≤ v16) →
              (¬ (v25 = 0) ∨ 0 ≤ v16) ∧ ((¬ (v25 = 0) ∨ 0 ≤ v16) →
              ((((¬ (v25 = 0) ∨ ¬ (v21 = (v7 v16 0))) ∨ v21 < 0) ∨ v4 ≤ v21) ∨ 0 ≤ v21) ∧ (((((¬ (v25 = 0) ∨ ¬ (v21 = (v7 v16 0))) ∨ v21 < 0) ∨ v4 ≤ v21) ∨ 0 ≤ v21) →
              ((((¬ (v25 = 0) ∨ ¬ (v21 = (v7 v16 0))) ∨ v21 < 0) ∨ v4 ≤ v21) ∨ v21 < v4) ∧ (((((¬ (v25 = 0) ∨ ¬ (v21 = (v7 v16 0))) ∨ v21 < 0) ∨ v4 ≤ v21) ∨ v21 < v4) →
              ((((¬ (v25 = 0) ∨ ¬ (v21 = (v7 v16 0))) ∨ v21 < 0) ∨ v4 ≤ v21) ∨ 0 ≤ v21) ∧ (((((¬ (v25 = 0) ∨ ¬ (v21 = (v7 v16 0))) ∨ v21 < 0) ∨ v4 ≤ v21) ∨ 0 ≤ v21) →
              ((((¬ (v25 = 0) ∨ ¬ (v21 = (v7 v16 0))) ∨ v21 < 0) ∨ v4 ≤ v21) ∨ v21 < v4) ∧ (((((¬ (v25 = 0) ∨ ¬ (v21 = (v7 v16 0))) ∨ v21 < 0) ∨ v4 ≤ v21) ∨ v21 < v4) →
              ((((¬ (v25 = 0) ∨ ¬ (v21 = (v7 v16 0))) ∨ v21 < 0) ∨ v4 ≤ v21) ∨ 0 ≤ v21) ∧ (((((¬ (v25 = 0) ∨ ¬ (v21 = (v7 v16 0))) ∨ v21 < 0) ∨ v4 ≤ v21) ∨ 0 ≤ v21) →
              ((((¬ (v25 = 0) ∨ ¬ (v21 = (v7 v16 0))) ∨ v21 < 0) ∨ v4 ≤ v21) ∨ v21 < v4) ∧ (((((¬ (v25 = 0) ∨ ¬ (v21 = (v7 v16 0))) ∨ v21 < 0) ∨ v4 ≤ v21) ∨ v21 < v4) →
              ((((¬ (v25 = 0) ∨ ¬ (v21 = (v7 v16 0))) ∨ v21 < 0) ∨ v4 ≤ v21) ∨ 0 ≤ v21) ∧ (((((¬ (v25 = 0) ∨ ¬ (v21 = (v7 v16 0))) ∨ v21 < 0) ∨ v4 ≤ v21) ∨ 0 ≤ v21) →
              ((((¬ (v25 = 0) ∨ ¬ (v21 = (v7 v16 0))) ∨ v21 < 0) ∨ v4 ≤ v21) ∨ v21 < v4) ∧ (((((¬ (v25 = 0) ∨ ¬ (v21 = (v7 v16 0))) ∨ v21 < 0) ∨ v4 ≤ v21) ∨ v21 < v4) →
              (v23 ≤ 9223372036854775807 →
              (((((¬ (v25 = 0) ∨ ¬ (v21 = (v7 v16 0))) ∨ v21 < 0) ∨ v4 ≤ v21) ∨ (v3l v21) ≤ (v17 v21 0)) →
                (False ↔ true = true) ∧ True) ∧
              (¬ (((((¬ (v25 = 0) ∨ ¬ (v21 = (v7 v16 0))) ∨ v21 < 0) ∨ v4 ≤ v21) ∨ (v3l v21) ≤ (v17 v21 0))) →
                0 ≤ v21 ∧ (0 ≤ v21 →
                v21 < v4 ∧ (v21 < v4 →
                0 ≤ (v17 v21 0) ∧ (0 ≤ (v17 v21 0) →
                (v17 v21 0) < (v3l v21) ∧ ((v17 v21 0) < (v3l v21) →
                (True) ∧ (∀ (v26 : Int → Nat → Int) (v27 : Int) (v28 : Int) (v29 : Int), v26 = (hidF chA) v22 v21 ((rowA v3f v21) (v17 v21 0) 0) → v27 = (hidF chN) v22 v23 v24 v21 ((rowA v3f v21) (v17 v21 0) 0) v23 → v28 = (hidF chN) v22 v23 v24 v21 ((rowA v3f v21) (v17 v21 0) 0) v24 → v29 = (hidF chE) v22 v23 v24 v21 ((rowA v3f v21) (v17 v21 0) 0) → 
                (0 ≤ v27 →
                (v27 ≤ 9223372036854775807 →
                (0 ≤ (v3l v21) →
                ((v3l v21) ≤ 9223372036854775807 →
                (¬ (v29 = 0) →
                  (False ↔ true = true) ∧ True) ∧
                (¬ (¬ (v29 = 0)) →
                  (-9223372036854775808 ≤ ((v17 v21 0) + 1) ∧ ((v17 v21 0) + 1) ≤ 9223372036854775807) ∧ ((-9223372036854775808 ≤ ((v17 v21 0) + 1) ∧ ((v17 v21 0) + 1) ≤ 9223372036854775807) →
                  (-9223372036854775808 ≤ (v16 + 1) ∧ (v16 + 1) ≤ 9223372036854775807) ∧ ((-9223372036854775808 ≤ (v16 + 1) ∧ (v16 + 1) ≤ 9223372036854775807) →
                  I0 v26 v27 v28 (v16 + 1) (setA v17 v21 0 ((v17 v21 0) + 1)) ∧ μ0 v26 v27 v28 (v16 + 1) (setA v17 v21 0 ((v17 v21 0) + 1)) < μ0 v13 v14 v15 v16 v17))))))))))))))))))))))))))))))) ∧
        (¬ (v16 < v8) →
          ((v5 = true → True)) ∧ (∀ (v18 : Bool), v18 = (hidF smA) v13 v14 v15 v9 v10 v11 → 
          ((v5 = true ∧ v18 = true) ↔ true = true) ∧ True)))))))))))))))))))
def VC9 : Prop :=
  ∀ (v0 : Int → Nat → Int) (v1 : Int) (v2 : Int) (v3l : Int → Int) (v3f : Int → Int → Nat → Int) (v4 : Int),
  (rwP v3l v4) →
  (0 ≤ v1 →
  (0 ≤ v4 →
  (True) ∧ (∀ (v5 : Bool), v5 = true → 
  (v1 ≤ 9223372036854775807 →
  (v4 ≤ 9223372036854775807 →
  ((¬ (40 < v1) → rwP v3l v4)) ∧ (∀ (v6 : Bool), v6 = grA v3l v3f v4 → 
  (((40 < v1 ∨ v6 = true) ∨ ¬ (v5 = true)) →
    (v5 = true ↔ true = true) ∧ True) ∧
  (¬ (((40 < v1 ∨ v6 = true) ∨ ¬ (v5 = true))) →
    (v4 ≤ 40 ∧ rwP v3l v4) ∧ (∀ (v7 : Int → Nat → Int) (v8 : Int) (v9 : Int → Nat → Int) (v10 : Int) (v11 : Int) (v12 : Int), v7 = ruO v0 v1 v2 v3l v3f v4 → v8 = ruK v0 v1 v2 v3l v3f v4 → v9 = ruA v0 v1 v2 v3l v3f v4 → v10 = ruN v0 v1 v2 v3l v3f v4 v1 → v11 = ruT v0 v1 v2 v3l v3f v4 → v12 = ruE v0 v1 v2 v3l v3f v4 → 
    (0 ≤ v8 →
    (0 ≤ v10 →
    (v10 ≤ 9223372036854775807 →
    (v8 ≤ 9223372036854775807 →
    (¬ (v12 = 0) →
      ((v5 = true ∧ v8 = 0) ↔ true = true) ∧ True) ∧
    (¬ (¬ (v12 = 0)) →
      (v4 * 8) ≤ 140737488355328 ∧ ((v4 * 8) ≤ 140737488355328 →
      ∃ (I0 : (Int → Nat → Int) → (Int) → (Int) → (Int) → (Int → Nat → Int) → Prop) (μ0 : (Int → Nat → Int) → (Int) → (Int) → (Int) → (Int → Nat → Int) → Nat), I0 v0 v1 v2 (0 : Int) zA ∧ (∀ (v13 : Int → Nat → Int) (v14 : Int) (v15 : Int) (v16 : Int) (v17 : Int → Nat → Int), I0 v13 v14 v15 v16 v17 →
        (0 ≤ v14 →
        (v14 ≤ 9223372036854775807 →
        (v16 < v8 →
          ∃ (I1 : (Int → Nat → Int) → (Int) → (Int) → Prop) (μ1 : (Int → Nat → Int) → (Int) → (Int) → Nat), I1 zA (0 : Int) (0 : Int) ∧ (∀ (v18 : Int → Nat → Int) (v19 : Int) (v20 : Int), I1 v18 v19 v20 →
            (0 ≤ v19 →
            (v19 ≤ 9223372036854775807 →
            (v20 < v4 →
              0 ≤ v20 ∧ (0 ≤ v20 →
              ((v19 + 1) * 1) ≤ 140737488355328 ∧ (((v19 + 1) * 1) ≤ 140737488355328 →
              (v19 + 1) ≤ 140737488355328 ∧ ((v19 + 1) ≤ 140737488355328 →
              ((v19 + 1) ≤ 9223372036854775807 →
              (0 ≤ (v3l v20) →
              ((v3l v20) ≤ 9223372036854775807 →
              (-9223372036854775808 ≤ (v20 + 1) ∧ (v20 + 1) ≤ 9223372036854775807) ∧ ((-9223372036854775808 ≤ (v20 + 1) ∧ (v20 + 1) ≤ 9223372036854775807) →
              I1 (appA v18 v19 (setA zA 0 0 (if (decide ((v17 v20 0) < (v3l v20))) = true then (1 : Int) else (0 : Int)))) (v19 + 1) (v20 + 1) ∧ μ1 (appA v18 v19 (setA zA 0 0 (if (decide ((v17 v20 0) < (v3l v20))) = true then (1 : Int) else (0 : Int)))) (v19 + 1) (v20 + 1) < μ1 v18 v19 v20)))))))) ∧
            (¬ (v20 < v4) →
              (True) ∧ (∀ (v21 : Int) (v22 : Int → Nat → Int) (v23 : Int) (v24 : Int) (v25 : Int), v21 = pcW v13 v14 v15 v18 v19 → v22 = pcA v13 v14 v15 v18 v19 → v23 = pcN v13 v14 v15 v18 v19 v14 → v24 = pcT v13 v14 v15 v18 v19 → v25 = pcE v13 v14 v15 v18 v19 → 
              (0 ≤ v23 →
              (¬ (v25 = 0) ∨ 0 ≤ v16) ∧ ((¬ (v25 = 0) ∨ 0 ≤ v16) →
              (¬ (v25 = 0) ∨ 0 ≤ v16) ∧ ((¬ (v25 = 0) ∨ 0 ≤ v16) →
              ((((¬ (v25 = 0) ∨ ¬ (v21 = (v7 v16 0))) ∨ v21 < 0) ∨ v4 ≤ v21) ∨ 0 ≤ v21) ∧ (((((¬ (v25 = 0) ∨ ¬ (v21 = (v7 v16 0))) ∨ v21 < 0) ∨ v4 ≤ v21) ∨ 0 ≤ v21) →
              ((((¬ (v25 = 0) ∨ ¬ (v21 = (v7 v16 0))) ∨ v21 < 0) ∨ v4 ≤ v21) ∨ v21 < v4) ∧ (((((¬ (v25 = 0) ∨ ¬ (v21 = (v7 v16 0))) ∨ v21 < 0) ∨ v4 ≤ v21) ∨ v21 < v4) →
              ((((¬ (v25 = 0) ∨ ¬ (v21 = (v7 v16 0))) ∨ v21 < 0) ∨ v4 ≤ v21) ∨ 0 ≤ v21) ∧ (((((¬ (v25 = 0) ∨ ¬ (v21 = (v7 v16 0))) ∨ v21 < 0) ∨ v4 ≤ v21) ∨ 0 ≤ v21) →
              ((((¬ (v25 = 0) ∨ ¬ (v21 = (v7 v16 0))) ∨ v21 < 0) ∨ v4 ≤ v21) ∨ v21 < v4) ∧ (((((¬ (v25 = 0) ∨ ¬ (v21 = (v7 v16 0))) ∨ v21 < 0) ∨ v4 ≤ v21) ∨ v21 < v4) →
              ((((¬ (v25 = 0) ∨ ¬ (v21 = (v7 v16 0))) ∨ v21 < 0) ∨ v4 ≤ v21) ∨ 0 ≤ v21) ∧ (((((¬ (v25 = 0) ∨ ¬ (v21 = (v7 v16 0))) ∨ v21 < 0) ∨ v4 ≤ v21) ∨ 0 ≤ v21) →
              ((((¬ (v25 = 0) ∨ ¬ (v21 = (v7 v16 0))) ∨ v21 < 0) ∨ v4 ≤ v21) ∨ v21 < v4) ∧ (((((¬ (v25 = 0) ∨ ¬ (v21 = (v7 v16 0))) ∨ v21 < 0) ∨ v4 ≤ v21) ∨ v21 < v4) →
              ((((¬ (v25 = 0) ∨ ¬ (v21 = (v7 v16 0))) ∨ v21 < 0) ∨ v4 ≤ v21) ∨ 0 ≤ v21) ∧ (((((¬ (v25 = 0) ∨ ¬ (v21 = (v7 v16 0))) ∨ v21 < 0) ∨ v4 ≤ v21) ∨ 0 ≤ v21) →
              ((((¬ (v25 = 0) ∨ ¬ (v21 = (v7 v16 0))) ∨ v21 < 0) ∨ v4 ≤ v21) ∨ v21 < v4) ∧ (((((¬ (v25 = 0) ∨ ¬ (v21 = (v7 v16 0))) ∨ v21 < 0) ∨ v4 ≤ v21) ∨ v21 < v4) →
              (v23 ≤ 9223372036854775807 →
              (((((¬ (v25 = 0) ∨ ¬ (v21 = (v7 v16 0))) ∨ v21 < 0) ∨ v4 ≤ v21) ∨ (v3l v21) ≤ (v17 v21 0)) →
                (False ↔ true = true) ∧ True) ∧
              (¬ (((((¬ (v25 = 0) ∨ ¬ (v21 = (v7 v16 0))) ∨ v21 < 0) ∨ v4 ≤ v21) ∨ (v3l v21) ≤ (v17 v21 0))) →
                0 ≤ v21 ∧ (0 ≤ v21 →
                v21 < v4 ∧ (v21 < v4 →
                0 ≤ (v17 v21 0) ∧ (0 ≤ (v17 v21 0) →
                (v17 v21 0) < (v3l v21) ∧ ((v17 v21 0) < (v3l v21) →
                (True) ∧ (∀ (v26 : Int → Nat → Int) (v27 : Int) (v28 : Int) (v29 : Int), v26 = chA v22 v21 ((rowA v3f v21) (v17 v21 0) 0) → v27 = chN v22 v23 v24 v21 ((rowA v3f v21) (v17 v21 0) 0) v23 → v28 = chN v22 v23 v24 v21 ((rowA v3f v21) (v17 v21 0) 0) v24 → v29 = chE v22 v23 v24 v21 ((rowA v3f v21) (v17 v21 0) 0) → 
                (0 ≤ v27 →
                (v27 ≤ 9223372036854775807 →
                (0 ≤ (v3l v21) →
                ((v3l v21) ≤ 9223372036854775807 →
                (¬ (v29 = 0) →
                  (False ↔ true = true) ∧ True) ∧
                (¬ (¬ (v29 = 0)) →
                  (-9223372036854775808 ≤ ((v17 v21 0) + 1) ∧ ((v17 v21 0) + 1) ≤ 9223372036854775807) ∧ ((-9223372036854775808 ≤ ((v17 v21 0) + 1) ∧ ((v17 v21 0) + 1) ≤ 9223372036854775807) →
                  (-9223372036854775808 ≤ (v16 + 1) ∧ (v16 + 1) ≤ 9223372036854775807) ∧ ((-9223372036854775808 ≤ (v16 + 1) ∧ (v16 + 1) ≤ 9223372036854775807) →
                  I0 v26 v27 v28 (v16 + 1) (setA v17 v21 0 ((v17 v21 0) + 1)) ∧ μ0 v26 v27 v28 (v16 + 1) (setA v17 v21 0 ((v17 v21 0) + 1)) < μ0 v13 v14 v15 v16 v17))))))))))))))))))))))))))))))) ∧
        (¬ (v16 < v8) →
          ((v5 = true → True)) ∧ (∀ (v18 : Bool), v18 = smA v13 v14 v15 v9 v10 v11 → 
          ((v5 = true ∧ v18 = true) ↔ true = true) ∧ True)))))))))))))))))))
theorem vh9 (h : VC9) : VH9 := by
  unfold VH9
  rw [hidF_eq chA, hidF_eq chE, hidF_eq chN, hidF_eq grA, hidF_eq pcA, hidF_eq pcE, hidF_eq pcN, hidF_eq pcT, hidF_eq pcW, hidF_eq ruA, hidF_eq ruE, hidF_eq ruK, hidF_eq ruN, hidF_eq ruO, hidF_eq ruT, hidF_eq smA]
  exact h
end Go.Proofs.Ytccmgepknjkakaa
