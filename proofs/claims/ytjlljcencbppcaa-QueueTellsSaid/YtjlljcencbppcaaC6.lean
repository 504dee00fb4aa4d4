/- What the functions do, and what is left to show of each. -/
import Derived.Test.YtjlljcencbppcaaC
set_option linter.unusedVariables false
namespace Go.Proofs.Ytjlljcencbppcaa
open Go Go.RowKit Go.Proofs.Ytjlljcencbppcaa.Vc
/-! hotspotlaw43.QueueAges -/
def sig6 : CSig := ⟨[⟨true, [.slc [.int .i64, .int .i64, .int .i64], .int .i64, .int .i64]⟩, ⟨false, [.int .i64]⟩, ⟨false, [.int .i64]⟩], [⟨false, [.bool]⟩]⟩
def pre6 : List AV → Prop
  | [.a v0, .i v1, .i v2, .i v3, .i v4, .i v5] => True
  | _ => False
noncomputable def raw6 : List AV → List AV
  | [.a v0, .i v1, .i v2, .i v3, .i v4, .i v5] => [.b (true)]
  | _ => []

def VH6 : Prop :=
  ∀ (v0 : Int → Nat → Int) (v1 : Int) (v2 : Int) (v3 : Int) (v4 : Int) (v5 : Int),
  (True) →
  (0 ≤ v1 →
  (True) ∧ (∀ (v6 : Bool), v6 = true → 
  (v1 ≤ 9223372036854775807 →
  ((300 < v1 ∨ ¬ (v6 = true)) →
    (v6 = true ↔ true = true) ∧ True) ∧
  (¬ ((300 < v1 ∨ ¬ (v6 = true))) →
    (True) ∧ (∀ (v7 : Int → Nat → Int) (v8 : Int) (v9 : Int) (v10 : Int) (v11 : Int → Nat → Int) (v12 : Int) (v13 : Int), v7 = shA v0 ((hidF agD) v0 v1 v4 v5) → v8 = (hidF agN) v0 v1 v2 v3 v4 v5 → v9 = (hidF agU) v0 v1 v2 v3 v4 v5 → v10 = (hidF agK) v0 v1 v2 v3 v4 v5 → v11 = v0 → v12 = (hidF agC) v0 v1 v2 v3 v4 v5 → v13 = (hidF agE) v0 v1 v2 v3 v4 v5 → 
    (0 ≤ v8 →
    (0 ≤ v12 →
    (v8 ≤ 9223372036854775807 →
    (v12 ≤ 9223372036854775807 →
    (¬ (v13 = 0) →
      (((v6 = true ∧ v12 = 0) → True)) ∧ (∀ (v14 : Bool), v14 = ((hidF smI) v7 v8 zA (0 : Int) && decide (v9 = (0 : Int) ∧ v10 = (0 : Int))) → 
      (((v6 = true ∧ v12 = 0) ∧ v14 = true) ↔ true = true) ∧ True)) ∧
    (¬ (¬ (v13 = 0)) →
      ∃ (I0 : (Int) → Prop) (μ0 : (Int) → Nat), I0 (0 : Int) ∧ (∀ (v14 : Int), I0 v14 →
        (v14 < v12 →
          0 ≤ v14 ∧ (0 ≤ v14 →
          (-9223372036854775808 ≤ (v4 - (v11 v14 2)) ∧ (v4 - (v11 v14 2)) ≤ 9223372036854775807) ∧ ((-9223372036854775808 ≤ (v4 - (v11 v14 2)) ∧ (v4 - (v11 v14 2)) ≤ 9223372036854775807) →
          ((v4 - (v11 v14 2)) ≤ v5 →
            (False ↔ true = true) ∧ True) ∧
          (¬ ((v4 - (v11 v14 2)) ≤ v5) →
            (-9223372036854775808 ≤ (v14 + 1) ∧ (v14 + 1) ≤ 9223372036854775807) ∧ ((-9223372036854775808 ≤ (v14 + 1) ∧ (v14 + 1) ≤ 9223372036854775807) →
            I0 (v14 + 1) ∧ μ0 (v14 + 1) < μ0 v14))))) ∧
        (¬ (v14 < v12) →
          ∃ (I1 : (Int) → Prop) (μ1 : (Int) → Nat), I1 (0 : Int) ∧ (∀ (v15 : Int), I1 v15 →
            (v15 < v8 →
              0 ≤ v15 ∧ (0 ≤ v15 →
              (-9223372036854775808 ≤ (v4 - (v7 v15 2)) ∧ (v4 - (v7 v15 2)) ≤ 9223372036854775807) ∧ ((-9223372036854775808 ≤ (v4 - (v7 v15 2)) ∧ (v4 - (v7 v15 2)) ≤ 9223372036854775807) →
              (v5 < (v4 - (v7 v15 2)) →
                (False ↔ true = true) ∧ True) ∧
              (¬ (v5 < (v4 - (v7 v15 2))) →
                (-9223372036854775808 ≤ (v15 + 1) ∧ (v15 + 1) ≤ 9223372036854775807) ∧ ((-9223372036854775808 ≤ (v15 + 1) ∧ (v15 + 1) ≤ 9223372036854775807) →
                I1 (v15 + 1) ∧ μ1 (v15 + 1) < μ1 v15))))) ∧
            (¬ (v15 < v8) →
              (True) ∧ (∀ (v16 : Int → Nat → Int) (v17 : Int) (v18 : Int) (v19 : Int) (v20 : Int → Nat → Int) (v21 : Int) (v22 : Int), v16 = shA v7 ((hidF agD) v7 v8 v4 v5) → v17 = (hidF agN) v7 v8 v9 v10 v4 v5 → v18 = (hidF agU) v7 v8 v9 v10 v4 v5 → v19 = (hidF agK) v7 v8 v9 v10 v4 v5 → v20 = v7 → v21 = (hidF agC) v7 v8 v9 v10 v4 v5 → v22 = (hidF agE) v7 v8 v9 v10 v4 v5 → 
              (0 ≤ v17 →
              (0 ≤ v21 →
              (v6 = true →
                (v12 * 24) ≤ 140737488355328 ∧ ((v12 * 24) ≤ 140737488355328 →
                v12 ≤ 140737488355328 ∧ (v12 ≤ 140737488355328 →
                ((v12 + v8) * 24) ≤ 140737488355328 ∧ (((v12 + v8) * 24) ≤ 140737488355328 →
                (v12 + v8) ≤ 140737488355328 ∧ ((v12 + v8) ≤ 140737488355328 →
                (True) ∧ (∀ (v23 : Bool), v23 = (hidF smI) (appA v11 v12 v7) (v12 + v8) v0 v1 → 
                (v17 ≤ 9223372036854775807 →
                (v21 ≤ 9223372036854775807 →
                ((v12 + v8) ≤ 9223372036854775807 →
                ((((((v23 = true ∧ v9 = v2) ∧ v10 = v3) ∧ v22 = 0) ∧ v21 = 0) → True)) ∧ (∀ (v24 : Bool), v24 = ((hidF smI) v16 v17 v7 v8 && decide (v18 = v9 ∧ v19 = v10)) → 
                ((((((v23 = true ∧ v9 = v2) ∧ v10 = v3) ∧ v22 = 0) ∧ v21 = 0) ∧ v24 = true) ↔ true = true) ∧ True)))))))))) ∧
              (¬ (v6 = true) →
                (False ↔ true = true) ∧ True))))))))))))))))))
def VC6 : Prop :=
  ∀ (v0 : Int → Nat → Int) (v1 : Int) (v2 : Int) (v3 : Int) (v4 : Int) (v5 : Int),
  (True) →
  (0 ≤ v1 →
  (True) ∧ (∀ (v6 : Bool), v6 = true → 
  (v1 ≤ 9223372036854775807 →
  ((300 < v1 ∨ ¬ (v6 = true)) →
    (v6 = true ↔ true = true) ∧ True) ∧
  (¬ ((300 < v1 ∨ ¬ (v6 = true))) →
    (True) ∧ (∀ (v7 : Int → Nat → Int) (v8 : Int) (v9 : Int) (v10 : Int) (v11 : Int → Nat → Int) (v12 : Int) (v13 : Int), v7 = shA v0 (agD v0 v1 v4 v5) → v8 = agN v0 v1 v2 v3 v4 v5 → v9 = agU v0 v1 v2 v3 v4 v5 → v10 = agK v0 v1 v2 v3 v4 v5 → v11 = v0 → v12 = agC v0 v1 v2 v3 v4 v5 → v13 = agE v0 v1 v2 v3 v4 v5 → 
    (0 ≤ v8 →
    (0 ≤ v12 →
    (v8 ≤ 9223372036854775807 →
    (v12 ≤ 9223372036854775807 →
    (¬ (v13 = 0) →
      (((v6 = true ∧ v12 = 0) → True)) ∧ (∀ (v14 : Bool), v14 = (smI v7 v8 zA (0 : Int) && decide (v9 = (0 : Int) ∧ v10 = (0 : Int))) → 
      (((v6 = true ∧ v12 = 0) ∧ v14 = true) ↔ true = true) ∧ True)) ∧
    (¬ (¬ (v13 = 0)) →
      ∃ (I0 : (Int) → Prop) (μ0 : (Int) → Nat), I0 (0 : Int) ∧ (∀ (v14 : Int), I0 v14 →
        (v14 < v12 →
          0 ≤ v14 ∧ (0 ≤ v14 →
          (-9223372036854775808 ≤ (v4 - (v11 v14 2)) ∧ (v4 - (v11 v14 2)) ≤ 9223372036854775807) ∧ ((-9223372036854775808 ≤ (v4 - (v11 v14 2)) ∧ (v4 - (v11 v14 2)) ≤ 9223372036854775807) →
          ((v4 - (v11 v14 2)) ≤ v5 →
            (False ↔ true = true) ∧ True) ∧
          (¬ ((v4 - (v11 v14 2)) ≤ v5) →
            (-9223372036854775808 ≤ (v14 + 1) ∧ (v14 + 1) ≤ 9223372036854775807) ∧ ((-9223372036854775808 ≤ (v14 + 1) ∧ (v14 + 1) ≤ 9223372036854775807) →
            I0 (v14 + 1) ∧ μ0 (v14 + 1) < μ0 v14))))) ∧
        (¬ (v14 < v12) →
          ∃ (I1 : (Int) → Prop) (μ1 : (Int) → Nat), I1 (0 : Int) ∧ (∀ (v15 : Int), I1 v15 →
            (v15 < v8 →
              0 ≤ v15 ∧ (0 ≤ v15 →
              (-9223372036854775808 ≤ (v4 - (v7 v15 2)) ∧ (v4 - (v7 v15 2)) ≤ 9223372036854775807) ∧ ((-9223372036854775808 ≤ (v4 - (v7 v15 2)) ∧ (v4 - (v7 v15 2)) ≤ 9223372036854775807) →
              (v5 < (v4 - (v7 v15 2)) →
                (False ↔ true = true) ∧ True) ∧
              (¬ (v5 < (v4 - (v7 v15 2))) →
                (-9223372036854775808 ≤ (v15 + 1) ∧ (v15 + 1) ≤ 9223372036854775807) ∧ ((-9223372036854775808 ≤ (v15 + 1) ∧ (v15 + 1) ≤ 9223372036854775807) →
                I1 (v15 + 1) ∧ μ1 (v15 + 1) < μ1 v15))))) ∧
            (¬ (v15 < v8) →
              (True) ∧ (∀ (v16 : Int → Nat → Int) (v17 : Int) (v18 : Int) (v19 : Int) (v20 : Int → Nat → Int) (v21 : Int) (v22 : Int), v16 = shA v7 (agD v7 v8 v4 v5) → v17 = agN v7 v8 v9 v10 v4 v5 → v18 = agU v7 v8 v9 v10 v4 v5 → v19 = agK v7 v8 v9 v10 v4 v5 → v20 = v7 → v21 = agC v7 v8 v9 v10 v4 v5 → v22 = agE v7 v8 v9 v10 v4 v5 → 
              (0 ≤ v17 →
              (0 ≤ v21 →
              (v6 = true →
                (v12 * 24) ≤ 140737488355328 ∧ ((v12 * 24) ≤ 140737488355328 →
                v12 ≤ 140737488355328 ∧ (v12 ≤ 140737488355328 →
                ((v12 + v8) * 24) ≤ 140737488355328 ∧ (((v12 + v8) * 24) ≤ 140737488355328 →
                (v12 + v8) ≤ 140737488355328 ∧ ((v12 + v8) ≤ 140737488355328 →
                (True) ∧ (∀ (v23 : Bool), v23 = smI (appA v11 v12 v7) (v12 + v8) v0 v1 → 
                (v17 ≤ 9223372036854775807 →
                (v21 ≤ 9223372036854775807 →
                ((v12 + v8) ≤ 9223372036854775807 →
                ((((((v23 = true ∧ v9 = v2) ∧ v10 = v3) ∧ v22 = 0) ∧ v21 = 0) → True)) ∧ (∀ (v24 : Bool), v24 = (smI v16 v17 v7 v8 && decide (v18 = v9 ∧ v19 = v10)) → 
                ((((((v23 = true ∧ v9 = v2) ∧ v10 = v3) ∧ v22 = 0) ∧ v21 = 0) ∧ v24 = true) ↔ true = true) ∧ True)))))))))) ∧
              (¬ (v6 = true) →
                (False ↔ true = true) ∧ True))))))))))))))))))
theorem vh6 (h : VC6) : VH6 := by
  unfold VH6
  rw [hidF_eq agC, hidF_eq agD, hidF_eq agE, hidF_eq agK, hidF_eq agN, hidF_eq agU, hidF_eq smI]
  exact h
/-! hotspotlaw43.aged -/
def sig14 : CSig := ⟨[], [⟨false, [.bool]⟩]⟩
def pre14 : List AV → Prop
  | [] => True
  | _ => False
noncomputable def raw14 : List AV → List AV
  | [] => [.b (true)]
  | _ => []

def VH14 : Prop :=
  (True) →
  (True) ∧ (∀ (v0 : Int → Nat → Int) (v1 : Int) (v2 : Int) (v3 : Int) (v4 : Int → Nat → Int) (v5 : Int) (v6 : Int), v0 = shA (setA (setA (setA (setA (setA (setA (setA (setA (setA zA 0 0 1) 0 1 0) 0 2 0) 1 0 2) 1 1 0) 1 2 10) 2 0 3) 2 1 0) 2 2 160000) ((hidF agD) (setA (setA (setA (setA (setA (setA (setA (setA (setA zA 0 0 1) 0 1 0) 0 2 0) 1 0 2) 1 1 0) 1 2 10) 2 0 3) 2 1 0) 2 2 160000) (3 : Int) (160000 : Int) (159990 : Int)) → v1 = (hidF agN) (setA (setA (setA (setA (setA (setA (setA (setA (setA zA 0 0 1) 0 1 0) 0 2 0) 1 0 2) 1 1 0) 1 2 10) 2 0 3) 2 1 0) 2 2 160000) (3 : Int) (100000 : Int) (3 : Int) (160000 : Int) (159990 : Int) → v2 = (hidF agU) (setA (setA (setA (setA (setA (setA (setA (setA (setA zA 0 0 1) 0 1 0) 0 2 0) 1 0 2) 1 1 0) 1 2 10) 2 0 3) 2 1 0) 2 2 160000) (3 : Int) (100000 : Int) (3 : Int) (160000 : Int) (159990 : Int) → v3 = (hidF agK) (setA (setA (setA (setA (setA (setA (setA (setA (setA zA 0 0 1) 0 1 0) 0 2 0) 1 0 2) 1 1 0) 1 2 10) 2 0 3) 2 1 0) 2 2 160000) (3 : Int) (100000 : Int) (3 : Int) (160000 : Int) (159990 : Int) → v4 = (setA (setA (setA (setA (setA (setA (setA (setA (setA zA 0 0 1) 0 1 0) 0 2 0) 1 0 2) 1 1 0) 1 2 10) 2 0 3) 2 1 0) 2 2 160000) → v5 = (hidF agC) (setA (setA (setA (setA (setA (setA (setA (setA (setA zA 0 0 1) 0 1 0) 0 2 0) 1 0 2) 1 1 0) 1 2 10) 2 0 3) 2 1 0) 2 2 160000) (3 : Int) (100000 : Int) (3 : Int) (160000 : Int) (159990 : Int) → v6 = (hidF agE) (setA (setA (setA (setA (setA (setA (setA (setA (setA zA 0 0 1) 0 1 0) 0 2 0) 1 0 2) 1 1 0) 1 2 10) 2 0 3) 2 1 0) 2 2 160000) (3 : Int) (100000 : Int) (3 : Int) (160000 : Int) (159990 : Int) → 
  (0 ≤ v1 →
  (0 ≤ v5 →
  (True) ∧ (∀ (v7 : Int → Nat → Int) (v8 : Int) (v9 : Int) (v10 : Int) (v11 : Int) (v12 : Int) (v13 : Int) (v14 : Bool) (v15 : Int → Nat → Int) (v16 : Int) (v17 : Int), v7 = shA (shA (setA (setA (setA (setA (setA (setA (setA (setA (setA zA 0 0 1) 0 1 0) 0 2 0) 1 0 2) 1 1 0) 1 2 10) 2 0 3) 2 1 0) 2 2 160000) 2) ((hidF tkD) (shA (setA (setA (setA (setA (setA (setA (setA (setA (setA zA 0 0 1) 0 1 0) 0 2 0) 1 0 2) 1 1 0) 1 2 10) 2 0 3) 2 1 0) 2 2 160000) 2) (1 : Int) (100000 : Int) (3 : Int) (164999 : Int) + 1) → v8 = (hidF tkN) (shA (setA (setA (setA (setA (setA (setA (setA (setA (setA zA 0 0 1) 0 1 0) 0 2 0) 1 0 2) 1 1 0) 1 2 10) 2 0 3) 2 1 0) 2 2 160000) 2) (1 : Int) (100000 : Int) (3 : Int) (164999 : Int) → v9 = (hidF tkU) (shA (setA (setA (setA (setA (setA (setA (setA (setA (setA zA 0 0 1) 0 1 0) 0 2 0) 1 0 2) 1 1 0) 1 2 10) 2 0 3) 2 1 0) 2 2 160000) 2) (1 : Int) (100000 : Int) (3 : Int) (164999 : Int) → v10 = (hidF tkK) (shA (setA (setA (setA (setA (setA (setA (setA (setA (setA zA 0 0 1) 0 1 0) 0 2 0) 1 0 2) 1 1 0) 1 2 10) 2 0 3) 2 1 0) 2 2 160000) 2) (1 : Int) (100000 : Int) (3 : Int) (164999 : Int) → v11 = (hidF tkI) (shA (setA (setA (setA (setA (setA (setA (setA (setA (setA zA 0 0 1) 0 1 0) 0 2 0) 1 0 2) 1 1 0) 1 2 10) 2 0 3) 2 1 0) 2 2 160000) 2) (1 : Int) (100000 : Int) (3 : Int) (164999 : Int) 0 → v12 = (hidF tkI) (shA (setA (setA (setA (setA (setA (setA (setA (setA (setA zA 0 0 1) 0 1 0) 0 2 0) 1 0 2) 1 1 0) 1 2 10) 2 0 3) 2 1 0) 2 2 160000) 2) (1 : Int) (100000 : Int) (3 : Int) (164999 : Int) 1 → v13 = (hidF tkI) (shA (setA (setA (setA (setA (setA (setA (setA (setA (setA zA 0 0 1) 0 1 0) 0 2 0) 1 0 2) 1 1 0) 1 2 10) 2 0 3) 2 1 0) 2 2 160000) 2) (1 : Int) (100000 : Int) (3 : Int) (164999 : Int) 2 → v14 = decide ((hidF tkG) (shA (setA (setA (setA (setA (setA (setA (setA (setA (setA zA 0 0 1) 0 1 0) 0 2 0) 1 0 2) 1 1 0) 1 2 10) 2 0 3) 2 1 0) 2 2 160000) 2) (1 : Int) (100000 : Int) (3 : Int) (164999 : Int) = 1) → v15 = (shA (setA (setA (setA (setA (setA (setA (setA (setA (setA zA 0 0 1) 0 1 0) 0 2 0) 1 0 2) 1 1 0) 1 2 10) 2 0 3) 2 1 0) 2 2 160000) 2) → v16 = (hidF tkD) (shA (setA (setA (setA (setA (setA (setA (setA (setA (setA zA 0 0 1) 0 1 0) 0 2 0) 1 0 2) 1 1 0) 1 2 10) 2 0 3) 2 1 0) 2 2 160000) 2) (1 : Int) (100000 : Int) (3 : Int) (164999 : Int) → v17 = (hidF asE) (shA (setA (setA (setA (setA (setA (setA (setA (setA (setA zA 0 0 1) 0 1 0) 0 2 0) 1 0 2) 1 1 0) 1 2 10) 2 0 3) 2 1 0) 2 2 160000) 2) (1 : Int) (100000 : Int) (3 : Int) (164999 : Int) → 
  (v1 ≤ 9223372036854775807 →
  (0 ≤ v8 →
  (0 ≤ v16 →
  (v5 ≤ 9223372036854775807 →
  (¬ ((v6 = 0 ∧ v5 = 1)) ∨ 0 < v5) ∧ ((¬ ((v6 = 0 ∧ v5 = 1)) ∨ 0 < v5) →
  (¬ ((v6 = 0 ∧ v5 = 1)) ∨ 0 < v5) ∧ ((¬ ((v6 = 0 ∧ v5 = 1)) ∨ 0 < v5) →
  (((((((((((v6 = 0 ∧ v5 = 1) ∧ (v4 0 0) = 1) ∧ v1 = 2) ∧ v2 = 100000) ∧ v3 = 3) ∧ v17 = 0) ∧ v14 = true) ∧ v11 = 3) ∧ v16 = 0) → True)) ∧ (∀ (v18 : Bool), v18 = ((hidF smI) v7 v8 zA (0 : Int) && decide (v9 = (0 : Int) ∧ v10 = (0 : Int))) → 
  (v8 ≤ 9223372036854775807 →
  (v16 ≤ 9223372036854775807 →
  (((((((((((v6 = 0 ∧ v5 = 1) ∧ (v4 0 0) = 1) ∧ v1 = 2) ∧ v2 = 100000) ∧ v3 = 3) ∧ v17 = 0) ∧ v14 = true) ∧ v11 = 3) ∧ v16 = 0) ∧ v18 = true) ↔ true = true) ∧ True)))))))))))))
def VC14 : Prop :=
  (True) →
  (True) ∧ (∀ (v0 : Int → Nat → Int) (v1 : Int) (v2 : Int) (v3 : Int) (v4 : Int → Nat → Int) (v5 : Int) (v6 : Int), v0 = shA (setA (setA (setA (setA (setA (setA (setA (setA (setA zA 0 0 1) 0 1 0) 0 2 0) 1 0 2) 1 1 0) 1 2 10) 2 0 3) 2 1 0) 2 2 160000) (agD (setA (setA (setA (setA (setA (setA (setA (setA (setA zA 0 0 1) 0 1 0) 0 2 0) 1 0 2) 1 1 0) 1 2 10) 2 0 3) 2 1 0) 2 2 160000) (3 : Int) (160000 : Int) (159990 : Int)) → v1 = agN (setA (setA (setA (setA (setA (setA (setA (setA (setA zA 0 0 1) 0 1 0) 0 2 0) 1 0 2) 1 1 0) 1 2 10) 2 0 3) 2 1 0) 2 2 160000) (3 : Int) (100000 : Int) (3 : Int) (160000 : Int) (159990 : Int) → v2 = agU (setA (setA (setA (setA (setA (setA (setA (setA (setA zA 0 0 1) 0 1 0) 0 2 0) 1 0 2) 1 1 0) 1 2 10) 2 0 3) 2 1 0) 2 2 160000) (3 : Int) (100000 : Int) (3 : Int) (160000 : Int) (159990 : Int) → v3 = agK (setA (setA (setA (setA (setA (setA (setA (setA (setA zA 0 0 1) 0 1 0) 0 2 0) 1 0 2) 1 1 0) 1 2 10) 2 0 3) 2 1 0) 2 2 160000) (3 : Int) (100000 : Int) (3 : Int) (160000 : Int) (159990 : Int) → v4 = (setA (setA (setA (setA (setA (setA (setA (setA (setA zA 0 0 1) 0 1 0) 0 2 0) 1 0 2) 1 1 0) 1 2 10) 2 0 3) 2 1 0) 2 2 160000) → v5 = agC (setA (setA (setA (setA (setA (setA (setA (setA (setA zA 0 0 1) 0 1 0) 0 2 0) 1 0 2) 1 1 0) 1 2 10) 2 0 3) 2 1 0) 2 2 160000) (3 : Int) (100000 : Int) (3 : Int) (160000 : Int) (159990 : Int) → v6 = agE (setA (setA (setA (setA (setA (setA (setA (setA (setA zA 0 0 1) 0 1 0) 0 2 0) 1 0 2) 1 1 0) 1 2 10) 2 0 3) 2 1 0) 2 2 160000) (3 : Int) (100000 : Int) (3 : Int) (160000 : Int) (159990 : Int) → 
  (0 ≤ v1 →
  (0 ≤ v5 →
  (True) ∧ (∀ (v7 : Int → Nat → Int) (v8 : Int) (v9 : Int) (v10 : Int) (v11 : Int) (v12 : Int) (v13 : Int) (v14 : Bool) (v15 : Int → Nat → Int) (v16 : Int) (v17 : Int), v7 = shA (shA (setA (setA (setA (setA (setA (setA (setA (setA (setA zA 0 0 1) 0 1 0) 0 2 0) 1 0 2) 1 1 0) 1 2 10) 2 0 3) 2 1 0) 2 2 160000) 2) (tkD (shA (setA (setA (setA (setA (setA (setA (setA (setA (setA zA 0 0 1) 0 1 0) 0 2 0) 1 0 2) 1 1 0) 1 2 10) 2 0 3) 2 1 0) 2 2 160000) 2) (1 : Int) (100000 : Int) (3 : Int) (164999 : Int) + 1) → v8 = tkN (shA (setA (setA (setA (setA (setA (setA (setA (setA (setA zA 0 0 1) 0 1 0) 0 2 0) 1 0 2) 1 1 0) 1 2 10) 2 0 3) 2 1 0) 2 2 160000) 2) (1 : Int) (100000 : Int) (3 : Int) (164999 : Int) → v9 = tkU (shA (setA (setA (setA (setA (setA (setA (setA (setA (setA zA 0 0 1) 0 1 0) 0 2 0) 1 0 2) 1 1 0) 1 2 10) 2 0 3) 2 1 0) 2 2 160000) 2) (1 : Int) (100000 : Int) (3 : Int) (164999 : Int) → v10 = tkK (shA (setA (setA (setA (setA (setA (setA (setA (setA (setA zA 0 0 1) 0 1 0) 0 2 0) 1 0 2) 1 1 0) 1 2 10) 2 0 3) 2 1 0) 2 2 160000) 2) (1 : Int) (100000 : Int) (3 : Int) (164999 : Int) → v11 = tkI (shA (setA (setA (setA (setA (setA (setA (setA (setA (setA zA 0 0 1) 0 1 0) 0 2 0) 1 0 2) 1 1 0) 1 2 10) 2 0 3) 2 1 0) 2 2 160000) 2) (1 : Int) (100000 : Int) (3 : Int) (164999 : Int) 0 → v12 = tkI (shA (setA (setA (setA (setA (setA (setA (setA (setA (setA zA 0 0 1) 0 1 0) 0 2 0) 1 0 2) 1 1 0) 1 2 10) 2 0 3) 2 1 0) 2 2 160000) 2) (1 : Int) (100000 : Int) (3 : Int) (164999 : Int) 1 → v13 = tkI (shA (setA (setA (setA (setA (setA (setA (setA (setA (setA zA 0 0 1) 0 1 0) 0 2 0) 1 0 2) 1 1 0) 1 2 10) 2 0 3) 2 1 0) 2 2 160000) 2) (1 : Int) (100000 : Int) (3 : Int) (164999 : Int) 2 → v14 = decide (tkG (shA (setA (setA (setA (setA (setA (setA (setA (setA (setA zA 0 0 1) 0 1 0) 0 2 0) 1 0 2) 1 1 0) 1 2 10) 2 0 3) 2 1 0) 2 2 160000) 2) (1 : Int) (100000 : Int) (3 : Int) (164999 : Int) = 1) → v15 = (shA (setA (setA (setA (setA (setA (setA (setA (setA (setA zA 0 0 1) 0 1 0) 0 2 0) 1 0 2) 1 1 0) 1 2 10) 2 0 3) 2 1 0) 2 2 160000) 2) → v16 = tkD (shA (setA (setA (setA (setA (setA (setA (setA (setA (setA zA 0 0 1) 0 1 0) 0 2 0) 1 0 2) 1 1 0) 1 2 10) 2 0 3) 2 1 0) 2 2 160000) 2) (1 : Int) (100000 : Int) (3 : Int) (164999 : Int) → v17 = asE (shA (setA (setA (setA (setA (setA (setA (setA (setA (setA zA 0 0 1) 0 1 0) 0 2 0) 1 0 2) 1 1 0) 1 2 10) 2 0 3) 2 1 0) 2 2 160000) 2) (1 : Int) (100000 : Int) (3 : Int) (164999 : Int) → 
  (v1 ≤ 9223372036854775807 →
  (0 ≤ v8 →
  (0 ≤ v16 →
  (v5 ≤ 9223372036854775807 →
  (¬ ((v6 = 0 ∧ v5 = 1)) ∨ 0 < v5) ∧ ((¬ ((v6 = 0 ∧ v5 = 1)) ∨ 0 < v5) →
  (¬ ((v6 = 0 ∧ v5 = 1)) ∨ 0 < v5) ∧ ((¬ ((v6 = 0 ∧ v5 = 1)) ∨ 0 < v5) →
  (((((((((((v6 = 0 ∧ v5 = 1) ∧ (v4 0 0) = 1) ∧ v1 = 2) ∧ v2 = 100000) ∧ v3 = 3) ∧ v17 = 0) ∧ v14 = true) ∧ v11 = 3) ∧ v16 = 0) → True)) ∧ (∀ (v18 : Bool), v18 = (smI v7 v8 zA (0 : Int) && decide (v9 = (0 : Int) ∧ v10 = (0 : Int))) → 
  (v8 ≤ 9223372036854775807 →
  (v16 ≤ 9223372036854775807 →
  (((((((((((v6 = 0 ∧ v5 = 1) ∧ (v4 0 0) = 1) ∧ v1 = 2) ∧ v2 = 100000) ∧ v3 = 3) ∧ v17 = 0) ∧ v14 = true) ∧ v11 = 3) ∧ v16 = 0) ∧ v18 = true) ↔ true = true) ∧ True)))))))))))))
theorem vh14 (h : VC14) : VH14 := by
  unfold VH14
  rw [hidF_eq agC, hidF_eq agD, hidF_eq agE, hidF_eq agK, hidF_eq agN, hidF_eq agU, hidF_eq asE, hidF_eq smI, hidF_eq tkD, hidF_eq tkG, hidF_eq tkI, hidF_eq tkK, hidF_eq tkN, hidF_eq tkU]
  exact h
end Go.Proofs.Ytjlljcencbppcaa
