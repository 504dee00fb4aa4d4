/- What the functions do, and what is left to show of each. -/
import Derived.Test.YtccmgepknjkakaaC
set_option linter.unusedVariables false
namespace Go.Proofs.Ytccmgepknjkakaa
open Go Go.RowKit Go.Proofs.Ytccmgepknjkakaa.Vc
/-! hotspotlaw44.AirtimeAlone -/
def sig5 : CSig := ⟨[⟨true, [.slc [.int .i64, .int .i64], .int .i64]⟩, ⟨false, [.int .i64]⟩, ⟨false, [.slc [.int .i64]]⟩], [⟨false, [.bool]⟩]⟩
def pre5 : List AV → Prop
  | [.a v0, .i v1, .i v2, .i v3, .a v4, .i v5] => True
  | _ => False
noncomputable def raw5 : List AV → List AV
  | [.a v0, .i v1, .i v2, .i v3, .a v4, .i v5] => [.b (true)]
  | _ => []

def VH5 : Prop :=
  ∀ (v0 : Int → Nat → Int) (v1 : Int) (v2 : Int) (v3 : Int) (v4 : Int → Nat → Int) (v5 : Int),
  (True) →
  (0 ≤ v1 →
  (0 ≤ v5 →
  (True) ∧ (∀ (v6 : Bool), v6 = true → 
  (v1 ≤ 9223372036854775807 →
  (v5 ≤ 9223372036854775807 →
  (((((40 < v1 ∨ v3 < 0) ∨ v1 ≤ v3) ∨ 200 < v5) ∨ ¬ (v6 = true)) →
    (v6 = true ↔ true = true) ∧ True) ∧
  (¬ (((((40 < v1 ∨ v3 < 0) ∨ v1 ≤ v3) ∨ 200 < v5) ∨ ¬ (v6 = true))) →
    (v1 * 24) ≤ 140737488355328 ∧ ((v1 * 24) ≤ 140737488355328 →
    0 ≤ v3 ∧ (0 ≤ v3 →
    v3 < v1 ∧ (v3 < v1 →
    (v1 ≤ 40 ∧ rwP (srL (srL zL (-1) 0) v3 v5) v1) ∧ (∀ (v7 : Int → Nat → Int) (v8 : Int) (v9 : Int → Nat → Int) (v10 : Int) (v11 : Int) (v12 : Int), v7 = (hidF ruO) v0 v1 v2 (srL (srL zL (-1) 0) v3 v5) (srF (srF zF (-1) zA) v3 v4) v1 → v8 = (hidF ruK) v0 v1 v2 (srL (srL zL (-1) 0) v3 v5) (srF (srF zF (-1) zA) v3 v4) v1 → v9 = (hidF ruA) v0 v1 v2 (srL (srL zL (-1) 0) v3 v5) (srF (srF zF (-1) zA) v3 v4) v1 → v10 = (hidF ruN) v0 v1 v2 (srL (srL zL (-1) 0) v3 v5) (srF (srF zF (-1) zA) v3 v4) v1 v1 → v11 = (hidF ruT) v0 v1 v2 (srL (srL zL (-1) 0) v3 v5) (srF (srF zF (-1) zA) v3 v4) v1 → v12 = (hidF ruE) v0 v1 v2 (srL (srL zL (-1) 0) v3 v5) (srF (srF zF (-1) zA) v3 v4) v1 → 
    (0 ≤ v8 →
    (0 ≤ v10 →
    (v10 ≤ 9223372036854775807 →
    (v8 ≤ 9223372036854775807 →
    (¬ (v12 = 0) →
      (v6 = true ↔ true = true) ∧ True) ∧
    (¬ (¬ (v12 = 0)) →
      ((¬ (v8 = v5) ∨ ¬ (v10 = v1)) →
        (False ↔ true = true) ∧ True) ∧
      (¬ ((¬ (v8 = v5) ∨ ¬ (v10 = v1))) →
        ∃ (I0 : (Int) → Prop) (μ0 : (Int) → Nat), I0 (0 : Int) ∧ (∀ (v13 : Int), I0 v13 →
          (v13 < v8 →
            0 ≤ v13 ∧ (0 ≤ v13 →
            (¬ ((v7 v13 0) = v3) →
              (False ↔ true = true) ∧ True) ∧
            (¬ (¬ ((v7 v13 0) = v3)) →
              (-9223372036854775808 ≤ (v13 + 1) ∧ (v13 + 1) ≤ 9223372036854775807) ∧ ((-9223372036854775808 ≤ (v13 + 1) ∧ (v13 + 1) ≤ 9223372036854775807) →
              I0 (v13 + 1) ∧ μ0 (v13 + 1) < μ0 v13)))) ∧
          (¬ (v13 < v8) →
            ∃ (I1 : (Int) → Prop) (μ1 : (Int) → Nat), I1 (0 : Int) ∧ (∀ (v14 : Int), I1 v14 →
              (v14 < v1 →
                (v14 = v3 ∨ 0 ≤ v14) ∧ ((v14 = v3 ∨ 0 ≤ v14) →
                (v14 = v3 ∨ v14 < v10) ∧ ((v14 = v3 ∨ v14 < v10) →
                (v14 = v3 ∨ 0 ≤ v14) ∧ ((v14 = v3 ∨ 0 ≤ v14) →
                (v14 = v3 ∨ v14 < v10) ∧ ((v14 = v3 ∨ v14 < v10) →
                (v14 = v3 ∨ 0 ≤ v14) ∧ ((v14 = v3 ∨ 0 ≤ v14) →
                (v14 = v3 ∨ 0 ≤ v14) ∧ ((v14 = v3 ∨ 0 ≤ v14) →
                ((¬ (v14 = v3) ∧ (max (v0 v14 1) 0) < (v9 v14 1)) →
                  (False ↔ true = true) ∧ True) ∧
                (¬ ((¬ (v14 = v3) ∧ (max (v0 v14 1) 0) < (v9 v14 1))) →
                  (-9223372036854775808 ≤ (v14 + 1) ∧ (v14 + 1) ≤ 9223372036854775807) ∧ ((-9223372036854775808 ≤ (v14 + 1) ∧ (v14 + 1) ≤ 9223372036854775807) →
                  I1 (v14 + 1) ∧ μ1 (v14 + 1) < μ1 v14))))))))) ∧
              (¬ (v14 < v1) →
                (v6 = true ↔ true = true) ∧ True))))))))))))))))))))
def VC5 : Prop :=
  ∀ (v0 : Int → Nat → Int) (v1 : Int) (v2 : Int) (v3 : Int) (v4 : Int → Nat → Int) (v5 : Int),
  (True) →
  (0 ≤ v1 →
  (0 ≤ v5 →
  (True) ∧ (∀ (v6 : Bool), v6 = true → 
  (v1 ≤ 9223372036854775807 →
  (v5 ≤ 9223372036854775807 →
  (((((40 < v1 ∨ v3 < 0) ∨ v1 ≤ v3) ∨ 200 < v5) ∨ ¬ (v6 = true)) →
    (v6 = true ↔ true = true) ∧ True) ∧
  (¬ (((((40 < v1 ∨ v3 < 0) ∨ v1 ≤ v3) ∨ 200 < v5) ∨ ¬ (v6 = true))) →
    (v1 * 24) ≤ 140737488355328 ∧ ((v1 * 24) ≤ 140737488355328 →
    0 ≤ v3 ∧ (0 ≤ v3 →
    v3 < v1 ∧ (v3 < v1 →
    (v1 ≤ 40 ∧ rwP (srL (srL zL (-1) 0) v3 v5) v1) ∧ (∀ (v7 : Int → Nat → Int) (v8 : Int) (v9 : Int → Nat → Int) (v10 : Int) (v11 : Int) (v12 : Int), v7 = ruO v0 v1 v2 (srL (srL zL (-1) 0) v3 v5) (srF (srF zF (-1) zA) v3 v4) v1 → v8 = ruK v0 v1 v2 (srL (srL zL (-1) 0) v3 v5) (srF (srF zF (-1) zA) v3 v4) v1 → v9 = ruA v0 v1 v2 (srL (srL zL (-1) 0) v3 v5) (srF (srF zF (-1) zA) v3 v4) v1 → v10 = ruN v0 v1 v2 (srL (srL zL (-1) 0) v3 v5) (srF (srF zF (-1) zA) v3 v4) v1 v1 → v11 = ruT v0 v1 v2 (srL (srL zL (-1) 0) v3 v5) (srF (srF zF (-1) zA) v3 v4) v1 → v12 = ruE v0 v1 v2 (srL (srL zL (-1) 0) v3 v5) (srF (srF zF (-1) zA) v3 v4) v1 → 
    (0 ≤ v8 →
    (0 ≤ v10 →
    (v10 ≤ 9223372036854775807 →
    (v8 ≤ 9223372036854775807 →
    (¬ (v12 = 0) →
      (v6 = true ↔ true = true) ∧ True) ∧
    (¬ (¬ (v12 = 0)) →
      ((¬ (v8 = v5) ∨ ¬ (v10 = v1)) →
        (False ↔ true = true) ∧ True) ∧
      (¬ ((¬ (v8 = v5) ∨ ¬ (v10 = v1))) →
        ∃ (I0 : (Int) → Prop) (μ0 : (Int) → Nat), I0 (0 : Int) ∧ (∀ (v13 : Int), I0 v13 →
          (v13 < v8 →
            0 ≤ v13 ∧ (0 ≤ v13 →
            (¬ ((v7 v13 0) = v3) →
              (False ↔ true = true) ∧ True) ∧
            (¬ (¬ ((v7 v13 0) = v3)) →
              (-9223372036854775808 ≤ (v13 + 1) ∧ (v13 + 1) ≤ 9223372036854775807) ∧ ((-9223372036854775808 ≤ (v13 + 1) ∧ (v13 + 1) ≤ 9223372036854775807) →
              I0 (v13 + 1) ∧ μ0 (v13 + 1) < μ0 v13)))) ∧
          (¬ (v13 < v8) →
            ∃ (I1 : (Int) → Prop) (μ1 : (Int) → Nat), I1 (0 : Int) ∧ (∀ (v14 : Int), I1 v14 →
              (v14 < v1 →
                (v14 = v3 ∨ 0 ≤ v14) ∧ ((v14 = v3 ∨ 0 ≤ v14) →
                (v14 = v3 ∨ v14 < v10) ∧ ((v14 = v3 ∨ v14 < v10) →
                (v14 = v3 ∨ 0 ≤ v14) ∧ ((v14 = v3 ∨ 0 ≤ v14) →
                (v14 = v3 ∨ v14 < v10) ∧ ((v14 = v3 ∨ v14 < v10) →
                (v14 = v3 ∨ 0 ≤ v14) ∧ ((v14 = v3 ∨ 0 ≤ v14) →
                (v14 = v3 ∨ 0 ≤ v14) ∧ ((v14 = v3 ∨ 0 ≤ v14) →
                ((¬ (v14 = v3) ∧ (max (v0 v14 1) 0) < (v9 v14 1)) →
                  (False ↔ true = true) ∧ True) ∧
                (¬ ((¬ (v14 = v3) ∧ (max (v0 v14 1) 0) < (v9 v14 1))) →
                  (-9223372036854775808 ≤ (v14 + 1) ∧ (v14 + 1) ≤ 9223372036854775807) ∧ ((-9223372036854775808 ≤ (v14 + 1) ∧ (v14 + 1) ≤ 9223372036854775807) →
                  I1 (v14 + 1) ∧ μ1 (v14 + 1) < μ1 v14))))))))) ∧
              (¬ (v14 < v1) →
                (v6 = true ↔ true = true) ∧ True))))))))))))))))))))
theorem vh5 (h : VC5) : VH5 := by
  unfold VH5
  rw [hidF_eq ruA, hidF_eq ruE, hidF_eq ruK, hidF_eq ruN, hidF_eq ruO, hidF_eq ruT]
  exact h
end Go.Proofs.Ytccmgepknjkakaa
