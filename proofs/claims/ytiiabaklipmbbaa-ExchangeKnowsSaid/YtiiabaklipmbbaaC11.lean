/- What the functions do, and what is left to show of each. -/
import Derived.Test.YtiiabaklipmbbaaC
set_option linter.unusedVariables false
namespace Go.Proofs.Ytiiabaklipmbbaa
open Go Go.RowKit Go.Proofs.Ytiiabaklipmbbaa.Vc
/-! hotspotlaw15.ExchangeKnows -/
def sig6 : CSig := ⟨[⟨true, [.int .u8, .int .u8, .int .i64, .slc [.int .i64], .int .i64, .int .i64, .int .i64, .int .i64, .int .i64]⟩, ⟨false, [.slc [.bool]]⟩], [⟨false, [.bool]⟩]⟩
def pre6 : List AV → Prop
  | [.i v0, .i v1, .i v2, .a v3, .i v4, .i v5, .i v6, .i v7, .i v8, .i v9, .a v10, .i v11] => 0 ≤ v1
  | _ => False
noncomputable def raw6 : List AV → List AV
  | [.i v0, .i v1, .i v2, .a v3, .i v4, .i v5, .i v6, .i v7, .i v8, .i v9, .a v10, .i v11] => [.b (true)]
  | _ => []

def VH6 : Prop :=
  ∀ (v0 : Int) (v1 : Int) (v2 : Int) (v3 : Int → Nat → Int) (v4 : Int) (v5 : Int) (v6 : Int) (v7 : Int) (v8 : Int) (v9 : Int) (v10 : Int → Nat → Int) (v11 : Int),
  (0 ≤ v1) →
  (0 ≤ v4 →
  (0 ≤ v11 →
  (True) ∧ (∀ (v12 : Bool), v12 = true → 
  (v4 ≤ 9223372036854775807 →
  (v11 ≤ 9223372036854775807 →
  (((20 < v4 ∨ 200 < v11) ∨ ¬ (v12 = true)) →
    (v12 = true ↔ true = true) ∧ True) ∧
  (¬ (((20 < v4 ∨ 200 < v11) ∨ ¬ (v12 = true))) →
    (True) ∧ (∀ (v13 : Int → Nat → Int) (v14 : Int) (v15 : Int), v13 = exRow (Xc.mk v0 v1 v2 v3 v4 v5 v6 v7 v8 v9) (plN (Xc.mk v0 v1 v2 v3 v4 v5 v6 v7 v8 v9)) → v14 = plL (Xc.mk v0 v1 v2 v3 v4 v5 v6 v7 v8 v9) → v15 = plE (Xc.mk v0 v1 v2 v3 v4 v5 v6 v7 v8 v9) → 
    (0 ≤ v14 →
    (v14 ≤ 9223372036854775807 →
    (¬ (v15 = 0) →
      (v12 = true ↔ true = true) ∧ True) ∧
    (¬ (¬ (v15 = 0)) →
      (pyP v13 v14) ∧ (∀ (v16 : Int) (v17 : Int → Nat → Int) (v18 : Int) (v19 : Int → Nat → Int) (v20 : Int), v16 = (hidF pyS) v13 v14 v10 v11 → v17 = (hidF pyG) v13 v14 v10 v11 → v18 = (hidF pyN) v13 v14 v10 v11 → v19 = (hidF pyK) v13 v14 v10 v11 → v20 = (hidF pyM) v13 v14 v10 v11 → 
      (0 ≤ v18 →
      (0 ≤ v20 →
      (v18 ≤ 9223372036854775807 →
      (v20 ≤ 9223372036854775807 →
      ((v16 < 1 ∨ v14 < v16) →
        (False ↔ true = true) ∧ True) ∧
      (¬ ((v16 < 1 ∨ v14 < v16)) →
        ∃ (I0 : (Int) → Prop) (μ0 : (Int) → Nat), I0 (0 : Int) ∧ (∀ (v21 : Int), I0 v21 →
          (v21 < v20 →
            0 ≤ v21 ∧ (0 ≤ v21 →
            (True) ∧ (∀ (v22 : Bool), v22 = (hidF inA) v17 v18 (v19 v21 0) → 
            (¬ (v22 = true) →
              (False ↔ true = true) ∧ True) ∧
            (¬ (¬ (v22 = true)) →
              (-9223372036854775808 ≤ (v21 + 1) ∧ (v21 + 1) ≤ 9223372036854775807) ∧ ((-9223372036854775808 ≤ (v21 + 1) ∧ (v21 + 1) ≤ 9223372036854775807) →
              I0 (v21 + 1) ∧ μ0 (v21 + 1) < μ0 v21))))) ∧
          (¬ (v21 < v20) →
            ∃ (I1 : (Int) → Prop) (μ1 : (Int) → Nat), I1 (0 : Int) ∧ (∀ (v22 : Int), I1 v22 →
              (v22 < v14 →
                (¬ (v22 < v11) ∨ 0 ≤ v22) ∧ ((¬ (v22 < v11) ∨ 0 ≤ v22) →
                (¬ (v22 < v11) ∨ 0 ≤ v22) ∧ ((¬ (v22 < v11) ∨ 0 ≤ v22) →
                0 ≤ v22 ∧ (0 ≤ v22 →
                (((v13 v22 0) = 4 → True)) ∧ (∀ (v23 : Bool), v23 = (hidF inA) v17 v18 (v13 v22 2) → 
                (((v13 v22 0) = 4 ∧ ¬ (((v23 = true ∧ (v22 < v16 ∧ ¬ ((v22 < v11 ∧ ¬ ((v10 v22 0) = 0))))) ∨ (¬ (v23 = true) ∧ ¬ ((v22 < v16 ∧ ¬ ((v22 < v11 ∧ ¬ ((v10 v22 0) = 0))))))))) →
                  (False ↔ true = true) ∧ True) ∧
                (¬ (((v13 v22 0) = 4 ∧ ¬ (((v23 = true ∧ (v22 < v16 ∧ ¬ ((v22 < v11 ∧ ¬ ((v10 v22 0) = 0))))) ∨ (¬ (v23 = true) ∧ ¬ ((v22 < v16 ∧ ¬ ((v22 < v11 ∧ ¬ ((v10 v22 0) = 0)))))))))) →
                  (((((v13 v22 0) = 1 ∨ (v13 v22 0) = 2) ∧ (v22 < v11 ∧ ¬ ((v10 v22 0) = 0))) ∧ (0 < v18 ∨ 2 < v16)) →
                    (False ↔ true = true) ∧ True) ∧
                  (¬ (((((v13 v22 0) = 1 ∨ (v13 v22 0) = 2) ∧ (v22 < v11 ∧ ¬ ((v10 v22 0) = 0))) ∧ (0 < v18 ∨ 2 < v16))) →
                    (-9223372036854775808 ≤ (v22 + 1) ∧ (v22 + 1) ≤ 9223372036854775807) ∧ ((-9223372036854775808 ≤ (v22 + 1) ∧ (v22 + 1) ≤ 9223372036854775807) →
                    I1 (v22 + 1) ∧ μ1 (v22 + 1) < μ1 v22)))))))) ∧
              (¬ (v22 < v14) →
                (pyP v13 v14) ∧ (∀ (v23 : Int) (v24 : Int → Nat → Int) (v25 : Int) (v26 : Int → Nat → Int) (v27 : Int), v23 = (hidF pyS) v13 v14 zA (0 : Int) → v24 = (hidF pyG) v13 v14 zA (0 : Int) → v25 = (hidF pyN) v13 v14 zA (0 : Int) → v26 = (hidF pyK) v13 v14 zA (0 : Int) → v27 = (hidF pyM) v13 v14 zA (0 : Int) → 
                (0 ≤ v25 →
                (0 ≤ v27 →
                (True) ∧ (∀ (v28 : Int), v28 = ctA v13 v14 (4 : Int) → 
                (v25 ≤ 9223372036854775807 →
                (v27 ≤ 9223372036854775807 →
                (v1 = 1 →
                  ((((v12 = true ∧ v23 = v14) ∧ v25 = v28) ∧ v27 = 0) ↔ true = true) ∧ True) ∧
                (¬ (v1 = 1) →
                  ((((v12 = true ∧ v23 = v14) ∧ v25 = v28) ∧ v27 = v28) ↔ true = true) ∧ True)))))))))))))))))))))))))))
def VC6 : Prop :=
  ∀ (v0 : Int) (v1 : Int) (v2 : Int) (v3 : Int → Nat → Int) (v4 : Int) (v5 : Int) (v6 : Int) (v7 : Int) (v8 : Int) (v9 : Int) (v10 : Int → Nat → Int) (v11 : Int),
  (0 ≤ v1) →
  (0 ≤ v4 →
  (0 ≤ v11 →
  (True) ∧ (∀ (v12 : Bool), v12 = true → 
  (v4 ≤ 9223372036854775807 →
  (v11 ≤ 9223372036854775807 →
  (((20 < v4 ∨ 200 < v11) ∨ ¬ (v12 = true)) →
    (v12 = true ↔ true = true) ∧ True) ∧
  (¬ (((20 < v4 ∨ 200 < v11) ∨ ¬ (v12 = true))) →
    (True) ∧ (∀ (v13 : Int → Nat → Int) (v14 : Int) (v15 : Int), v13 = exRow (Xc.mk v0 v1 v2 v3 v4 v5 v6 v7 v8 v9) (plN (Xc.mk v0 v1 v2 v3 v4 v5 v6 v7 v8 v9)) → v14 = plL (Xc.mk v0 v1 v2 v3 v4 v5 v6 v7 v8 v9) → v15 = plE (Xc.mk v0 v1 v2 v3 v4 v5 v6 v7 v8 v9) → 
    (0 ≤ v14 →
    (v14 ≤ 9223372036854775807 →
    (¬ (v15 = 0) →
      (v12 = true ↔ true = true) ∧ True) ∧
    (¬ (¬ (v15 = 0)) →
      (pyP v13 v14) ∧ (∀ (v16 : Int) (v17 : Int → Nat → Int) (v18 : Int) (v19 : Int → Nat → Int) (v20 : Int), v16 = pyS v13 v14 v10 v11 → v17 = pyG v13 v14 v10 v11 → v18 = pyN v13 v14 v10 v11 → v19 = pyK v13 v14 v10 v11 → v20 = pyM v13 v14 v10 v11 → 
      (0 ≤ v18 →
      (0 ≤ v20 →
      (v18 ≤ 9223372036854775807 →
      (v20 ≤ 9223372036854775807 →
      ((v16 < 1 ∨ v14 < v16) →
        (False ↔ true = true) ∧ True) ∧
      (¬ ((v16 < 1 ∨ v14 < v16)) →
        ∃ (I0 : (Int) → Prop) (μ0 : (Int) → Nat), I0 (0 : Int) ∧ (∀ (v21 : Int), I0 v21 →
          (v21 < v20 →
            0 ≤ v21 ∧ (0 ≤ v21 →
            (True) ∧ (∀ (v22 : Bool), v22 = inA v17 v18 (v19 v21 0) → 
            (¬ (v22 = true) →
              (False ↔ true = true) ∧ True) ∧
            (¬ (¬ (v22 = true)) →
              (-9223372036854775808 ≤ (v21 + 1) ∧ (v21 + 1) ≤ 9223372036854775807) ∧ ((-9223372036854775808 ≤ (v21 + 1) ∧ (v21 + 1) ≤ 9223372036854775807) →
              I0 (v21 + 1) ∧ μ0 (v21 + 1) < μ0 v21))))) ∧
          (¬ (v21 < v20) →
            ∃ (I1 : (Int) → Prop) (μ1 : (Int) → Nat), I1 (0 : Int) ∧ (∀ (v22 : Int), I1 v22 →
              (v22 < v14 →
                (¬ (v22 < v11) ∨ 0 ≤ v22) ∧ ((¬ (v22 < v11) ∨ 0 ≤ v22) →
                (¬ (v22 < v11) ∨ 0 ≤ v22) ∧ ((¬ (v22 < v11) ∨ 0 ≤ v22) →
                0 ≤ v22 ∧ (0 ≤ v22 →
                (((v13 v22 0) = 4 → True)) ∧ (∀ (v23 : Bool), v23 = inA v17 v18 (v13 v22 2) → 
                (((v13 v22 0) = 4 ∧ ¬ (((v23 = true ∧ (v22 < v16 ∧ ¬ ((v22 < v11 ∧ ¬ ((v10 v22 0) = 0))))) ∨ (¬ (v23 = true) ∧ ¬ ((v22 < v16 ∧ ¬ ((v22 < v11 ∧ ¬ ((v10 v22 0) = 0))))))))) →
                  (False ↔ true = true) ∧ True) ∧
                (¬ (((v13 v22 0) = 4 ∧ ¬ (((v23 = true ∧ (v22 < v16 ∧ ¬ ((v22 < v11 ∧ ¬ ((v10 v22 0) = 0))))) ∨ (¬ (v23 = true) ∧ ¬ ((v22 < v16 ∧ ¬ ((v22 < v11 ∧ ¬ ((v10 v22 0) = 0)))))))))) →
                  (((((v13 v22 0) = 1 ∨ (v13 v22 0) = 2) ∧ (v22 < v11 ∧ ¬ ((v10 v22 0) = 0))) ∧ (0 < v18 ∨ 2 < v16)) →
                    (False ↔ true = true) ∧ True) ∧
                  (¬ (((((v13 v22 0) = 1 ∨ (v13 v22 0) = 2) ∧ (v22 < v11 ∧ ¬ ((v10 v22 0) = 0))) ∧ (0 < v18 ∨ 2 < v16))) →
                    (-9223372036854775808 ≤ (v22 + 1) ∧ (v22 + 1) ≤ 9223372036854775807) ∧ ((-9223372036854775808 ≤ (v22 + 1) ∧ (v22 + 1) ≤ 9223372036854775807) →
                    I1 (v22 + 1) ∧ μ1 (v22 + 1) < μ1 v22)))))))) ∧
              (¬ (v22 < v14) →
                (pyP v13 v14) ∧ (∀ (v23 : Int) (v24 : Int → Nat → Int) (v25 : Int) (v26 : Int → Nat → Int) (v27 : Int), v23 = pyS v13 v14 zA (0 : Int) → v24 = pyG v13 v14 zA (0 : Int) → v25 = pyN v13 v14 zA (0 : Int) → v26 = pyK v13 v14 zA (0 : Int) → v27 = pyM v13 v14 zA (0 : Int) → 
                (0 ≤ v25 →
                (0 ≤ v27 →
                (True) ∧ (∀ (v28 : Int), v28 = ctA v13 v14 (4 : Int) → 
                (v25 ≤ 9223372036854775807 →
                (v27 ≤ 9223372036854775807 →
                (v1 = 1 →
                  ((((v12 = true ∧ v23 = v14) ∧ v25 = v28) ∧ v27 = 0) ↔ true = true) ∧ True) ∧
                (¬ (v1 = 1) →
                  ((((v12 = true ∧ v23 = v14) ∧ v25 = v28) ∧ v27 = v28) ↔ true = true) ∧ True)))))))))))))))))))))))))))
theorem vh6 (h : VC6) : VH6 := by
  unfold VH6
  rw [hidF_eq inA, hidF_eq pyG, hidF_eq pyK, hidF_eq pyM, hidF_eq pyN, hidF_eq pyS]
  exact h
end Go.Proofs.Ytiiabaklipmbbaa
