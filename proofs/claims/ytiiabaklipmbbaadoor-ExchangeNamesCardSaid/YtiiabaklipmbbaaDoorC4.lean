/- What the functions do, and what is left to show of each. -/
import Derived.Test.YtiiabaklipmbbaaDoorC
set_option linter.unusedVariables false
namespace Go.Proofs.YtiiabaklipmbbaaDoor
open Go Go.RowKit Go.Proofs.YtiiabaklipmbbaaDoor.Vc
/-! exchange.Plan -/
def sig6 : CSig := ⟨[⟨true, [.int .u8, .int .u8, .int .i64, .slc [.int .i64], .int .i64, .int .i64, .int .i64, .int .i64, .int .i64]⟩], [⟨false, [.slc [.int .u8, .bool, .int .i64, .int .i64, .int .i64, .int .i64]]⟩, ⟨false, [.int .i64]⟩]⟩
def pre6 : List AV → Prop
  | [.i v0, .i v1, .i v2, .a v3, .i v4, .i v5, .i v6, .i v7, .i v8, .i v9] => True
  | _ => False
noncomputable def raw6 : List AV → List AV
  | [.i v0, .i v1, .i v2, .a v3, .i v4, .i v5, .i v6, .i v7, .i v8, .i v9] => [.a ((hidF exRow) (Xc.mk v0 v1 v2 v3 v4 v5 v6 v7 v8 v9) ((hidF plN) (Xc.mk v0 v1 v2 v3 v4 v5 v6 v7 v8 v9))), .i ((hidF plL) (Xc.mk v0 v1 v2 v3 v4 v5 v6 v7 v8 v9)), .i ((hidF plE) (Xc.mk v0 v1 v2 v3 v4 v5 v6 v7 v8 v9))]
  | _ => []

def VH6 : Prop :=
  ∀ (v0 : Int) (v1 : Int) (v2 : Int) (v3 : Int → Nat → Int) (v4 : Int) (v5 : Int) (v6 : Int) (v7 : Int) (v8 : Int) (v9 : Int),
  (True) →
  (0 ≤ v4 →
  (v4 ≤ 9223372036854775807 →
  ((((((2 < v0 ∨ 2 < v1) ∨ v2 < 0) ∨ 32767 < v2) ∨ v4 < 1) ∨ 16 < v4) →
    (0 : Int) = (hidF plL) (Xc.mk v0 v1 v2 v3 v4 v5 v6 v7 v8 v9) ∧ (∀ (i : Int) (f : Nat), 0 ≤ i → i < (hidF plL) (Xc.mk v0 v1 v2 v3 v4 v5 v6 v7 v8 v9) → f < 6 → zA i f = (hidF exRow) (Xc.mk v0 v1 v2 v3 v4 v5 v6 v7 v8 v9) ((hidF plN) (Xc.mk v0 v1 v2 v3 v4 v5 v6 v7 v8 v9)) i f) ∧ (2 : Int) = (hidF plE) (Xc.mk v0 v1 v2 v3 v4 v5 v6 v7 v8 v9) ∧ True) ∧
  (¬ ((((((2 < v0 ∨ 2 < v1) ∨ v2 < 0) ∨ 32767 < v2) ∨ v4 < 1) ∨ 16 < v4)) →
    ∃ (I0 : (Int) → Prop) (μ0 : (Int) → Nat), I0 (0 : Int) ∧ (∀ (v10 : Int), I0 v10 →
      (v10 < v4 →
        0 ≤ v10 ∧ (0 ≤ v10 →
        (True) ∧ (∀ (v11 : Bool), v11 = decide ((v3 v10 0) < 1 ∨ 32767 < (v3 v10 0)) → 
        (v11 = true →
          (0 : Int) = (hidF plL) (Xc.mk v0 v1 v2 v3 v4 v5 v6 v7 v8 v9) ∧ (∀ (i : Int) (f : Nat), 0 ≤ i → i < (hidF plL) (Xc.mk v0 v1 v2 v3 v4 v5 v6 v7 v8 v9) → f < 6 → zA i f = (hidF exRow) (Xc.mk v0 v1 v2 v3 v4 v5 v6 v7 v8 v9) ((hidF plN) (Xc.mk v0 v1 v2 v3 v4 v5 v6 v7 v8 v9)) i f) ∧ (2 : Int) = (hidF plE) (Xc.mk v0 v1 v2 v3 v4 v5 v6 v7 v8 v9) ∧ True) ∧
        (¬ (v11 = true) →
          (-9223372036854775808 ≤ (v10 + 1) ∧ (v10 + 1) ≤ 9223372036854775807) ∧ ((-9223372036854775808 ≤ (v10 + 1) ∧ (v10 + 1) ≤ 9223372036854775807) →
          I0 (v10 + 1) ∧ μ0 (v10 + 1) < μ0 v10))))) ∧
      (¬ (v10 < v4) →
        ∃ (I1 : (Int) → Prop) (μ1 : (Int) → Nat), I1 (0 : Int) ∧ (∀ (v11 : Int), I1 v11 →
          (v11 < 5 →
            0 ≤ v11 ∧ (0 ≤ v11 →
            (True) ∧ (∀ (v12 : Bool), v12 = decide ((if (decide (v11 = 0)) = true then (v5 : Int) else ((if (decide (v11 = 1)) = true then (v6 : Int) else ((if (decide (v11 = 2)) = true then (v7 : Int) else ((if (decide (v11 = 3)) = true then (v8 : Int) else (v9 : Int)) : Int)) : Int)) : Int)) < 1 ∨ 32767 < (if (decide (v11 = 0)) = true then (v5 : Int) else ((if (decide (v11 = 1)) = true then (v6 : Int) else ((if (decide (v11 = 2)) = true then (v7 : Int) else ((if (decide (v11 = 3)) = true then (v8 : Int) else (v9 : Int)) : Int)) : Int)) : Int))) → 
            (v12 = true →
              (0 : Int) = (hidF plL) (Xc.mk v0 v1 v2 v3 v4 v5 v6 v7 v8 v9) ∧ (∀ (i : Int) (f : Nat), 0 ≤ i → i < (hidF plL) (Xc.mk v0 v1 v2 v3 v4 v5 v6 v7 v8 v9) → f < 6 → zA i f = (hidF exRow) (Xc.mk v0 v1 v2 v3 v4 v5 v6 v7 v8 v9) ((hidF plN) (Xc.mk v0 v1 v2 v3 v4 v5 v6 v7 v8 v9)) i f) ∧ (2 : Int) = (hidF plE) (Xc.mk v0 v1 v2 v3 v4 v5 v6 v7 v8 v9) ∧ True) ∧
            (¬ (v12 = true) →
              (-9223372036854775808 ≤ (v11 + 1) ∧ (v11 + 1) ≤ 9223372036854775807) ∧ ((-9223372036854775808 ≤ (v11 + 1) ∧ (v11 + 1) ≤ 9223372036854775807) →
              I1 (v11 + 1) ∧ μ1 (v11 + 1) < μ1 v11))))) ∧
          (¬ (v11 < 5) →
            ∃ (I2 : (Int) → Prop) (μ2 : (Int) → Nat), I2 (1 : Int) ∧ (∀ (v12 : Int), I2 v12 →
              (¬ (v12 < v4) ∨ (-9223372036854775808 ≤ (v12 + 1) ∧ (v12 + 1) ≤ 9223372036854775807)) ∧ ((¬ (v12 < v4) ∨ (-9223372036854775808 ≤ (v12 + 1) ∧ (v12 + 1) ≤ 9223372036854775807)) →
              ((v12 < v4 → exOk (Xc.mk v0 v1 v2 v3 v4 v5 v6 v7 v8 v9) ∧ 1 ≤ (v12 + 1) ∧ (v12 + 1) ≤ v4)) ∧ (∀ (v13 : Int → Nat → Int) (v14 : Int), v13 = (hidF exRow) (Xc.mk v0 v1 v2 v3 v4 v5 v6 v7 v8 v9) (v12 + 1) → v14 = exL (Xc.mk v0 v1 v2 v3 v4 v5 v6 v7 v8 v9) (v12 + 1) → 
              ((v12 < v4 → lnP v13 v14)) ∧ (∀ (v15 : Int), v15 = (hidF lnA) v13 v14 → 
              ((v12 < v4 ∧ v15 ≤ v2) →
                (-9223372036854775808 ≤ (v12 + 1) ∧ (v12 + 1) ≤ 9223372036854775807) ∧ ((-9223372036854775808 ≤ (v12 + 1) ∧ (v12 + 1) ≤ 9223372036854775807) →
                I2 (v12 + 1) ∧ μ2 (v12 + 1) < μ2 v12)) ∧
              (¬ ((v12 < v4 ∧ v15 ≤ v2)) →
                (exOk (Xc.mk v0 v1 v2 v3 v4 v5 v6 v7 v8 v9) ∧ 1 ≤ v12 ∧ v12 ≤ v4) ∧ (∀ (v16 : Int → Nat → Int) (v17 : Int), v16 = (hidF exRow) (Xc.mk v0 v1 v2 v3 v4 v5 v6 v7 v8 v9) v12 → v17 = exL (Xc.mk v0 v1 v2 v3 v4 v5 v6 v7 v8 v9) v12 → 
                (0 ≤ v17 →
                (v17 ≤ 9223372036854775807 →
                0 < v17 ∧ (0 < v17 →
                (32767 < (v16 0 5) →
                  (0 : Int) = (hidF plL) (Xc.mk v0 v1 v2 v3 v4 v5 v6 v7 v8 v9) ∧ (∀ (i : Int) (f : Nat), 0 ≤ i → i < (hidF plL) (Xc.mk v0 v1 v2 v3 v4 v5 v6 v7 v8 v9) → f < 6 → zA i f = (hidF exRow) (Xc.mk v0 v1 v2 v3 v4 v5 v6 v7 v8 v9) ((hidF plN) (Xc.mk v0 v1 v2 v3 v4 v5 v6 v7 v8 v9)) i f) ∧ (4 : Int) = (hidF plE) (Xc.mk v0 v1 v2 v3 v4 v5 v6 v7 v8 v9) ∧ True) ∧
                (¬ (32767 < (v16 0 5)) →
                  v17 = (hidF plL) (Xc.mk v0 v1 v2 v3 v4 v5 v6 v7 v8 v9) ∧ (∀ (i : Int) (f : Nat), 0 ≤ i → i < (hidF plL) (Xc.mk v0 v1 v2 v3 v4 v5 v6 v7 v8 v9) → f < 6 → v16 i f = (hidF exRow) (Xc.mk v0 v1 v2 v3 v4 v5 v6 v7 v8 v9) ((hidF plN) (Xc.mk v0 v1 v2 v3 v4 v5 v6 v7 v8 v9)) i f) ∧ (0 : Int) = (hidF plE) (Xc.mk v0 v1 v2 v3 v4 v5 v6 v7 v8 v9) ∧ True)))))))))))))))))
def VC6 : Prop :=
  ∀ (v0 : Int) (v1 : Int) (v2 : Int) (v3 : Int → Nat → Int) (v4 : Int) (v5 : Int) (v6 : Int) (v7 : Int) (v8 : Int) (v9 : Int),
  (True) →
  (0 ≤ v4 →
  (v4 ≤ 9223372036854775807 →
  ((((((2 < v0 ∨ 2 < v1) ∨ v2 < 0) ∨ 32767 < v2) ∨ v4 < 1) ∨ 16 < v4) →
    (0 : Int) = plL (Xc.mk v0 v1 v2 v3 v4 v5 v6 v7 v8 v9) ∧ (∀ (i : Int) (f : Nat), 0 ≤ i → i < plL (Xc.mk v0 v1 v2 v3 v4 v5 v6 v7 v8 v9) → f < 6 → zA i f = exRow (Xc.mk v0 v1 v2 v3 v4 v5 v6 v7 v8 v9) (plN (Xc.mk v0 v1 v2 v3 v4 v5 v6 v7 v8 v9)) i f) ∧ (2 : Int) = plE (Xc.mk v0 v1 v2 v3 v4 v5 v6 v7 v8 v9) ∧ True) ∧
  (¬ ((((((2 < v0 ∨ 2 < v1) ∨ v2 < 0) ∨ 32767 < v2) ∨ v4 < 1) ∨ 16 < v4)) →
    ∃ (I0 : (Int) → Prop) (μ0 : (Int) → Nat), I0 (0 : Int) ∧ (∀ (v10 : Int), I0 v10 →
      (v10 < v4 →
        0 ≤ v10 ∧ (0 ≤ v10 →
        (True) ∧ (∀ (v11 : Bool), v11 = decide ((v3 v10 0) < 1 ∨ 32767 < (v3 v10 0)) → 
        (v11 = true →
          (0 : Int) = plL (Xc.mk v0 v1 v2 v3 v4 v5 v6 v7 v8 v9) ∧ (∀ (i : Int) (f : Nat), 0 ≤ i → i < plL (Xc.mk v0 v1 v2 v3 v4 v5 v6 v7 v8 v9) → f < 6 → zA i f = exRow (Xc.mk v0 v1 v2 v3 v4 v5 v6 v7 v8 v9) (plN (Xc.mk v0 v1 v2 v3 v4 v5 v6 v7 v8 v9)) i f) ∧ (2 : Int) = plE (Xc.mk v0 v1 v2 v3 v4 v5 v6 v7 v8 v9) ∧ True) ∧
        (¬ (v11 = true) →
          (-9223372036854775808 ≤ (v10 + 1) ∧ (v10 + 1) ≤ 9223372036854775807) ∧ ((-9223372036854775808 ≤ (v10 + 1) ∧ (v10 + 1) ≤ 9223372036854775807) →
          I0 (v10 + 1) ∧ μ0 (v10 + 1) < μ0 v10))))) ∧
      (¬ (v10 < v4) →
        ∃ (I1 : (Int) → Prop) (μ1 : (Int) → Nat), I1 (0 : Int) ∧ (∀ (v11 : Int), I1 v11 →
          (v11 < 5 →
            0 ≤ v11 ∧ (0 ≤ v11 →
            (True) ∧ (∀ (v12 : Bool), v12 = decide ((if (decide (v11 = 0)) = true then (v5 : Int) else ((if (decide (v11 = 1)) = true then (v6 : Int) else ((if (decide (v11 = 2)) = true then (v7 : Int) else ((if (decide (v11 = 3)) = true then (v8 : Int) else (v9 : Int)) : Int)) : Int)) : Int)) < 1 ∨ 32767 < (if (decide (v11 = 0)) = true then (v5 : Int) else ((if (decide (v11 = 1)) = true then (v6 : Int) else ((if (decide (v11 = 2)) = true then (v7 : Int) else ((if (decide (v11 = 3)) = true then (v8 : Int) else (v9 : Int)) : Int)) : Int)) : Int))) → 
            (v12 = true →
              (0 : Int) = plL (Xc.mk v0 v1 v2 v3 v4 v5 v6 v7 v8 v9) ∧ (∀ (i : Int) (f : Nat), 0 ≤ i → i < plL (Xc.mk v0 v1 v2 v3 v4 v5 v6 v7 v8 v9) → f < 6 → zA i f = exRow (Xc.mk v0 v1 v2 v3 v4 v5 v6 v7 v8 v9) (plN (Xc.mk v0 v1 v2 v3 v4 v5 v6 v7 v8 v9)) i f) ∧ (2 : Int) = plE (Xc.mk v0 v1 v2 v3 v4 v5 v6 v7 v8 v9) ∧ True) ∧
            (¬ (v12 = true) →
              (-9223372036854775808 ≤ (v11 + 1) ∧ (v11 + 1) ≤ 9223372036854775807) ∧ ((-9223372036854775808 ≤ (v11 + 1) ∧ (v11 + 1) ≤ 9223372036854775807) →
              I1 (v11 + 1) ∧ μ1 (v11 + 1) < μ1 v11))))) ∧
          (¬ (v11 < 5) →
            ∃ (I2 : (Int) → Prop) (μ2 : (Int) → Nat), I2 (1 : Int) ∧ (∀ (v12 : Int), I2 v12 →
              (¬ (v12 < v4) ∨ (-9223372036854775808 ≤ (v12 + 1) ∧ (v12 + 1) ≤ 9223372036854775807)) ∧ ((¬ (v12 < v4) ∨ (-9223372036854775808 ≤ (v12 + 1) ∧ (v12 + 1) ≤ 9223372036854775807)) →
              ((v12 < v4 → exOk (Xc.mk v0 v1 v2 v3 v4 v5 v6 v7 v8 v9) ∧ 1 ≤ (v12 + 1) ∧ (v12 + 1) ≤ v4)) ∧ (∀ (v13 : Int → Nat → Int) (v14 : Int), v13 = exRow (Xc.mk v0 v1 v2 v3 v4 v5 v6 v7 v8 v9) (v12 + 1) → v14 = exL (Xc.mk v0 v1 v2 v3 v4 v5 v6 v7 v8 v9) (v12 + 1) → 
              ((v12 < v4 → lnP v13 v14)) ∧ (∀ (v15 : Int), v15 = lnA v13 v14 → 
              ((v12 < v4 ∧ v15 ≤ v2) →
                (-9223372036854775808 ≤ (v12 + 1) ∧ (v12 + 1) ≤ 9223372036854775807) ∧ ((-9223372036854775808 ≤ (v12 + 1) ∧ (v12 + 1) ≤ 9223372036854775807) →
                I2 (v12 + 1) ∧ μ2 (v12 + 1) < μ2 v12)) ∧
              (¬ ((v12 < v4 ∧ v15 ≤ v2)) →
                (exOk (Xc.mk v0 v1 v2 v3 v4 v5 v6 v7 v8 v9) ∧ 1 ≤ v12 ∧ v12 ≤ v4) ∧ (∀ (v16 : Int → Nat → Int) (v17 : Int), v16 = exRow (Xc.mk v0 v1 v2 v3 v4 v5 v6 v7 v8 v9) v12 → v17 = exL (Xc.mk v0 v1 v2 v3 v4 v5 v6 v7 v8 v9) v12 → 
                (0 ≤ v17 →
                (v17 ≤ 9223372036854775807 →
                0 < v17 ∧ (0 < v17 →
                (32767 < (v16 0 5) →
                  (0 : Int) = plL (Xc.mk v0 v1 v2 v3 v4 v5 v6 v7 v8 v9) ∧ (∀ (i : Int) (f : Nat), 0 ≤ i → i < plL (Xc.mk v0 v1 v2 v3 v4 v5 v6 v7 v8 v9) → f < 6 → zA i f = exRow (Xc.mk v0 v1 v2 v3 v4 v5 v6 v7 v8 v9) (plN (Xc.mk v0 v1 v2 v3 v4 v5 v6 v7 v8 v9)) i f) ∧ (4 : Int) = plE (Xc.mk v0 v1 v2 v3 v4 v5 v6 v7 v8 v9) ∧ True) ∧
                (¬ (32767 < (v16 0 5)) →
                  v17 = plL (Xc.mk v0 v1 v2 v3 v4 v5 v6 v7 v8 v9) ∧ (∀ (i : Int) (f : Nat), 0 ≤ i → i < plL (Xc.mk v0 v1 v2 v3 v4 v5 v6 v7 v8 v9) → f < 6 → v16 i f = exRow (Xc.mk v0 v1 v2 v3 v4 v5 v6 v7 v8 v9) (plN (Xc.mk v0 v1 v2 v3 v4 v5 v6 v7 v8 v9)) i f) ∧ (0 : Int) = plE (Xc.mk v0 v1 v2 v3 v4 v5 v6 v7 v8 v9) ∧ True)))))))))))))))))
theorem vh6 (h : VC6) : VH6 := by
  unfold VH6
  rw [hidF_eq exRow, hidF_eq lnA, hidF_eq plE, hidF_eq plL, hidF_eq plN]
  exact h
end Go.Proofs.YtiiabaklipmbbaaDoor
