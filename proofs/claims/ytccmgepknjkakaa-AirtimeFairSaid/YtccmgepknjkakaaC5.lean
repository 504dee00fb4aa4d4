/- What the functions do, and what is left to show of each. -/
import Derived.Test.YtccmgepknjkakaaC
set_option linter.unusedVariables false
namespace Go.Proofs.Ytccmgepknjkakaa
open Go Go.RowKit Go.Proofs.Ytccmgepknjkakaa.Vc
/-! hotspotlaw44.alive -/
def sig15 : CSig := ⟨[], [⟨false, [.bool]⟩]⟩
def pre15 : List AV → Prop
  | [] => True
  | _ => False
noncomputable def raw15 : List AV → List AV
  | [] => [.b (true)]
  | _ => []

def VH15 : Prop :=
  (True) →
  (True ↔ true = true) ∧ True
def VC15 : Prop :=
  (True) →
  (True ↔ true = true) ∧ True
theorem vh15 (h : VC15) : VH15 := by
  unfold VH15
  exact h
/-! hotspotlaw44.AirtimePicks -/
def sig7 : CSig := ⟨[⟨true, [.slc [.int .i64, .int .i64], .int .i64]⟩, ⟨false, [.slc [.bool]]⟩], [⟨false, [.bool]⟩]⟩
def pre7 : List AV → Prop
  | [.a v0, .i v1, .i v2, .a v3, .i v4] => True
  | _ => False
noncomputable def raw7 : List AV → List AV
  | [.a v0, .i v1, .i v2, .a v3, .i v4] => [.b (true)]
  | _ => []

def VH7 : Prop :=
  ∀ (v0 : Int → Nat → Int) (v1 : Int) (v2 : Int) (v3 : Int → Nat → Int) (v4 : Int),
  (True) →
  (0 ≤ v1 →
  (0 ≤ v4 →
  (True) ∧ (∀ (v5 : Bool), v5 = true → 
  (v1 ≤ 9223372036854775807 →
  (v4 ≤ 9223372036854775807 →
  (((40 < v1 ∨ 40 < v4) ∨ ¬ (v5 = true)) →
    (v5 = true ↔ true = true) ∧ True) ∧
  (¬ (((40 < v1 ∨ 40 < v4) ∨ ¬ (v5 = true))) →
    (True) ∧ (∀ (v6 : Int) (v7 : Int → Nat → Int) (v8 : Int) (v9 : Int) (v10 : Int), v6 = (hidF pcW) v0 v1 v2 v3 v4 → v7 = (hidF pcA) v0 v1 v2 v3 v4 → v8 = (hidF pcN) v0 v1 v2 v3 v4 v1 → v9 = (hidF pcT) v0 v1 v2 v3 v4 → v10 = (hidF pcE) v0 v1 v2 v3 v4 → 
    (0 ≤ v8 →
    (v8 ≤ 9223372036854775807 →
    (¬ (v10 = 0) →
      (((v5 = true ∧ v6 = 0) → True)) ∧ (∀ (v11 : Bool), v11 = (hidF smA) v7 v8 v9 zA (0 : Int) (0 : Int) → 
      (((v5 = true ∧ v6 = 0) ∧ v11 = true) ↔ true = true) ∧ True)) ∧
    (¬ (¬ (v10 = 0)) →
      ∃ (I0 : (Int) → (Bool) → Prop) (μ0 : (Int) → (Bool) → Nat), I0 (0 : Int) false ∧ (∀ (v11 : Int) (v12 : Bool), I0 v11 v12 →
        (v11 < v4 →
          (v12 = true ∨ 0 ≤ v11) ∧ ((v12 = true ∨ 0 ≤ v11) →
          (v12 = true ∨ 0 ≤ v11) ∧ ((v12 = true ∨ 0 ≤ v11) →
          (-9223372036854775808 ≤ (v11 + 1) ∧ (v11 + 1) ≤ 9223372036854775807) ∧ ((-9223372036854775808 ≤ (v11 + 1) ∧ (v11 + 1) ≤ 9223372036854775807) →
          I0 (v11 + 1) (v12 || (!(decide ((v3 v11 0) = 0)))) ∧ μ0 (v11 + 1) (v12 || (!(decide ((v3 v11 0) = 0)))) < μ0 v11 v12)))) ∧
        (¬ (v11 < v4) →
          ((((v12 = true ∧ 0 ≤ v6) ∨ (¬ (v12 = true) ∧ ¬ (0 ≤ v6))) → True)) ∧ (∀ (v13 : Int), v13 = (hidF ckA) v7 v8 v9 → 
          (((¬ ((¬ (((v12 = true ∧ 0 ≤ v6) ∨ (¬ (v12 = true) ∧ ¬ (0 ≤ v6)))) ∨ ¬ (v13 = 0))) ∧ ¬ (v12 = true)) → True)) ∧ (∀ (v14 : Bool), v14 = (hidF smA) v7 v8 v9 v0 v1 v2 → 
          (((¬ (((v12 = true ∧ 0 ≤ v6) ∨ (¬ (v12 = true) ∧ ¬ (0 ≤ v6)))) ∨ ¬ (v13 = 0)) ∨ (¬ (v12 = true) ∧ ¬ (v14 = true))) →
            (False ↔ true = true) ∧ True) ∧
          (¬ (((¬ (((v12 = true ∧ 0 ≤ v6) ∨ (¬ (v12 = true) ∧ ¬ (0 ≤ v6)))) ∨ ¬ (v13 = 0)) ∨ (¬ (v12 = true) ∧ ¬ (v14 = true)))) →
            (¬ (v12 = true) →
              (v5 = true ↔ true = true) ∧ True) ∧
            (¬ (¬ (v12 = true)) →
              (((v4 ≤ v6 ∨ ¬ (v8 = v4)) ∨ ¬ (v1 = v4)) ∨ 0 ≤ v6) ∧ ((((v4 ≤ v6 ∨ ¬ (v8 = v4)) ∨ ¬ (v1 = v4)) ∨ 0 ≤ v6) →
              (((v4 ≤ v6 ∨ ¬ (v8 = v4)) ∨ ¬ (v1 = v4)) ∨ v6 < v4) ∧ ((((v4 ≤ v6 ∨ ¬ (v8 = v4)) ∨ ¬ (v1 = v4)) ∨ v6 < v4) →
              (((v4 ≤ v6 ∨ ¬ (v8 = v4)) ∨ ¬ (v1 = v4)) ∨ 0 ≤ v6) ∧ ((((v4 ≤ v6 ∨ ¬ (v8 = v4)) ∨ ¬ (v1 = v4)) ∨ 0 ≤ v6) →
              (((v4 ≤ v6 ∨ ¬ (v8 = v4)) ∨ ¬ (v1 = v4)) ∨ v6 < v4) ∧ ((((v4 ≤ v6 ∨ ¬ (v8 = v4)) ∨ ¬ (v1 = v4)) ∨ v6 < v4) →
              (((((v4 ≤ v6 ∨ ¬ (v8 = v4)) ∨ ¬ (v1 = v4)) ∨ (v3 v6 0) = 0) ∨ ¬ (v9 = v6)) ∨ 0 ≤ v6) ∧ ((((((v4 ≤ v6 ∨ ¬ (v8 = v4)) ∨ ¬ (v1 = v4)) ∨ (v3 v6 0) = 0) ∨ ¬ (v9 = v6)) ∨ 0 ≤ v6) →
              (((((v4 ≤ v6 ∨ ¬ (v8 = v4)) ∨ ¬ (v1 = v4)) ∨ (v3 v6 0) = 0) ∨ ¬ (v9 = v6)) ∨ v6 < v8) ∧ ((((((v4 ≤ v6 ∨ ¬ (v8 = v4)) ∨ ¬ (v1 = v4)) ∨ (v3 v6 0) = 0) ∨ ¬ (v9 = v6)) ∨ v6 < v8) →
              (((((v4 ≤ v6 ∨ ¬ (v8 = v4)) ∨ ¬ (v1 = v4)) ∨ (v3 v6 0) = 0) ∨ ¬ (v9 = v6)) ∨ 0 ≤ v6) ∧ ((((((v4 ≤ v6 ∨ ¬ (v8 = v4)) ∨ ¬ (v1 = v4)) ∨ (v3 v6 0) = 0) ∨ ¬ (v9 = v6)) ∨ 0 ≤ v6) →
              (((((v4 ≤ v6 ∨ ¬ (v8 = v4)) ∨ ¬ (v1 = v4)) ∨ (v3 v6 0) = 0) ∨ ¬ (v9 = v6)) ∨ v6 < v8) ∧ ((((((v4 ≤ v6 ∨ ¬ (v8 = v4)) ∨ ¬ (v1 = v4)) ∨ (v3 v6 0) = 0) ∨ ¬ (v9 = v6)) ∨ v6 < v8) →
              ((((((v4 ≤ v6 ∨ ¬ (v8 = v4)) ∨ ¬ (v1 = v4)) ∨ (v3 v6 0) = 0) ∨ ¬ (v9 = v6)) ∨ (v7 v6 1) ≤ 0) →
                (False ↔ true = true) ∧ True) ∧
              (¬ ((((((v4 ≤ v6 ∨ ¬ (v8 = v4)) ∨ ¬ (v1 = v4)) ∨ (v3 v6 0) = 0) ∨ ¬ (v9 = v6)) ∨ (v7 v6 1) ≤ 0)) →
                ∃ (I1 : (Int) → Prop) (μ1 : (Int) → Nat), I1 (0 : Int) ∧ (∀ (v15 : Int), I1 v15 →
                  (v15 < v4 →
                    0 ≤ v15 ∧ (0 ≤ v15 →
                    v15 < v1 ∧ (v15 < v1 →
                    v15 < v8 ∧ (v15 < v8 →
                    (((¬ ((v0 v15 0) = (v7 v15 0)) ∨ (¬ ((v3 v15 0) = 0) ∧ (v7 v15 1) < (v0 v15 1))) ∨ (((v3 v15 0) = 0 ∧ ¬ ((v7 v15 1) = (v0 v15 1))) ∧ ((v0 v15 1) < 0 ∨ ¬ ((v7 v15 1) = 0)))) →
                      (False ↔ true = true) ∧ True) ∧
                    (¬ (((¬ ((v0 v15 0) = (v7 v15 0)) ∨ (¬ ((v3 v15 0) = 0) ∧ (v7 v15 1) < (v0 v15 1))) ∨ (((v3 v15 0) = 0 ∧ ¬ ((v7 v15 1) = (v0 v15 1))) ∧ ((v0 v15 1) < 0 ∨ ¬ ((v7 v15 1) = 0))))) →
                      (-9223372036854775808 ≤ (v15 + 1) ∧ (v15 + 1) ≤ 9223372036854775807) ∧ ((-9223372036854775808 ≤ (v15 + 1) ∧ (v15 + 1) ≤ 9223372036854775807) →
                      I1 (v15 + 1) ∧ μ1 (v15 + 1) < μ1 v15)))))) ∧
                  (¬ (v15 < v4) →
                    (True) ∧ (∀ (v16 : Int) (v17 : Int → Nat → Int) (v18 : Int) (v19 : Int) (v20 : Int), v16 = (hidF pcW) v7 v8 v9 v3 v4 → v17 = (hidF pcA) v7 v8 v9 v3 v4 → v18 = (hidF pcN) v7 v8 v9 v3 v4 v8 → v19 = (hidF pcT) v7 v8 v9 v3 v4 → v20 = (hidF pcE) v7 v8 v9 v3 v4 → 
                    (0 ≤ v18 →
                    ((((v5 = true ∧ v20 = 0) ∧ v16 = v6) → True)) ∧ (∀ (v21 : Bool), v21 = (hidF smA) v17 v18 v19 v7 v8 v9 → 
                    (v18 ≤ 9223372036854775807 →
                    ((((v5 = true ∧ v20 = 0) ∧ v16 = v6) ∧ v21 = true) ↔ true = true) ∧ True)))))))))))))))))))))))))))))))
def VC7 : Prop :=
  ∀ (v0 : Int → Nat → Int) (v1 : Int) (v2 : Int) (v3 : Int → Nat → Int) (v4 : Int),
  (True) →
  (0 ≤ v1 →
  (0 ≤ v4 →
  (True) ∧ (∀ (v5 : Bool), v5 = true → 
  (v1 ≤ 9223372036854775807 →
  (v4 ≤ 9223372036854775807 →
  (((40 < v1 ∨ 40 < v4) ∨ ¬ (v5 = true)) →
    (v5 = true ↔ true = true) ∧ True) ∧
  (¬ (((40 < v1 ∨ 40 < v4) ∨ ¬ (v5 = true))) →
    (True) ∧ (∀ (v6 : Int) (v7 : Int → Nat → Int) (v8 : Int) (v9 : Int) (v10 : Int), v6 = pcW v0 v1 v2 v3 v4 → v7 = pcA v0 v1 v2 v3 v4 → v8 = pcN v0 v1 v2 v3 v4 v1 → v9 = pcT v0 v1 v2 v3 v4 → v10 = pcE v0 v1 v2 v3 v4 → 
    (0 ≤ v8 →
    (v8 ≤ 9223372036854775807 →
    (¬ (v10 = 0) →
      (((v5 = true ∧ v6 = 0) → True)) ∧ (∀ (v11 : Bool), v11 = smA v7 v8 v9 zA (0 : Int) (0 : Int) → 
      (((v5 = true ∧ v6 = 0) ∧ v11 = true) ↔ true = true) ∧ True)) ∧
    (¬ (¬ (v10 = 0)) →
      ∃ (I0 : (Int) → (Bool) → Prop) (μ0 : (Int) → (Bool) → Nat), I0 (0 : Int) false ∧ (∀ (v11 : Int) (v12 : Bool), I0 v11 v12 →
        (v11 < v4 →
          (v12 = true ∨ 0 ≤ v11) ∧ ((v12 = true ∨ 0 ≤ v11) →
          (v12 = true ∨ 0 ≤ v11) ∧ ((v12 = true ∨ 0 ≤ v11) →
          (-9223372036854775808 ≤ (v11 + 1) ∧ (v11 + 1) ≤ 9223372036854775807) ∧ ((-9223372036854775808 ≤ (v11 + 1) ∧ (v11 + 1) ≤ 9223372036854775807) →
          I0 (v11 + 1) (v12 || (!(decide ((v3 v11 0) = 0)))) ∧ μ0 (v11 + 1) (v12 || (!(decide ((v3 v11 0) = 0)))) < μ0 v11 v12)))) ∧
        (¬ (v11 < v4) →
          ((((v12 = true ∧ 0 ≤ v6) ∨ (¬ (v12 = true) ∧ ¬ (0 ≤ v6))) → True)) ∧ (∀ (v13 : Int), v13 = ckA v7 v8 v9 → 
          (((¬ ((¬ (((v12 = true ∧ 0 ≤ v6) ∨ (¬ (v12 = true) ∧ ¬ (0 ≤ v6)))) ∨ ¬ (v13 = 0))) ∧ ¬ (v12 = true)) → True)) ∧ (∀ (v14 : Bool), v14 = smA v7 v8 v9 v0 v1 v2 → 
          (((¬ (((v12 = true ∧ 0 ≤ v6) ∨ (¬ (v12 = true) ∧ ¬ (0 ≤ v6)))) ∨ ¬ (v13 = 0)) ∨ (¬ (v12 = true) ∧ ¬ (v14 = true))) →
            (False ↔ true = true) ∧ True) ∧
          (¬ (((¬ (((v12 = true ∧ 0 ≤ v6) ∨ (¬ (v12 = true) ∧ ¬ (0 ≤ v6)))) ∨ ¬ (v13 = 0)) ∨ (¬ (v12 = true) ∧ ¬ (v14 = true)))) →
            (¬ (v12 = true) →
              (v5 = true ↔ true = true) ∧ True) ∧
            (¬ (¬ (v12 = true)) →
              (((v4 ≤ v6 ∨ ¬ (v8 = v4)) ∨ ¬ (v1 = v4)) ∨ 0 ≤ v6) ∧ ((((v4 ≤ v6 ∨ ¬ (v8 = v4)) ∨ ¬ (v1 = v4)) ∨ 0 ≤ v6) →
              (((v4 ≤ v6 ∨ ¬ (v8 = v4)) ∨ ¬ (v1 = v4)) ∨ v6 < v4) ∧ ((((v4 ≤ v6 ∨ ¬ (v8 = v4)) ∨ ¬ (v1 = v4)) ∨ v6 < v4) →
              (((v4 ≤ v6 ∨ ¬ (v8 = v4)) ∨ ¬ (v1 = v4)) ∨ 0 ≤ v6) ∧ ((((v4 ≤ v6 ∨ ¬ (v8 = v4)) ∨ ¬ (v1 = v4)) ∨ 0 ≤ v6) →
              (((v4 ≤ v6 ∨ ¬ (v8 = v4)) ∨ ¬ (v1 = v4)) ∨ v6 < v4) ∧ ((((v4 ≤ v6 ∨ ¬ (v8 = v4)) ∨ ¬ (v1 = v4)) ∨ v6 < v4) →
              (((((v4 ≤ v6 ∨ ¬ (v8 = v4)) ∨ ¬ (v1 = v4)) ∨ (v3 v6 0) = 0) ∨ ¬ (v9 = v6)) ∨ 0 ≤ v6) ∧ ((((((v4 ≤ v6 ∨ ¬ (v8 = v4)) ∨ ¬ (v1 = v4)) ∨ (v3 v6 0) = 0) ∨ ¬ (v9 = v6)) ∨ 0 ≤ v6) →
              (((((v4 ≤ v6 ∨ ¬ (v8 = v4)) ∨ ¬ (v1 = v4)) ∨ (v3 v6 0) = 0) ∨ ¬ (v9 = v6)) ∨ v6 < v8) ∧ ((((((v4 ≤ v6 ∨ ¬ (v8 = v4)) ∨ ¬ (v1 = v4)) ∨ (v3 v6 0) = 0) ∨ ¬ (v9 = v6)) ∨ v6 < v8) →
              (((((v4 ≤ v6 ∨ ¬ (v8 = v4)) ∨ ¬ (v1 = v4)) ∨ (v3 v6 0) = 0) ∨ ¬ (v9 = v6)) ∨ 0 ≤ v6) ∧ ((((((v4 ≤ v6 ∨ ¬ (v8 = v4)) ∨ ¬ (v1 = v4)) ∨ (v3 v6 0) = 0) ∨ ¬ (v9 = v6)) ∨ 0 ≤ v6) →
              (((((v4 ≤ v6 ∨ ¬ (v8 = v4)) ∨ ¬ (v1 = v4)) ∨ (v3 v6 0) = 0) ∨ ¬ (v9 = v6)) ∨ v6 < v8) ∧ ((((((v4 ≤ v6 ∨ ¬ (v8 = v4)) ∨ ¬ (v1 = v4)) ∨ (v3 v6 0) = 0) ∨ ¬ (v9 = v6)) ∨ v6 < v8) →
              ((((((v4 ≤ v6 ∨ ¬ (v8 = v4)) ∨ ¬ (v1 = v4)) ∨ (v3 v6 0) = 0) ∨ ¬ (v9 = v6)) ∨ (v7 v6 1) ≤ 0) →
                (False ↔ true = true) ∧ True) ∧
              (¬ ((((((v4 ≤ v6 ∨ ¬ (v8 = v4)) ∨ ¬ (v1 = v4)) ∨ (v3 v6 0) = 0) ∨ ¬ (v9 = v6)) ∨ (v7 v6 1) ≤ 0)) →
                ∃ (I1 : (Int) → Prop) (μ1 : (Int) → Nat), I1 (0 : Int) ∧ (∀ (v15 : Int), I1 v15 →
                  (v15 < v4 →
                    0 ≤ v15 ∧ (0 ≤ v15 →
                    v15 < v1 ∧ (v15 < v1 →
                    v15 < v8 ∧ (v15 < v8 →
                    (((¬ ((v0 v15 0) = (v7 v15 0)) ∨ (¬ ((v3 v15 0) = 0) ∧ (v7 v15 1) < (v0 v15 1))) ∨ (((v3 v15 0) = 0 ∧ ¬ ((v7 v15 1) = (v0 v15 1))) ∧ ((v0 v15 1) < 0 ∨ ¬ ((v7 v15 1) = 0)))) →
                      (False ↔ true = true) ∧ True) ∧
                    (¬ (((¬ ((v0 v15 0) = (v7 v15 0)) ∨ (¬ ((v3 v15 0) = 0) ∧ (v7 v15 1) < (v0 v15 1))) ∨ (((v3 v15 0) = 0 ∧ ¬ ((v7 v15 1) = (v0 v15 1))) ∧ ((v0 v15 1) < 0 ∨ ¬ ((v7 v15 1) = 0))))) →
                      (-9223372036854775808 ≤ (v15 + 1) ∧ (v15 + 1) ≤ 9223372036854775807) ∧ ((-9223372036854775808 ≤ (v15 + 1) ∧ (v15 + 1) ≤ 9223372036854775807) →
                      I1 (v15 + 1) ∧ μ1 (v15 + 1) < μ1 v15)))))) ∧
                  (¬ (v15 < v4) →
                    (True) ∧ (∀ (v16 : Int) (v17 : Int → Nat → Int) (v18 : Int) (v19 : Int) (v20 : Int), v16 = pcW v7 v8 v9 v3 v4 → v17 = pcA v7 v8 v9 v3 v4 → v18 = pcN v7 v8 v9 v3 v4 v8 → v19 = pcT v7 v8 v9 v3 v4 → v20 = pcE v7 v8 v9 v3 v4 → 
                    (0 ≤ v18 →
                    ((((v5 = true ∧ v20 = 0) ∧ v16 = v6) → True)) ∧ (∀ (v21 : Bool), v21 = smA v17 v18 v19 v7 v8 v9 → 
                    (v18 ≤ 9223372036854775807 →
                    ((((v5 = true ∧ v20 = 0) ∧ v16 = v6) ∧ v21 = true) ↔ true = true) ∧ True)))))))))))))))))))))))))))))))
theorem vh7 (h : VC7) : VH7 := by
  unfold VH7
  rw [hidF_eq ckA, hidF_eq pcA, hidF_eq pcE, hidF_eq pcN, hidF_eq pcT, hidF_eq pcW, hidF_eq smA]
  exact h
end Go.Proofs.Ytccmgepknjkakaa
