/- What the functions do, and what is left to show of each. -/
import Derived.Test.YtiiabaklipmbbaaC
set_option linter.unusedVariables false
namespace Go.Proofs.Ytiiabaklipmbbaa
open Go Go.RowKit Go.Proofs.Ytiiabaklipmbbaa.Vc
/-! exchange.goes -/
def sig22 : CSig := ⟨[⟨false, [.slc [.int .u8, .bool, .int .i64, .int .i64, .int .i64, .int .i64]]⟩, ⟨false, [.int .i64]⟩], [⟨false, [.bool]⟩]⟩
def pre22 : List AV → Prop
  | [.a v0, .i v1, .i v2] => 0 ≤ v2 ∧ v2 < v1
  | _ => False
noncomputable def raw22 : List AV → List AV
  | [.a v0, .i v1, .i v2] => [.b (goB v0 v1 v2)]
  | _ => []

def VH22 : Prop :=
  ∀ (v0 : Int → Nat → Int) (v1 : Int) (v2 : Int),
  (0 ≤ v2 ∧ v2 < v1) →
  (0 ≤ v1 →
  0 ≤ v2 ∧ (0 ≤ v2 →
  v2 < v1 ∧ (v2 < v1 →
  (v1 ≤ 9223372036854775807 →
  ((v0 v2 0) = 3 →
    (True ↔ goB v0 v1 v2 = true) ∧ True) ∧
  (¬ ((v0 v2 0) = 3) →
    ((v0 v2 0) = 4 →
      (-9223372036854775808 ≤ (v2 + 1) ∧ (v2 + 1) ≤ 9223372036854775807) ∧ ((-9223372036854775808 ≤ (v2 + 1) ∧ (v2 + 1) ≤ 9223372036854775807) →
      ((v2 + 1) = v1 ∨ (v2 + 1) < v1) ∧ (((v2 + 1) = v1 ∨ (v2 + 1) < v1) →
      ((v2 + 1) = v1 ∨ (v2 + 1) < v1) ∧ (((v2 + 1) = v1 ∨ (v2 + 1) < v1) →
      (((v2 + 1) = v1 ∨ ¬ ((v0 (v2 + 1) 0) = 5)) ↔ goB v0 v1 v2 = true) ∧ True)))) ∧
    (¬ ((v0 v2 0) = 4) →
      (False ↔ goB v0 v1 v2 = true) ∧ True))))))
def VC22 : Prop :=
  ∀ (v0 : Int → Nat → Int) (v1 : Int) (v2 : Int),
  (0 ≤ v2 ∧ v2 < v1) →
  (0 ≤ v1 →
  0 ≤ v2 ∧ (0 ≤ v2 →
  v2 < v1 ∧ (v2 < v1 →
  (v1 ≤ 9223372036854775807 →
  ((v0 v2 0) = 3 →
    (True ↔ goB v0 v1 v2 = true) ∧ True) ∧
  (¬ ((v0 v2 0) = 3) →
    ((v0 v2 0) = 4 →
      (-9223372036854775808 ≤ (v2 + 1) ∧ (v2 + 1) ≤ 9223372036854775807) ∧ ((-9223372036854775808 ≤ (v2 + 1) ∧ (v2 + 1) ≤ 9223372036854775807) →
      ((v2 + 1) = v1 ∨ (v2 + 1) < v1) ∧ (((v2 + 1) = v1 ∨ (v2 + 1) < v1) →
      ((v2 + 1) = v1 ∨ (v2 + 1) < v1) ∧ (((v2 + 1) = v1 ∨ (v2 + 1) < v1) →
      (((v2 + 1) = v1 ∨ ¬ ((v0 (v2 + 1) 0) = 5)) ↔ goB v0 v1 v2 = true) ∧ True)))) ∧
    (¬ ((v0 v2 0) = 4) →
      (False ↔ goB v0 v1 v2 = true) ∧ True))))))
theorem vh22 (h : VC22) : VH22 := by
  unfold VH22
  exact h
/-! exchange.Play -/
def sig14 : CSig := ⟨[⟨false, [.slc [.int .u8, .bool, .int .i64, .int .i64, .int .i64, .int .i64]]⟩, ⟨false, [.slc [.bool]]⟩], [⟨true, [.int .i64, .slc [.int .i64], .slc [.int .i64]]⟩]⟩
def pre14 : List AV → Prop
  | [.a v0, .i v1, .a v2, .i v3] => pyP v0 v1
  | _ => False
noncomputable def raw14 : List AV → List AV
  | [.a v0, .i v1, .a v2, .i v3] => [.i ((hidF pyS) v0 v1 v2 v3), .a ((hidF pyG) v0 v1 v2 v3), .i ((hidF pyN) v0 v1 v2 v3), .a ((hidF pyK) v0 v1 v2 v3), .i ((hidF pyM) v0 v1 v2 v3)]
  | _ => []

def VH14 : Prop :=
  ∀ (v0 : Int → Nat → Int) (v1 : Int) (v2 : Int → Nat → Int) (v3 : Int),
  (pyP v0 v1) →
  (0 ≤ v1 →
  (0 ≤ v3 →
  ∃ (I0 : (Int) → (Int) → (Int → Nat → Int) → (Int) → (Int → Nat → Int) → (Int) → Prop) (μ0 : (Int) → (Int) → (Int → Nat → Int) → (Int) → (Int → Nat → Int) → (Int) → Nat), I0 (0 : Int) (0 : Int) zA (0 : Int) zA (0 : Int) ∧ (∀ (v4 : Int) (v5 : Int) (v6 : Int → Nat → Int) (v7 : Int) (v8 : Int → Nat → Int) (v9 : Int), I0 v4 v5 v6 v7 v8 v9 →
    (0 ≤ v7 →
    (v7 ≤ 9223372036854775807 →
    (0 ≤ v9 →
    (v9 ≤ 9223372036854775807 →
    (v1 ≤ 9223372036854775807 →
    (v3 ≤ 9223372036854775807 →
    (v4 < v1 →
      0 ≤ v4 ∧ (0 ≤ v4 →
      (-9223372036854775808 ≤ (v4 + 1) ∧ (v4 + 1) ≤ 9223372036854775807) ∧ ((-9223372036854775808 ≤ (v4 + 1) ∧ (v4 + 1) ≤ 9223372036854775807) →
      ((v4 < v3 ∧ ¬ ((v2 v4 0) = 0)) →
        (0 ≤ v4 ∧ v4 < v1) ∧ (∀ (v10 : Bool), v10 = goB v0 v1 v4 → 
        (¬ (v10 = true) →
          (srP v6 v7 ∧ v7 < 50) ∧ (
          (v7 < 2 →
            (srP v8 v9 ∧ v9 < 50) ∧ (
            (v9 < 2 →
              (v4 + 1) = (hidF pyS) v0 v1 v2 v3 ∧ v7 = (hidF pyN) v0 v1 v2 v3 ∧ (∀ (i : Int) (f : Nat), 0 ≤ i → i < (hidF pyN) v0 v1 v2 v3 → f < 1 → v6 i f = (hidF pyG) v0 v1 v2 v3 i f) ∧ v9 = (hidF pyM) v0 v1 v2 v3 ∧ (∀ (i : Int) (f : Nat), 0 ≤ i → i < (hidF pyM) v0 v1 v2 v3 → f < 1 → v8 i f = (hidF pyK) v0 v1 v2 v3 i f) ∧ True) ∧
            (¬ (v9 < 2) →
              ∃ (I1 : (Int) → Prop) (μ1 : (Int) → Nat), I1 (1 : Int) ∧ (∀ (v11 : Int), I1 v11 →
                (v11 < v9 →
                  0 ≤ v11 ∧ (0 ≤ v11 →
                  (-9223372036854775808 ≤ (v11 - 1) ∧ (v11 - 1) ≤ 9223372036854775807) ∧ ((-9223372036854775808 ≤ (v11 - 1) ∧ (v11 - 1) ≤ 9223372036854775807) →
                  0 ≤ (v11 - 1) ∧ (0 ≤ (v11 - 1) →
                  (v11 - 1) < v9 ∧ ((v11 - 1) < v9 →
                  ((v8 v11 0) = (v8 (v11 - 1) 0) →
                    v11 ≤ v9 ∧ (v11 ≤ v9 →
                    v9 ≤ v9 ∧ (v9 ≤ v9 →
                    False))) ∧
                  (¬ ((v8 v11 0) = (v8 (v11 - 1) 0)) →
                    (-9223372036854775808 ≤ (v11 + 1) ∧ (v11 + 1) ≤ 9223372036854775807) ∧ ((-9223372036854775808 ≤ (v11 + 1) ∧ (v11 + 1) ≤ 9223372036854775807) →
                    I1 (v11 + 1) ∧ μ1 (v11 + 1) < μ1 v11))))))) ∧
                (¬ (v11 < v9) →
                  (v4 + 1) = (hidF pyS) v0 v1 v2 v3 ∧ v7 = (hidF pyN) v0 v1 v2 v3 ∧ (∀ (i : Int) (f : Nat), 0 ≤ i → i < (hidF pyN) v0 v1 v2 v3 → f < 1 → v6 i f = (hidF pyG) v0 v1 v2 v3 i f) ∧ v9 = (hidF pyM) v0 v1 v2 v3 ∧ (∀ (i : Int) (f : Nat), 0 ≤ i → i < (hidF pyM) v0 v1 v2 v3 → f < 1 → v8 i f = (hidF pyK) v0 v1 v2 v3 i f) ∧ True))))) ∧
          (¬ (v7 < 2) →
            ∃ (I1 : (Int) → Prop) (μ1 : (Int) → Nat), I1 (1 : Int) ∧ (∀ (v11 : Int), I1 v11 →
              (v11 < v7 →
                0 ≤ v11 ∧ (0 ≤ v11 →
                (-9223372036854775808 ≤ (v11 - 1) ∧ (v11 - 1) ≤ 9223372036854775807) ∧ ((-9223372036854775808 ≤ (v11 - 1) ∧ (v11 - 1) ≤ 9223372036854775807) →
                0 ≤ (v11 - 1) ∧ (0 ≤ (v11 - 1) →
                (v11 - 1) < v7 ∧ ((v11 - 1) < v7 →
                ((v6 v11 0) = (v6 (v11 - 1) 0) →
                  v11 ≤ v7 ∧ (v11 ≤ v7 →
                  v7 ≤ v7 ∧ (v7 ≤ v7 →
                  False))) ∧
                (¬ ((v6 v11 0) = (v6 (v11 - 1) 0)) →
                  (-9223372036854775808 ≤ (v11 + 1) ∧ (v11 + 1) ≤ 9223372036854775807) ∧ ((-9223372036854775808 ≤ (v11 + 1) ∧ (v11 + 1) ≤ 9223372036854775807) →
                  I1 (v11 + 1) ∧ μ1 (v11 + 1) < μ1 v11))))))) ∧
              (¬ (v11 < v7) →
                (srP v8 v9 ∧ v9 < 50) ∧ (
                (v9 < 2 →
                  (v4 + 1) = (hidF pyS) v0 v1 v2 v3 ∧ v7 = (hidF pyN) v0 v1 v2 v3 ∧ (∀ (i : Int) (f : Nat), 0 ≤ i → i < (hidF pyN) v0 v1 v2 v3 → f < 1 → v6 i f = (hidF pyG) v0 v1 v2 v3 i f) ∧ v9 = (hidF pyM) v0 v1 v2 v3 ∧ (∀ (i : Int) (f : Nat), 0 ≤ i → i < (hidF pyM) v0 v1 v2 v3 → f < 1 → v8 i f = (hidF pyK) v0 v1 v2 v3 i f) ∧ True) ∧
                (¬ (v9 < 2) →
                  ∃ (I2 : (Int) → Prop) (μ2 : (Int) → Nat), I2 (1 : Int) ∧ (∀ (v12 : Int), I2 v12 →
                    (v12 < v9 →
                      0 ≤ v12 ∧ (0 ≤ v12 →
                      (-9223372036854775808 ≤ (v12 - 1) ∧ (v12 - 1) ≤ 9223372036854775807) ∧ ((-9223372036854775808 ≤ (v12 - 1) ∧ (v12 - 1) ≤ 9223372036854775807) →
                      0 ≤ (v12 - 1) ∧ (0 ≤ (v12 - 1) →
                      (v12 - 1) < v9 ∧ ((v12 - 1) < v9 →
                      ((v8 v12 0) = (v8 (v12 - 1) 0) →
                        v12 ≤ v9 ∧ (v12 ≤ v9 →
                        v9 ≤ v9 ∧ (v9 ≤ v9 →
                        False))) ∧
                      (¬ ((v8 v12 0) = (v8 (v12 - 1) 0)) →
                        (-9223372036854775808 ≤ (v12 + 1) ∧ (v12 + 1) ≤ 9223372036854775807) ∧ ((-9223372036854775808 ≤ (v12 + 1) ∧ (v12 + 1) ≤ 9223372036854775807) →
                        I2 (v12 + 1) ∧ μ2 (v12 + 1) < μ2 v12))))))) ∧
                    (¬ (v12 < v9) →
                      (v4 + 1) = (hidF pyS) v0 v1 v2 v3 ∧ v7 = (hidF pyN) v0 v1 v2 v3 ∧ (∀ (i : Int) (f : Nat), 0 ≤ i → i < (hidF pyN) v0 v1 v2 v3 → f < 1 → v6 i f = (hidF pyG) v0 v1 v2 v3 i f) ∧ v9 = (hidF pyM) v0 v1 v2 v3 ∧ (∀ (i : Int) (f : Nat), 0 ≤ i → i < (hidF pyM) v0 v1 v2 v3 → f < 1 → v8 i f = (hidF pyK) v0 v1 v2 v3 i f) ∧ True))))))))) ∧
        (¬ (¬ (v10 = true)) →
          I0 (v4 + 1) (v4 + 1) v6 v7 v8 v9 ∧ μ0 (v4 + 1) (v4 + 1) v6 v7 v8 v9 < μ0 v4 v5 v6 v7 v8 v9))) ∧
      (¬ ((v4 < v3 ∧ ¬ ((v2 v4 0) = 0))) →
        ((v0 v4 0) = 4 →
          ((v7 + 1) * 8) ≤ 140737488355328 ∧ (((v7 + 1) * 8) ≤ 140737488355328 →
          (v7 + 1) ≤ 140737488355328 ∧ ((v7 + 1) ≤ 140737488355328 →
          I0 (v4 + 1) (v4 + 1) (appA v6 v7 (setA zA 0 0 (v0 v4 2))) (v7 + 1) v8 v9 ∧ μ0 (v4 + 1) (v4 + 1) (appA v6 v7 (setA zA 0 0 (v0 v4 2))) (v7 + 1) v8 v9 < μ0 v4 v5 v6 v7 v8 v9))) ∧
        (¬ ((v0 v4 0) = 4) →
          ((v0 v4 0) = 5 →
            ((v9 + 1) * 8) ≤ 140737488355328 ∧ (((v9 + 1) * 8) ≤ 140737488355328 →
            (v9 + 1) ≤ 140737488355328 ∧ ((v9 + 1) ≤ 140737488355328 →
            I0 (v4 + 1) (v4 + 1) v6 v7 (appA v8 v9 (setA zA 0 0 (v0 v4 2))) (v9 + 1) ∧ μ0 (v4 + 1) (v4 + 1) v6 v7 (appA v8 v9 (setA zA 0 0 (v0 v4 2))) (v9 + 1) < μ0 v4 v5 v6 v7 v8 v9))) ∧
          (¬ ((v0 v4 0) = 5) →
            ((v0 v4 0) = 7 →
              ((v9 + v7) * 8) ≤ 140737488355328 ∧ (((v9 + v7) * 8) ≤ 140737488355328 →
              (v9 + v7) ≤ 140737488355328 ∧ ((v9 + v7) ≤ 140737488355328 →
              I0 (v4 + 1) (v4 + 1) v6 v7 (appA v8 v9 v6) (v9 + v7) ∧ μ0 (v4 + 1) (v4 + 1) v6 v7 (appA v8 v9 v6) (v9 + v7) < μ0 v4 v5 v6 v7 v8 v9))) ∧
            (¬ ((v0 v4 0) = 7) →
              I0 (v4 + 1) (v4 + 1) v6 v7 v8 v9 ∧ μ0 (v4 + 1) (v4 + 1) v6 v7 v8 v9 < μ0 v4 v5 v6 v7 v8 v9))))))) ∧
    (¬ (v4 < v1) →
      (srP v6 v7 ∧ v7 < 50) ∧ (
      (v7 < 2 →
        (srP v8 v9 ∧ v9 < 50) ∧ (
        (v9 < 2 →
          v5 = (hidF pyS) v0 v1 v2 v3 ∧ v7 = (hidF pyN) v0 v1 v2 v3 ∧ (∀ (i : Int) (f : Nat), 0 ≤ i → i < (hidF pyN) v0 v1 v2 v3 → f < 1 → v6 i f = (hidF pyG) v0 v1 v2 v3 i f) ∧ v9 = (hidF pyM) v0 v1 v2 v3 ∧ (∀ (i : Int) (f : Nat), 0 ≤ i → i < (hidF pyM) v0 v1 v2 v3 → f < 1 → v8 i f = (hidF pyK) v0 v1 v2 v3 i f) ∧ True) ∧
        (¬ (v9 < 2) →
          ∃ (I1 : (Int) → Prop) (μ1 : (Int) → Nat), I1 (1 : Int) ∧ (∀ (v10 : Int), I1 v10 →
            (v10 < v9 →
              0 ≤ v10 ∧ (0 ≤ v10 →
              (-9223372036854775808 ≤ (v10 - 1) ∧ (v10 - 1) ≤ 9223372036854775807) ∧ ((-9223372036854775808 ≤ (v10 - 1) ∧ (v10 - 1) ≤ 9223372036854775807) →
              0 ≤ (v10 - 1) ∧ (0 ≤ (v10 - 1) →
              (v10 - 1) < v9 ∧ ((v10 - 1) < v9 →
              ((v8 v10 0) = (v8 (v10 - 1) 0) →
                v10 ≤ v9 ∧ (v10 ≤ v9 →
                v9 ≤ v9 ∧ (v9 ≤ v9 →
                False))) ∧
              (¬ ((v8 v10 0) = (v8 (v10 - 1) 0)) →
                (-9223372036854775808 ≤ (v10 + 1) ∧ (v10 + 1) ≤ 9223372036854775807) ∧ ((-9223372036854775808 ≤ (v10 + 1) ∧ (v10 + 1) ≤ 9223372036854775807) →
                I1 (v10 + 1) ∧ μ1 (v10 + 1) < μ1 v10))))))) ∧
            (¬ (v10 < v9) →
              v5 = (hidF pyS) v0 v1 v2 v3 ∧ v7 = (hidF pyN) v0 v1 v2 v3 ∧ (∀ (i : Int) (f : Nat), 0 ≤ i → i < (hidF pyN) v0 v1 v2 v3 → f < 1 → v6 i f = (hidF pyG) v0 v1 v2 v3 i f) ∧ v9 = (hidF pyM) v0 v1 v2 v3 ∧ (∀ (i : Int) (f : Nat), 0 ≤ i → i < (hidF pyM) v0 v1 v2 v3 → f < 1 → v8 i f = (hidF pyK) v0 v1 v2 v3 i f) ∧ True))))) ∧
      (¬ (v7 < 2) →
        ∃ (I1 : (Int) → Prop) (μ1 : (Int) → Nat), I1 (1 : Int) ∧ (∀ (v10 : Int), I1 v10 →
          (v10 < v7 →
            0 ≤ v10 ∧ (0 ≤ v10 →
            (-9223372036854775808 ≤ (v10 - 1) ∧ (v10 - 1) ≤ 9223372036854775807) ∧ ((-9223372036854775808 ≤ (v10 - 1) ∧ (v10 - 1) ≤ 9223372036854775807) →
            0 ≤ (v10 - 1) ∧ (0 ≤ (v10 - 1) →
            (v10 - 1) < v7 ∧ ((v10 - 1) < v7 →
            ((v6 v10 0) = (v6 (v10 - 1) 0) →
              v10 ≤ v7 ∧ (v10 ≤ v7 →
              v7 ≤ v7 ∧ (v7 ≤ v7 →
              False))) ∧
            (¬ ((v6 v10 0) = (v6 (v10 - 1) 0)) →
              (-9223372036854775808 ≤ (v10 + 1) ∧ (v10 + 1) ≤ 9223372036854775807) ∧ ((-9223372036854775808 ≤ (v10 + 1) ∧ (v10 + 1) ≤ 9223372036854775807) →
              I1 (v10 + 1) ∧ μ1 (v10 + 1) < μ1 v10))))))) ∧
          (¬ (v10 < v7) →
            (srP v8 v9 ∧ v9 < 50) ∧ (
            (v9 < 2 →
              v5 = (hidF pyS) v0 v1 v2 v3 ∧ v7 = (hidF pyN) v0 v1 v2 v3 ∧ (∀ (i : Int) (f : Nat), 0 ≤ i → i < (hidF pyN) v0 v1 v2 v3 → f < 1 → v6 i f = (hidF pyG) v0 v1 v2 v3 i f) ∧ v9 = (hidF pyM) v0 v1 v2 v3 ∧ (∀ (i : Int) (f : Nat), 0 ≤ i → i < (hidF pyM) v0 v1 v2 v3 → f < 1 → v8 i f = (hidF pyK) v0 v1 v2 v3 i f) ∧ True) ∧
            (¬ (v9 < 2) →
              ∃ (I2 : (Int) → Prop) (μ2 : (Int) → Nat), I2 (1 : Int) ∧ (∀ (v11 : Int), I2 v11 →
                (v11 < v9 →
                  0 ≤ v11 ∧ (0 ≤ v11 →
                  (-9223372036854775808 ≤ (v11 - 1) ∧ (v11 - 1) ≤ 9223372036854775807) ∧ ((-9223372036854775808 ≤ (v11 - 1) ∧ (v11 - 1) ≤ 9223372036854775807) →
                  0 ≤ (v11 - 1) ∧ (0 ≤ (v11 - 1) →
                  (v11 - 1) < v9 ∧ ((v11 - 1) < v9 →
                  ((v8 v11 0) = (v8 (v11 - 1) 0) →
                    v11 ≤ v9 ∧ (v11 ≤ v9 →
                    v9 ≤ v9 ∧ (v9 ≤ v9 →
                    False))) ∧
                  (¬ ((v8 v11 0) = (v8 (v11 - 1) 0)) →
                    (-9223372036854775808 ≤ (v11 + 1) ∧ (v11 + 1) ≤ 9223372036854775807) ∧ ((-9223372036854775808 ≤ (v11 + 1) ∧ (v11 + 1) ≤ 9223372036854775807) →
                    I2 (v11 + 1) ∧ μ2 (v11 + 1) < μ2 v11))))))) ∧
                (¬ (v11 < v9) →
                  v5 = (hidF pyS) v0 v1 v2 v3 ∧ v7 = (hidF pyN) v0 v1 v2 v3 ∧ (∀ (i : Int) (f : Nat), 0 ≤ i → i < (hidF pyN) v0 v1 v2 v3 → f < 1 → v6 i f = (hidF pyG) v0 v1 v2 v3 i f) ∧ v9 = (hidF pyM) v0 v1 v2 v3 ∧ (∀ (i : Int) (f : Nat), 0 ≤ i → i < (hidF pyM) v0 v1 v2 v3 → f < 1 → v8 i f = (hidF pyK) v0 v1 v2 v3 i f) ∧ True))))))))))))))))))
def VC14 : Prop :=
  ∀ (v0 : Int → Nat → Int) (v1 : Int) (v2 : Int → Nat → Int) (v3 : Int),
  (pyP v0 v1) →
  (0 ≤ v1 →
  (0 ≤ v3 →
  ∃ (I0 : (Int) → (Int) → (Int → Nat → Int) → (Int) → (Int → Nat → Int) → (Int) → Prop) (μ0 : (Int) → (Int) → (Int → Nat → Int) → (Int) → (Int → Nat → Int) → (Int) → Nat), I0 (0 : Int) (0 : Int) zA (0 : Int) zA (0 : Int) ∧ (∀ (v4 : Int) (v5 : Int) (v6 : Int → Nat → Int) (v7 : Int) (v8 : Int → Nat → Int) (v9 : Int), I0 v4 v5 v6 v7 v8 v9 →
    (0 ≤ v7 →
    (v7 ≤ 9223372036854775807 →
    (0 ≤ v9 →
    (v9 ≤ 9223372036854775807 →
    (v1 ≤ 9223372036854775807 →
    (v3 ≤ 9223372036854775807 →
    (v4 < v1 →
      0 ≤ v4 ∧ (0 ≤ v4 →
      (-9223372036854775808 ≤ (v4 + 1) ∧ (v4 + 1) ≤ 9223372036854775807) ∧ ((-9223372036854775808 ≤ (v4 + 1) ∧ (v4 + 1) ≤ 9223372036854775807) →
      ((v4 < v3 ∧ ¬ ((v2 v4 0) = 0)) →
        (0 ≤ v4 ∧ v4 < v1) ∧ (∀ (v10 : Bool), v10 = goB v0 v1 v4 → 
        (¬ (v10 = true) →
          (srP v6 v7 ∧ v7 < 50) ∧ (
          (v7 < 2 →
            (srP v8 v9 ∧ v9 < 50) ∧ (
            (v9 < 2 →
              (v4 + 1) = pyS v0 v1 v2 v3 ∧ v7 = pyN v0 v1 v2 v3 ∧ (∀ (i : Int) (f : Nat), 0 ≤ i → i < pyN v0 v1 v2 v3 → f < 1 → v6 i f = pyG v0 v1 v2 v3 i f) ∧ v9 = pyM v0 v1 v2 v3 ∧ (∀ (i : Int) (f : Nat), 0 ≤ i → i < pyM v0 v1 v2 v3 → f < 1 → v8 i f = pyK v0 v1 v2 v3 i f) ∧ True) ∧
            (¬ (v9 < 2) →
              ∃ (I1 : (Int) → Prop) (μ1 : (Int) → Nat), I1 (1 : Int) ∧ (∀ (v11 : Int), I1 v11 →
                (v11 < v9 →
                  0 ≤ v11 ∧ (0 ≤ v11 →
                  (-9223372036854775808 ≤ (v11 - 1) ∧ (v11 - 1) ≤ 9223372036854775807) ∧ ((-9223372036854775808 ≤ (v11 - 1) ∧ (v11 - 1) ≤ 9223372036854775807) →
                  0 ≤ (v11 - 1) ∧ (0 ≤ (v11 - 1) →
                  (v11 - 1) < v9 ∧ ((v11 - 1) < v9 →
                  ((v8 v11 0) = (v8 (v11 - 1) 0) →
                    v11 ≤ v9 ∧ (v11 ≤ v9 →
                    v9 ≤ v9 ∧ (v9 ≤ v9 →
                    False))) ∧
                  (¬ ((v8 v11 0) = (v8 (v11 - 1) 0)) →
                    (-9223372036854775808 ≤ (v11 + 1) ∧ (v11 + 1) ≤ 9223372036854775807) ∧ ((-9223372036854775808 ≤ (v11 + 1) ∧ (v11 + 1) ≤ 9223372036854775807) →
                    I1 (v11 + 1) ∧ μ1 (v11 + 1) < μ1 v11))))))) ∧
                (¬ (v11 < v9) →
                  (v4 + 1) = pyS v0 v1 v2 v3 ∧ v7 = pyN v0 v1 v2 v3 ∧ (∀ (i : Int) (f : Nat), 0 ≤ i → i < pyN v0 v1 v2 v3 → f < 1 → v6 i f = pyG v0 v1 v2 v3 i f) ∧ v9 = pyM v0 v1 v2 v3 ∧ (∀ (i : Int) (f : Nat), 0 ≤ i → i < pyM v0 v1 v2 v3 → f < 1 → v8 i f = pyK v0 v1 v2 v3 i f) ∧ True))))) ∧
          (¬ (v7 < 2) →
            ∃ (I1 : (Int) → Prop) (μ1 : (Int) → Nat), I1 (1 : Int) ∧ (∀ (v11 : Int), I1 v11 →
              (v11 < v7 →
                0 ≤ v11 ∧ (0 ≤ v11 →
                (-9223372036854775808 ≤ (v11 - 1) ∧ (v11 - 1) ≤ 9223372036854775807) ∧ ((-9223372036854775808 ≤ (v11 - 1) ∧ (v11 - 1) ≤ 9223372036854775807) →
                0 ≤ (v11 - 1) ∧ (0 ≤ (v11 - 1) →
                (v11 - 1) < v7 ∧ ((v11 - 1) < v7 →
                ((v6 v11 0) = (v6 (v11 - 1) 0) →
                  v11 ≤ v7 ∧ (v11 ≤ v7 →
                  v7 ≤ v7 ∧ (v7 ≤ v7 →
                  False))) ∧
                (¬ ((v6 v11 0) = (v6 (v11 - 1) 0)) →
                  (-9223372036854775808 ≤ (v11 + 1) ∧ (v11 + 1) ≤ 9223372036854775807) ∧ ((-9223372036854775808 ≤ (v11 + 1) ∧ (v11 + 1) ≤ 9223372036854775807) →
                  I1 (v11 + 1) ∧ μ1 (v11 + 1) < μ1 v11))))))) ∧
              (¬ (v11 < v7) →
                (srP v8 v9 ∧ v9 < 50) ∧ (
                (v9 < 2 →
                  (v4 + 1) = pyS v0 v1 v2 v3 ∧ v7 = pyN v0 v1 v2 v3 ∧ (∀ (i : Int) (f : Nat), 0 ≤ i → i < pyN v0 v1 v2 v3 → f < 1 → v6 i f = pyG v0 v1 v2 v3 i f) ∧ v9 = pyM v0 v1 v2 v3 ∧ (∀ (i : Int) (f : Nat), 0 ≤ i → i < pyM v0 v1 v2 v3 → f < 1 → v8 i f = pyK v0 v1 v2 v3 i f) ∧ True) ∧
                (¬ (v9 < 2) →
                  ∃ (I2 : (Int) → Prop) (μ2 : (Int) → Nat), I2 (1 : Int) ∧ (∀ (v12 : Int), I2 v12 →
                    (v12 < v9 →
                      0 ≤ v12 ∧ (0 ≤ v12 →
                      (-9223372036854775808 ≤ (v12 - 1) ∧ (v12 - 1) ≤ 9223372036854775807) ∧ ((-9223372036854775808 ≤ (v12 - 1) ∧ (v12 - 1) ≤ 9223372036854775807) →
                      0 ≤ (v12 - 1) ∧ (0 ≤ (v12 - 1) →
                      (v12 - 1) < v9 ∧ ((v12 - 1) < v9 →
                      ((v8 v12 0) = (v8 (v12 - 1) 0) →
                        v12 ≤ v9 ∧ (v12 ≤ v9 →
                        v9 ≤ v9 ∧ (v9 ≤ v9 →
                        False))) ∧
                      (¬ ((v8 v12 0) = (v8 (v12 - 1) 0)) →
                        (-9223372036854775808 ≤ (v12 + 1) ∧ (v12 + 1) ≤ 9223372036854775807) ∧ ((-9223372036854775808 ≤ (v12 + 1) ∧ (v12 + 1) ≤ 9223372036854775807) →
                        I2 (v12 + 1) ∧ μ2 (v12 + 1) < μ2 v12))))))) ∧
                    (¬ (v12 < v9) →
                      (v4 + 1) = pyS v0 v1 v2 v3 ∧ v7 = pyN v0 v1 v2 v3 ∧ (∀ (i : Int) (f : Nat), 0 ≤ i → i < pyN v0 v1 v2 v3 → f < 1 → v6 i f = pyG v0 v1 v2 v3 i f) ∧ v9 = pyM v0 v1 v2 v3 ∧ (∀ (i : Int) (f : Nat), 0 ≤ i → i < pyM v0 v1 v2 v3 → f < 1 → v8 i f = pyK v0 v1 v2 v3 i f) ∧ True))))))))) ∧
        (¬ (¬ (v10 = true)) →
          I0 (v4 + 1) (v4 + 1) v6 v7 v8 v9 ∧ μ0 (v4 + 1) (v4 + 1) v6 v7 v8 v9 < μ0 v4 v5 v6 v7 v8 v9))) ∧
      (¬ ((v4 < v3 ∧ ¬ ((v2 v4 0) = 0))) →
        ((v0 v4 0) = 4 →
          ((v7 + 1) * 8) ≤ 140737488355328 ∧ (((v7 + 1) * 8) ≤ 140737488355328 →
          (v7 + 1) ≤ 140737488355328 ∧ ((v7 + 1) ≤ 140737488355328 →
          I0 (v4 + 1) (v4 + 1) (appA v6 v7 (setA zA 0 0 (v0 v4 2))) (v7 + 1) v8 v9 ∧ μ0 (v4 + 1) (v4 + 1) (appA v6 v7 (setA zA 0 0 (v0 v4 2))) (v7 + 1) v8 v9 < μ0 v4 v5 v6 v7 v8 v9))) ∧
        (¬ ((v0 v4 0) = 4) →
          ((v0 v4 0) = 5 →
            ((v9 + 1) * 8) ≤ 140737488355328 ∧ (((v9 + 1) * 8) ≤ 140737488355328 →
            (v9 + 1) ≤ 140737488355328 ∧ ((v9 + 1) ≤ 140737488355328 →
            I0 (v4 + 1) (v4 + 1) v6 v7 (appA v8 v9 (setA zA 0 0 (v0 v4 2))) (v9 + 1) ∧ μ0 (v4 + 1) (v4 + 1) v6 v7 (appA v8 v9 (setA zA 0 0 (v0 v4 2))) (v9 + 1) < μ0 v4 v5 v6 v7 v8 v9))) ∧
          (¬ ((v0 v4 0) = 5) →
            ((v0 v4 0) = 7 →
              ((v9 + v7) * 8) ≤ 140737488355328 ∧ (((v9 + v7) * 8) ≤ 140737488355328 →
              (v9 + v7) ≤ 140737488355328 ∧ ((v9 + v7) ≤ 140737488355328 →
              I0 (v4 + 1) (v4 + 1) v6 v7 (appA v8 v9 v6) (v9 + v7) ∧ μ0 (v4 + 1) (v4 + 1) v6 v7 (appA v8 v9 v6) (v9 + v7) < μ0 v4 v5 v6 v7 v8 v9))) ∧
            (¬ ((v0 v4 0) = 7) →
              I0 (v4 + 1) (v4 + 1) v6 v7 v8 v9 ∧ μ0 (v4 + 1) (v4 + 1) v6 v7 v8 v9 < μ0 v4 v5 v6 v7 v8 v9))))))) ∧
    (¬ (v4 < v1) →
      (srP v6 v7 ∧ v7 < 50) ∧ (
      (v7 < 2 →
        (srP v8 v9 ∧ v9 < 50) ∧ (
        (v9 < 2 →
          v5 = pyS v0 v1 v2 v3 ∧ v7 = pyN v0 v1 v2 v3 ∧ (∀ (i : Int) (f : Nat), 0 ≤ i → i < pyN v0 v1 v2 v3 → f < 1 → v6 i f = pyG v0 v1 v2 v3 i f) ∧ v9 = pyM v0 v1 v2 v3 ∧ (∀ (i : Int) (f : Nat), 0 ≤ i → i < pyM v0 v1 v2 v3 → f < 1 → v8 i f = pyK v0 v1 v2 v3 i f) ∧ True) ∧
        (¬ (v9 < 2) →
          ∃ (I1 : (Int) → Prop) (μ1 : (Int) → Nat), I1 (1 : Int) ∧ (∀ (v10 : Int), I1 v10 →
            (v10 < v9 →
              0 ≤ v10 ∧ (0 ≤ v10 →
              (-9223372036854775808 ≤ (v10 - 1) ∧ (v10 - 1) ≤ 9223372036854775807) ∧ ((-9223372036854775808 ≤ (v10 - 1) ∧ (v10 - 1) ≤ 9223372036854775807) →
              0 ≤ (v10 - 1) ∧ (0 ≤ (v10 - 1) →
              (v10 - 1) < v9 ∧ ((v10 - 1) < v9 →
              ((v8 v10 0) = (v8 (v10 - 1) 0) →
                v10 ≤ v9 ∧ (v10 ≤ v9 →
                v9 ≤ v9 ∧ (v9 ≤ v9 →
                False))) ∧
              (¬ ((v8 v10 0) = (v8 (v10 - 1) 0)) →
                (-9223372036854775808 ≤ (v10 + 1) ∧ (v10 + 1) ≤ 9223372036854775807) ∧ ((-9223372036854775808 ≤ (v10 + 1) ∧ (v10 + 1) ≤ 9223372036854775807) →
                I1 (v10 + 1) ∧ μ1 (v10 + 1) < μ1 v10))))))) ∧
            (¬ (v10 < v9) →
              v5 = pyS v0 v1 v2 v3 ∧ v7 = pyN v0 v1 v2 v3 ∧ (∀ (i : Int) (f : Nat), 0 ≤ i → i < pyN v0 v1 v2 v3 → f < 1 → v6 i f = pyG v0 v1 v2 v3 i f) ∧ v9 = pyM v0 v1 v2 v3 ∧ (∀ (i : Int) (f : Nat), 0 ≤ i → i < pyM v0 v1 v2 v3 → f < 1 → v8 i f = pyK v0 v1 v2 v3 i f) ∧ True))))) ∧
      (¬ (v7 < 2) →
        ∃ (I1 : (Int) → Prop) (μ1 : (Int) → Nat), I1 (1 : Int) ∧ (∀ (v10 : Int), I1 v10 →
          (v10 < v7 →
            0 ≤ v10 ∧ (0 ≤ v10 →
            (-9223372036854775808 ≤ (v10 - 1) ∧ (v10 - 1) ≤ 9223372036854775807) ∧ ((-9223372036854775808 ≤ (v10 - 1) ∧ (v10 - 1) ≤ 9223372036854775807) →
            0 ≤ (v10 - 1) ∧ (0 ≤ (v10 - 1) →
            (v10 - 1) < v7 ∧ ((v10 - 1) < v7 →
            ((v6 v10 0) = (v6 (v10 - 1) 0) →
              v10 ≤ v7 ∧ (v10 ≤ v7 →
              v7 ≤ v7 ∧ (v7 ≤ v7 →
              False))) ∧
            (¬ ((v6 v10 0) = (v6 (v10 - 1) 0)) →
              (-9223372036854775808 ≤ (v10 + 1) ∧ (v10 + 1) ≤ 9223372036854775807) ∧ ((-9223372036854775808 ≤ (v10 + 1) ∧ (v10 + 1) ≤ 9223372036854775807) →
              I1 (v10 + 1) ∧ μ1 (v10 + 1) < μ1 v10))))))) ∧
          (¬ (v10 < v7) →
            (srP v8 v9 ∧ v9 < 50) ∧ (
            (v9 < 2 →
              v5 = pyS v0 v1 v2 v3 ∧ v7 = pyN v0 v1 v2 v3 ∧ (∀ (i : Int) (f : Nat), 0 ≤ i → i < pyN v0 v1 v2 v3 → f < 1 → v6 i f = pyG v0 v1 v2 v3 i f) ∧ v9 = pyM v0 v1 v2 v3 ∧ (∀ (i : Int) (f : Nat), 0 ≤ i → i < pyM v0 v1 v2 v3 → f < 1 → v8 i f = pyK v0 v1 v2 v3 i f) ∧ True) ∧
            (¬ (v9 < 2) →
              ∃ (I2 : (Int) → Prop) (μ2 : (Int) → Nat), I2 (1 : Int) ∧ (∀ (v11 : Int), I2 v11 →
                (v11 < v9 →
                  0 ≤ v11 ∧ (0 ≤ v11 →
                  (-9223372036854775808 ≤ (v11 - 1) ∧ (v11 - 1) ≤ 9223372036854775807) ∧ ((-9223372036854775808 ≤ (v11 - 1) ∧ (v11 - 1) ≤ 9223372036854775807) →
                  0 ≤ (v11 - 1) ∧ (0 ≤ (v11 - 1) →
                  (v11 - 1) < v9 ∧ ((v11 - 1) < v9 →
                  ((v8 v11 0) = (v8 (v11 - 1) 0) →
                    v11 ≤ v9 ∧ (v11 ≤ v9 →
                    v9 ≤ v9 ∧ (v9 ≤ v9 →
                    False))) ∧
                  (¬ ((v8 v11 0) = (v8 (v11 - 1) 0)) →
                    (-9223372036854775808 ≤ (v11 + 1) ∧ (v11 + 1) ≤ 9223372036854775807) ∧ ((-9223372036854775808 ≤ (v11 + 1) ∧ (v11 + 1) ≤ 9223372036854775807) →
                    I2 (v11 + 1) ∧ μ2 (v11 + 1) < μ2 v11))))))) ∧
                (¬ (v11 < v9) →
                  v5 = pyS v0 v1 v2 v3 ∧ v7 = pyN v0 v1 v2 v3 ∧ (∀ (i : Int) (f : Nat), 0 ≤ i → i < pyN v0 v1 v2 v3 → f < 1 → v6 i f = pyG v0 v1 v2 v3 i f) ∧ v9 = pyM v0 v1 v2 v3 ∧ (∀ (i : Int) (f : Nat), 0 ≤ i → i < pyM v0 v1 v2 v3 → f < 1 → v8 i f = pyK v0 v1 v2 v3 i f) ∧ True))))))))))))))))))
theorem vh14 (h : VC14) : VH14 := by
  unfold VH14
  rw [hidF_eq pyG, hidF_eq pyK, hidF_eq pyM, hidF_eq pyN, hidF_eq pyS]
  exact h
/-! hotspotlaw15.in -/
def sig15 : CSig := ⟨[⟨false, [.slc [.int .i64]]⟩, ⟨false, [.int .i64]⟩], [⟨false, [.bool]⟩]⟩
def pre15 : List AV → Prop
  | [.a v0, .i v1, .i v2] => True
  | _ => False
noncomputable def raw15 : List AV → List AV
  | [.a v0, .i v1, .i v2] => [.b ((hidF inA) v0 v1 v2)]
  | _ => []

def VH15 : Prop :=
  ∀ (v0 : Int → Nat → Int) (v1 : Int) (v2 : Int),
  (True) →
  (0 ≤ v1 →
  ∃ (I0 : (Int) → Prop) (μ0 : (Int) → Nat), I0 (0 : Int) ∧ (∀ (v3 : Int), I0 v3 →
    (v1 ≤ 9223372036854775807 →
    (v3 < v1 →
      0 ≤ v3 ∧ (0 ≤ v3 →
      ((v0 v3 0) = v2 →
        (True ↔ (hidF inA) v0 v1 v2 = true) ∧ True) ∧
      (¬ ((v0 v3 0) = v2) →
        (-9223372036854775808 ≤ (v3 + 1) ∧ (v3 + 1) ≤ 9223372036854775807) ∧ ((-9223372036854775808 ≤ (v3 + 1) ∧ (v3 + 1) ≤ 9223372036854775807) →
        I0 (v3 + 1) ∧ μ0 (v3 + 1) < μ0 v3)))) ∧
    (¬ (v3 < v1) →
      (False ↔ (hidF inA) v0 v1 v2 = true) ∧ True))))
def VC15 : Prop :=
  ∀ (v0 : Int → Nat → Int) (v1 : Int) (v2 : Int),
  (True) →
  (0 ≤ v1 →
  ∃ (I0 : (Int) → Prop) (μ0 : (Int) → Nat), I0 (0 : Int) ∧ (∀ (v3 : Int), I0 v3 →
    (v1 ≤ 9223372036854775807 →
    (v3 < v1 →
      0 ≤ v3 ∧ (0 ≤ v3 →
      ((v0 v3 0) = v2 →
        (True ↔ inA v0 v1 v2 = true) ∧ True) ∧
      (¬ ((v0 v3 0) = v2) →
        (-9223372036854775808 ≤ (v3 + 1) ∧ (v3 + 1) ≤ 9223372036854775807) ∧ ((-9223372036854775808 ≤ (v3 + 1) ∧ (v3 + 1) ≤ 9223372036854775807) →
        I0 (v3 + 1) ∧ μ0 (v3 + 1) < μ0 v3)))) ∧
    (¬ (v3 < v1) →
      (False ↔ inA v0 v1 v2 = true) ∧ True))))
theorem vh15 (h : VC15) : VH15 := by
  unfold VH15
  rw [hidF_eq inA]
  exact h
end Go.Proofs.Ytiiabaklipmbbaa
