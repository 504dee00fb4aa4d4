/- What the functions do, and what is left to show of each. -/
import Derived.Test.YtkagcjibneigdaaDoorC
import Derived.Test.YtkagcjibneigdaaDoorD4
set_option linter.unusedVariables false
namespace Go.Proofs.YtkagcjibneigdaaDoor
open Go Go.RowKit Go.Proofs.YtkagcjibneigdaaDoor.Vc
/-! contend.Even -/
def sig20 : CSig := ⟨[⟨true, [.slc [.int .u8, .int .i64, .int .i64, .int .i64, .int .i64, .int .i64, .int .i64], .mat [.bool], .bool, .int .i64]⟩], [⟨false, [.bool]⟩]⟩
def pre20 : List AV → Prop
  | [.a v0, .i v1, .m v2l v2f, .i v3, .b v4, .i v5] => u8P v0 v1
  | _ => False
noncomputable def raw20 : List AV → List AV
  | [.a v0, .i v1, .m v2l v2f, .i v3, .b v4, .i v5] => [.b ((hidF evB) v0 v1 v2l v2f v3 v4 v5)]
  | _ => []

def VH20 : Prop :=
  ∀ (v0 : Int → Nat → Int) (v1 : Int) (v2l : Int → Int) (v2f : Int → Int → Nat → Int) (v3 : Int) (v4 : Bool) (v5 : Int),
  (u8P v0 v1) →
  (0 ≤ v1 →
  (0 ≤ v3 →
  (u8P v0 v1) ∧ (∀ (v6 : Int), v6 = (hidF ccE) v0 v1 v2l v2f v3 v4 v5 → 
  (v1 ≤ 9223372036854775807 →
  (v3 ≤ 9223372036854775807 →
  (¬ (v6 = 0) →
    (False ↔ (hidF evB) v0 v1 v2l v2f v3 v4 v5 = true) ∧ True) ∧
  (¬ (¬ (v6 = 0)) →
    ∃ (I0 : (Int) → Prop) (μ0 : (Int) → Nat), I0 (0 : Int) ∧ (∀ (v7 : Int), I0 v7 →
      (v7 < v3 →
        0 ≤ v7 ∧ (0 ≤ v7 →
        ∃ (I1 : (Int) → Prop) (μ1 : (Int) → Nat), I1 (0 : Int) ∧ (∀ (v8 : Int), I1 v8 →
          (0 ≤ (v2l v7) →
          ((v2l v7) ≤ 9223372036854775807 →
          (v8 < (v2l v7) →
            0 ≤ v8 ∧ (0 ≤ v8 →
            v8 < v3 ∧ (v8 < v3 →
            v7 < (v2l v8) ∧ (v7 < (v2l v8) →
            (0 ≤ (v2l v8) →
            ((v2l v8) ≤ 9223372036854775807 →
            (¬ (((¬ (((rowA v2f v7) v8 0) = 0) ∧ ¬ (((rowA v2f v8) v7 0) = 0)) ∨ (((rowA v2f v7) v8 0) = 0 ∧ ((rowA v2f v8) v7 0) = 0))) →
              (False ↔ (hidF evB) v0 v1 v2l v2f v3 v4 v5 = true) ∧ True) ∧
            (¬ (¬ (((¬ (((rowA v2f v7) v8 0) = 0) ∧ ¬ (((rowA v2f v8) v7 0) = 0)) ∨ (((rowA v2f v7) v8 0) = 0 ∧ ((rowA v2f v8) v7 0) = 0)))) →
              (-9223372036854775808 ≤ (v8 + 1) ∧ (v8 + 1) ≤ 9223372036854775807) ∧ ((-9223372036854775808 ≤ (v8 + 1) ∧ (v8 + 1) ≤ 9223372036854775807) →
              I1 (v8 + 1) ∧ μ1 (v8 + 1) < μ1 v8)))))))) ∧
          (¬ (v8 < (v2l v7)) →
            (-9223372036854775808 ≤ (v7 + 1) ∧ (v7 + 1) ≤ 9223372036854775807) ∧ ((-9223372036854775808 ≤ (v7 + 1) ∧ (v7 + 1) ≤ 9223372036854775807) →
            I0 (v7 + 1) ∧ μ0 (v7 + 1) < μ0 v7))))))) ∧
      (¬ (v7 < v3) →
        (True ↔ (hidF evB) v0 v1 v2l v2f v3 v4 v5 = true) ∧ True))))))))
def VC20 : Prop :=
  ∀ (v0 : Int → Nat → Int) (v1 : Int) (v2l : Int → Int) (v2f : Int → Int → Nat → Int) (v3 : Int) (v4 : Bool) (v5 : Int),
  (u8P v0 v1) →
  (0 ≤ v1 →
  (0 ≤ v3 →
  (u8P v0 v1) ∧ (∀ (v6 : Int), v6 = ccE v0 v1 v2l v2f v3 v4 v5 → 
  (v1 ≤ 9223372036854775807 →
  (v3 ≤ 9223372036854775807 →
  (¬ (v6 = 0) →
    (False ↔ evB v0 v1 v2l v2f v3 v4 v5 = true) ∧ True) ∧
  (¬ (¬ (v6 = 0)) →
    ∃ (I0 : (Int) → Prop) (μ0 : (Int) → Nat), I0 (0 : Int) ∧ (∀ (v7 : Int), I0 v7 →
      (v7 < v3 →
        0 ≤ v7 ∧ (0 ≤ v7 →
        ∃ (I1 : (Int) → Prop) (μ1 : (Int) → Nat), I1 (0 : Int) ∧ (∀ (v8 : Int), I1 v8 →
          (0 ≤ (v2l v7) →
          ((v2l v7) ≤ 9223372036854775807 →
          (v8 < (v2l v7) →
            0 ≤ v8 ∧ (0 ≤ v8 →
            v8 < v3 ∧ (v8 < v3 →
            v7 < (v2l v8) ∧ (v7 < (v2l v8) →
            (0 ≤ (v2l v8) →
            ((v2l v8) ≤ 9223372036854775807 →
            (¬ (((¬ (((rowA v2f v7) v8 0) = 0) ∧ ¬ (((rowA v2f v8) v7 0) = 0)) ∨ (((rowA v2f v7) v8 0) = 0 ∧ ((rowA v2f v8) v7 0) = 0))) →
              (False ↔ evB v0 v1 v2l v2f v3 v4 v5 = true) ∧ True) ∧
            (¬ (¬ (((¬ (((rowA v2f v7) v8 0) = 0) ∧ ¬ (((rowA v2f v8) v7 0) = 0)) ∨ (((rowA v2f v7) v8 0) = 0 ∧ ((rowA v2f v8) v7 0) = 0)))) →
              (-9223372036854775808 ≤ (v8 + 1) ∧ (v8 + 1) ≤ 9223372036854775807) ∧ ((-9223372036854775808 ≤ (v8 + 1) ∧ (v8 + 1) ≤ 9223372036854775807) →
              I1 (v8 + 1) ∧ μ1 (v8 + 1) < μ1 v8)))))))) ∧
          (¬ (v8 < (v2l v7)) →
            (-9223372036854775808 ≤ (v7 + 1) ∧ (v7 + 1) ≤ 9223372036854775807) ∧ ((-9223372036854775808 ≤ (v7 + 1) ∧ (v7 + 1) ≤ 9223372036854775807) →
            I0 (v7 + 1) ∧ μ0 (v7 + 1) < μ0 v7))))))) ∧
      (¬ (v7 < v3) →
        (True ↔ evB v0 v1 v2l v2f v3 v4 v5 = true) ∧ True))))))))
theorem vh20 (h : VC20) : VH20 := by
  unfold VH20
  rw [hidF_eq ccE, hidF_eq evB]
  exact h
end Go.Proofs.YtkagcjibneigdaaDoor
