/- What the functions do, and what is left to show of each. -/
import Derived.Test.YtkagcjibneigdaaDoorC
set_option linter.unusedVariables false
namespace Go.Proofs.YtkagcjibneigdaaDoor
open Go Go.RowKit Go.Proofs.YtkagcjibneigdaaDoor.Vc
/-! hotspotref16.SameBursts -/
def sig15 : CSig := ⟨[⟨false, [.slc [.int .i64, .int .i64, .int .i64, .bool, .bool]]⟩, ⟨false, [.slc [.int .i64, .int .i64, .int .i64, .bool, .bool]]⟩], [⟨false, [.bool]⟩]⟩
def pre15 : List AV → Prop
  | [.a v0, .i v1, .a v2, .i v3] => True
  | _ => False
noncomputable def raw15 : List AV → List AV
  | [.a v0, .i v1, .a v2, .i v3] => [.b ((hidF sbB) v0 v1 v2 v3)]
  | _ => []

def VH15 : Prop :=
  ∀ (v0 : Int → Nat → Int) (v1 : Int) (v2 : Int → Nat → Int) (v3 : Int),
  (True) →
  (0 ≤ v1 →
  (0 ≤ v3 →
  (v1 ≤ 9223372036854775807 →
  (v3 ≤ 9223372036854775807 →
  (¬ (v1 = v3) →
    (False ↔ (hidF sbB) v0 v1 v2 v3 = true) ∧ True) ∧
  (¬ (¬ (v1 = v3)) →
    ∃ (I0 : (Int) → Prop) (μ0 : (Int) → Nat), I0 (0 : Int) ∧ (∀ (v4 : Int), I0 v4 →
      (v4 < v1 →
        0 ≤ v4 ∧ (0 ≤ v4 →
        v4 < v3 ∧ (v4 < v3 →
        (¬ (((v0 v4 0) = (v2 v4 0) ∧ ((v0 v4 1) = (v2 v4 1) ∧ ((v0 v4 2) = (v2 v4 2) ∧ (((¬ ((v0 v4 3) = 0) ∧ ¬ ((v2 v4 3) = 0)) ∨ ((v0 v4 3) = 0 ∧ (v2 v4 3) = 0)) ∧ ((¬ ((v0 v4 4) = 0) ∧ ¬ ((v2 v4 4) = 0)) ∨ ((v0 v4 4) = 0 ∧ (v2 v4 4) = 0))))))) →
          (False ↔ (hidF sbB) v0 v1 v2 v3 = true) ∧ True) ∧
        (¬ (¬ (((v0 v4 0) = (v2 v4 0) ∧ ((v0 v4 1) = (v2 v4 1) ∧ ((v0 v4 2) = (v2 v4 2) ∧ (((¬ ((v0 v4 3) = 0) ∧ ¬ ((v2 v4 3) = 0)) ∨ ((v0 v4 3) = 0 ∧ (v2 v4 3) = 0)) ∧ ((¬ ((v0 v4 4) = 0) ∧ ¬ ((v2 v4 4) = 0)) ∨ ((v0 v4 4) = 0 ∧ (v2 v4 4) = 0)))))))) →
          (-9223372036854775808 ≤ (v4 + 1) ∧ (v4 + 1) ≤ 9223372036854775807) ∧ ((-9223372036854775808 ≤ (v4 + 1) ∧ (v4 + 1) ≤ 9223372036854775807) →
          I0 (v4 + 1) ∧ μ0 (v4 + 1) < μ0 v4))))) ∧
      (¬ (v4 < v1) →
        (True ↔ (hidF sbB) v0 v1 v2 v3 = true) ∧ True)))))))
def VC15 : Prop :=
  ∀ (v0 : Int → Nat → Int) (v1 : Int) (v2 : Int → Nat → Int) (v3 : Int),
  (True) →
  (0 ≤ v1 →
  (0 ≤ v3 →
  (v1 ≤ 9223372036854775807 →
  (v3 ≤ 9223372036854775807 →
  (¬ (v1 = v3) →
    (False ↔ sbB v0 v1 v2 v3 = true) ∧ True) ∧
  (¬ (¬ (v1 = v3)) →
    ∃ (I0 : (Int) → Prop) (μ0 : (Int) → Nat), I0 (0 : Int) ∧ (∀ (v4 : Int), I0 v4 →
      (v4 < v1 →
        0 ≤ v4 ∧ (0 ≤ v4 →
        v4 < v3 ∧ (v4 < v3 →
        (¬ (((v0 v4 0) = (v2 v4 0) ∧ ((v0 v4 1) = (v2 v4 1) ∧ ((v0 v4 2) = (v2 v4 2) ∧ (((¬ ((v0 v4 3) = 0) ∧ ¬ ((v2 v4 3) = 0)) ∨ ((v0 v4 3) = 0 ∧ (v2 v4 3) = 0)) ∧ ((¬ ((v0 v4 4) = 0) ∧ ¬ ((v2 v4 4) = 0)) ∨ ((v0 v4 4) = 0 ∧ (v2 v4 4) = 0))))))) →
          (False ↔ sbB v0 v1 v2 v3 = true) ∧ True) ∧
        (¬ (¬ (((v0 v4 0) = (v2 v4 0) ∧ ((v0 v4 1) = (v2 v4 1) ∧ ((v0 v4 2) = (v2 v4 2) ∧ (((¬ ((v0 v4 3) = 0) ∧ ¬ ((v2 v4 3) = 0)) ∨ ((v0 v4 3) = 0 ∧ (v2 v4 3) = 0)) ∧ ((¬ ((v0 v4 4) = 0) ∧ ¬ ((v2 v4 4) = 0)) ∨ ((v0 v4 4) = 0 ∧ (v2 v4 4) = 0)))))))) →
          (-9223372036854775808 ≤ (v4 + 1) ∧ (v4 + 1) ≤ 9223372036854775807) ∧ ((-9223372036854775808 ≤ (v4 + 1) ∧ (v4 + 1) ≤ 9223372036854775807) →
          I0 (v4 + 1) ∧ μ0 (v4 + 1) < μ0 v4))))) ∧
      (¬ (v4 < v1) →
        (True ↔ sbB v0 v1 v2 v3 = true) ∧ True)))))))
theorem vh15 (h : VC15) : VH15 := by
  unfold VH15
  rw [hidF_eq sbB]
  exact h
/-! hotspotref16.Great -/
def sig11 : CSig := ⟨[⟨true, [.slc [.int .u8, .int .i64, .int .i64, .int .i64, .int .i64, .int .i64, .int .i64], .mat [.bool], .bool, .int .i64]⟩, ⟨false, [.int .i64]⟩], [⟨false, [.bool]⟩]⟩
def pre11 : List AV → Prop
  | [.a v0, .i v1, .m v2l v2f, .i v3, .b v4, .i v5, .i v6] => True
  | _ => False
noncomputable def raw11 : List AV → List AV
  | [.a v0, .i v1, .m v2l v2f, .i v3, .b v4, .i v5, .i v6] => [.b ((hidF gcB) v1 v2l v3 v5 v6)]
  | _ => []

def VH11 : Prop :=
  ∀ (v0 : Int → Nat → Int) (v1 : Int) (v2l : Int → Int) (v2f : Int → Int → Nat → Int) (v3 : Int) (v4 : Bool) (v5 : Int) (v6 : Int),
  (True) →
  (0 ≤ v1 →
  (0 ≤ v3 →
  (v1 ≤ 9223372036854775807 →
  (v3 ≤ 9223372036854775807 →
  (((20 < v1 ∨ 20 < v3) ∨ (v6 < v5 ∧ v5 ≤ 2000)) →
    (True ↔ (hidF gcB) v1 v2l v3 v5 v6 = true) ∧ True) ∧
  (¬ (((20 < v1 ∨ 20 < v3) ∨ (v6 < v5 ∧ v5 ≤ 2000))) →
    ∃ (I0 : (Int) → Prop) (μ0 : (Int) → Nat), I0 (0 : Int) ∧ (∀ (v7 : Int), I0 v7 →
      (v7 < v3 →
        0 ≤ v7 ∧ (0 ≤ v7 →
        (0 ≤ (v2l v7) →
        ((v2l v7) ≤ 9223372036854775807 →
        (20 < (v2l v7) →
          (True ↔ (hidF gcB) v1 v2l v3 v5 v6 = true) ∧ True) ∧
        (¬ (20 < (v2l v7)) →
          (-9223372036854775808 ≤ (v7 + 1) ∧ (v7 + 1) ≤ 9223372036854775807) ∧ ((-9223372036854775808 ≤ (v7 + 1) ∧ (v7 + 1) ≤ 9223372036854775807) →
          I0 (v7 + 1) ∧ μ0 (v7 + 1) < μ0 v7)))))) ∧
      (¬ (v7 < v3) →
        (False ↔ (hidF gcB) v1 v2l v3 v5 v6 = true) ∧ True)))))))
def VC11 : Prop :=
  ∀ (v0 : Int → Nat → Int) (v1 : Int) (v2l : Int → Int) (v2f : Int → Int → Nat → Int) (v3 : Int) (v4 : Bool) (v5 : Int) (v6 : Int),
  (True) →
  (0 ≤ v1 →
  (0 ≤ v3 →
  (v1 ≤ 9223372036854775807 →
  (v3 ≤ 9223372036854775807 →
  (((20 < v1 ∨ 20 < v3) ∨ (v6 < v5 ∧ v5 ≤ 2000)) →
    (True ↔ gcB v1 v2l v3 v5 v6 = true) ∧ True) ∧
  (¬ (((20 < v1 ∨ 20 < v3) ∨ (v6 < v5 ∧ v5 ≤ 2000))) →
    ∃ (I0 : (Int) → Prop) (μ0 : (Int) → Nat), I0 (0 : Int) ∧ (∀ (v7 : Int), I0 v7 →
      (v7 < v3 →
        0 ≤ v7 ∧ (0 ≤ v7 →
        (0 ≤ (v2l v7) →
        ((v2l v7) ≤ 9223372036854775807 →
        (20 < (v2l v7) →
          (True ↔ gcB v1 v2l v3 v5 v6 = true) ∧ True) ∧
        (¬ (20 < (v2l v7)) →
          (-9223372036854775808 ≤ (v7 + 1) ∧ (v7 + 1) ≤ 9223372036854775807) ∧ ((-9223372036854775808 ≤ (v7 + 1) ∧ (v7 + 1) ≤ 9223372036854775807) →
          I0 (v7 + 1) ∧ μ0 (v7 + 1) < μ0 v7)))))) ∧
      (¬ (v7 < v3) →
        (False ↔ gcB v1 v2l v3 v5 v6 = true) ∧ True)))))))
theorem vh11 (h : VC11) : VH11 := by
  unfold VH11
  rw [hidF_eq gcB]
  exact h
/-! hotspotlaw16.mesh -/
def sig12 : CSig := ⟨[⟨true, [.slc [.int .u8, .int .i64, .int .i64, .int .i64, .int .i64, .int .i64, .int .i64], .mat [.bool], .bool, .int .i64]⟩], [⟨false, [.bool]⟩]⟩
def pre12 : List AV → Prop
  | [.a v0, .i v1, .m v2l v2f, .i v3, .b v4, .i v5] => True
  | _ => False
noncomputable def raw12 : List AV → List AV
  | [.a v0, .i v1, .m v2l v2f, .i v3, .b v4, .i v5] => [.b ((hidF meB) v2l v2f v3)]
  | _ => []

def VH12 : Prop :=
  ∀ (v0 : Int → Nat → Int) (v1 : Int) (v2l : Int → Int) (v2f : Int → Int → Nat → Int) (v3 : Int) (v4 : Bool) (v5 : Int),
  (True) →
  (0 ≤ v1 →
  (0 ≤ v3 →
  ∃ (I0 : (Int) → Prop) (μ0 : (Int) → Nat), I0 (0 : Int) ∧ (∀ (v6 : Int), I0 v6 →
    (v1 ≤ 9223372036854775807 →
    (v3 ≤ 9223372036854775807 →
    (v6 < v3 →
      ∃ (I1 : (Int) → Prop) (μ1 : (Int) → Nat), I1 (0 : Int) ∧ (∀ (v7 : Int), I1 v7 →
        0 ≤ v6 ∧ (0 ≤ v6 →
        (0 ≤ (v2l v6) →
        ((v2l v6) ≤ 9223372036854775807 →
        (v7 < (v2l v6) →
          (v6 = v7 ∨ 0 ≤ v7) ∧ ((v6 = v7 ∨ 0 ≤ v7) →
          (v6 = v7 ∨ 0 ≤ v7) ∧ ((v6 = v7 ∨ 0 ≤ v7) →
          ((¬ (v6 = v7) ∧ ((rowA v2f v6) v7 0) = 0) →
            (False ↔ (hidF meB) v2l v2f v3 = true) ∧ True) ∧
          (¬ ((¬ (v6 = v7) ∧ ((rowA v2f v6) v7 0) = 0)) →
            (-9223372036854775808 ≤ (v7 + 1) ∧ (v7 + 1) ≤ 9223372036854775807) ∧ ((-9223372036854775808 ≤ (v7 + 1) ∧ (v7 + 1) ≤ 9223372036854775807) →
            I1 (v7 + 1) ∧ μ1 (v7 + 1) < μ1 v7))))) ∧
        (¬ (v7 < (v2l v6)) →
          (-9223372036854775808 ≤ (v6 + 1) ∧ (v6 + 1) ≤ 9223372036854775807) ∧ ((-9223372036854775808 ≤ (v6 + 1) ∧ (v6 + 1) ≤ 9223372036854775807) →
          I0 (v6 + 1) ∧ μ0 (v6 + 1) < μ0 v6))))))) ∧
    (¬ (v6 < v3) →
      (True ↔ (hidF meB) v2l v2f v3 = true) ∧ True))))))
def VC12 : Prop :=
  ∀ (v0 : Int → Nat → Int) (v1 : Int) (v2l : Int → Int) (v2f : Int → Int → Nat → Int) (v3 : Int) (v4 : Bool) (v5 : Int),
  (True) →
  (0 ≤ v1 →
  (0 ≤ v3 →
  ∃ (I0 : (Int) → Prop) (μ0 : (Int) → Nat), I0 (0 : Int) ∧ (∀ (v6 : Int), I0 v6 →
    (v1 ≤ 9223372036854775807 →
    (v3 ≤ 9223372036854775807 →
    (v6 < v3 →
      ∃ (I1 : (Int) → Prop) (μ1 : (Int) → Nat), I1 (0 : Int) ∧ (∀ (v7 : Int), I1 v7 →
        0 ≤ v6 ∧ (0 ≤ v6 →
        (0 ≤ (v2l v6) →
        ((v2l v6) ≤ 9223372036854775807 →
        (v7 < (v2l v6) →
          (v6 = v7 ∨ 0 ≤ v7) ∧ ((v6 = v7 ∨ 0 ≤ v7) →
          (v6 = v7 ∨ 0 ≤ v7) ∧ ((v6 = v7 ∨ 0 ≤ v7) →
          ((¬ (v6 = v7) ∧ ((rowA v2f v6) v7 0) = 0) →
            (False ↔ meB v2l v2f v3 = true) ∧ True) ∧
          (¬ ((¬ (v6 = v7) ∧ ((rowA v2f v6) v7 0) = 0)) →
            (-9223372036854775808 ≤ (v7 + 1) ∧ (v7 + 1) ≤ 9223372036854775807) ∧ ((-9223372036854775808 ≤ (v7 + 1) ∧ (v7 + 1) ≤ 9223372036854775807) →
            I1 (v7 + 1) ∧ μ1 (v7 + 1) < μ1 v7))))) ∧
        (¬ (v7 < (v2l v6)) →
          (-9223372036854775808 ≤ (v6 + 1) ∧ (v6 + 1) ≤ 9223372036854775807) ∧ ((-9223372036854775808 ≤ (v6 + 1) ∧ (v6 + 1) ≤ 9223372036854775807) →
          I0 (v6 + 1) ∧ μ0 (v6 + 1) < μ0 v6))))))) ∧
    (¬ (v6 < v3) →
      (True ↔ meB v2l v2f v3 = true) ∧ True))))))
theorem vh12 (h : VC12) : VH12 := by
  unfold VH12
  rw [hidF_eq meB]
  exact h
end Go.Proofs.YtkagcjibneigdaaDoor
