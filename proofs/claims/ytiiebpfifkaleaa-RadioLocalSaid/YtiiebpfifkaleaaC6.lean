/- What the functions do, and what is left to show of each. -/
import Derived.Test.YtiiebpfifkaleaaC
set_option linter.unusedVariables false
namespace Go.Proofs.Ytiiebpfifkaleaa
open Go Go.RowKit Go.Proofs.Ytiiebpfifkaleaa.Vc
/-! hotspotref10.Distance -/
def sig12 : CSig := ⟨[⟨false, [.int .i64]⟩, ⟨false, [.int .i64]⟩, ⟨false, [.int .i64]⟩, ⟨false, [.int .i64]⟩], [⟨false, [.int .i64]⟩, ⟨false, [.int .i64]⟩]⟩
def pre12 : List AV → Prop
  | [.i v0, .i v1, .i v2, .i v3] => True
  | _ => False
noncomputable def raw12 : List AV → List AV
  | [.i v0, .i v1, .i v2, .i v3] => [.i ((hidF dist) v0 v1 v2 v3), .i ((hidF diste) v0 v1 v2 v3)]
  | _ => []
/-! hotspotref10.Lost -/
def sig41 : CSig := ⟨[⟨false, [.int .i64]⟩], [⟨false, [.int .i64]⟩]⟩
def pre41 : List AV → Prop
  | [.i v0] => 0 ≤ v0 ∧ v0 ≤ 30000
  | _ => False
noncomputable def raw41 : List AV → List AV
  | [.i v0] => [.i ((hidF loss) v0)]
  | _ => []
/-! hotspotref10.In -/
def sig38 : CSig := ⟨[⟨false, [.int .i64]⟩, ⟨false, [.int .i64]⟩, ⟨false, [.int .i64]⟩], [⟨false, [.bool]⟩]⟩
def pre38 : List AV → Prop
  | [.i v0, .i v1, .i v2] => True
  | _ => False
noncomputable def raw38 : List AV → List AV
  | [.i v0, .i v1, .i v2] => [.b ((hidF inB) v0 v1 v2)]
  | _ => []

def VH38 : Prop :=
  ∀ (v0 : Int) (v1 : Int) (v2 : Int),
  (True) →
  ((v1 ≤ v0 ∧ v0 ≤ v2) ↔ (hidF inB) v0 v1 v2 = true) ∧ True
def VC38 : Prop :=
  ∀ (v0 : Int) (v1 : Int) (v2 : Int),
  (True) →
  ((v1 ≤ v0 ∧ v0 ≤ v2) ↔ inB v0 v1 v2 = true) ∧ True
theorem vh38 (h : VC38) : VH38 := by
  unfold VH38
  rw [hidF_eq inB]
  exact h
/-! hotspotref10.Valid -/
def sig57 : CSig := ⟨[⟨true, [.int .i64, .int .i64, .int .i64, .int .i64]⟩], [⟨false, [.bool]⟩]⟩
def pre57 : List AV → Prop
  | [.i v0, .i v1, .i v2, .i v3] => True
  | _ => False
noncomputable def raw57 : List AV → List AV
  | [.i v0, .i v1, .i v2, .i v3] => [.b ((hidF okW) v0 v1 v2 v3)]
  | _ => []

def VH57 : Prop :=
  ∀ (v0 : Int) (v1 : Int) (v2 : Int) (v3 : Int),
  (True) →
  (True) ∧ (∀ (v4 : Bool), v4 = (hidF inB) v0 (-10000 : Int) (10000 : Int) → 
  ((v4 = true → True)) ∧ (∀ (v5 : Bool), v5 = (hidF inB) v1 (-10000 : Int) (10000 : Int) → 
  (((v4 = true ∧ v5 = true) → True)) ∧ (∀ (v6 : Bool), v6 = (hidF inB) v2 (0 : Int) (300 : Int) → 
  ((((v4 = true ∧ v5 = true) ∧ v6 = true) → True)) ∧ (∀ (v7 : Bool), v7 = (hidF inB) v3 (1 : Int) (64 : Int) → 
  ((((v4 = true ∧ v5 = true) ∧ v6 = true) ∧ v7 = true) ↔ (hidF okW) v0 v1 v2 v3 = true) ∧ True))))
def VC57 : Prop :=
  ∀ (v0 : Int) (v1 : Int) (v2 : Int) (v3 : Int),
  (True) →
  (True) ∧ (∀ (v4 : Bool), v4 = inB v0 (-10000 : Int) (10000 : Int) → 
  ((v4 = true → True)) ∧ (∀ (v5 : Bool), v5 = inB v1 (-10000 : Int) (10000 : Int) → 
  (((v4 = true ∧ v5 = true) → True)) ∧ (∀ (v6 : Bool), v6 = inB v2 (0 : Int) (300 : Int) → 
  ((((v4 = true ∧ v5 = true) ∧ v6 = true) → True)) ∧ (∀ (v7 : Bool), v7 = inB v3 (1 : Int) (64 : Int) → 
  ((((v4 = true ∧ v5 = true) ∧ v6 = true) ∧ v7 = true) ↔ okW v0 v1 v2 v3 = true) ∧ True))))
theorem vh57 (h : VC57) : VH57 := by
  unfold VH57
  rw [hidF_eq inB, hidF_eq okW]
  exact h
/-! hotspotref10.Check -/
def sig31 : CSig := ⟨[⟨true, [.slc [.int .i64, .int .i64, .int .i64, .int .i64], .mat [.int .i64]]⟩], [⟨false, [.int .i64]⟩]⟩
def pre31 : List AV → Prop
  | [.a v0, .i v1, .m v2l v2f, .i v3] => True
  | _ => False
noncomputable def raw31 : List AV → List AV
  | [.a v0, .i v1, .m v2l v2f, .i v3] => [.i ((hidF ckW) v0 v1 v2l v2f v3)]
  | _ => []

def VH31 : Prop :=
  ∀ (v0 : Int → Nat → Int) (v1 : Int) (v2l : Int → Int) (v2f : Int → Int → Nat → Int) (v3 : Int),
  (True) →
  (0 ≤ v1 →
  (0 ≤ v3 →
  (True) ∧ (∀ (v4 : Bool), v4 = (hidF inB) v1 (1 : Int) (32 : Int) → 
  (v1 ≤ 9223372036854775807 →
  (v3 ≤ 9223372036854775807 →
  (¬ (v4 = true) →
    (8 : Int) = (hidF ckW) v0 v1 v2l v2f v3 ∧ True) ∧
  (¬ (¬ (v4 = true)) →
    ∃ (I0 : (Int) → Prop) (μ0 : (Int) → Nat), I0 (0 : Int) ∧ (∀ (v5 : Int), I0 v5 →
      (v5 < v1 →
        0 ≤ v5 ∧ (0 ≤ v5 →
        (True) ∧ (∀ (v6 : Bool), v6 = (hidF okW) (v0 v5 0) (v0 v5 1) (v0 v5 2) (v0 v5 3) → 
        (¬ (v6 = true) →
          (8 : Int) = (hidF ckW) v0 v1 v2l v2f v3 ∧ True) ∧
        (¬ (¬ (v6 = true)) →
          (-9223372036854775808 ≤ (v5 + 1) ∧ (v5 + 1) ≤ 9223372036854775807) ∧ ((-9223372036854775808 ≤ (v5 + 1) ∧ (v5 + 1) ≤ 9223372036854775807) →
          I0 (v5 + 1) ∧ μ0 (v5 + 1) < μ0 v5))))) ∧
      (¬ (v5 < v1) →
        (v3 = 0 →
          (0 : Int) = (hidF ckW) v0 v1 v2l v2f v3 ∧ True) ∧
        (¬ (v3 = 0) →
          (¬ (v3 = v1) →
            (8 : Int) = (hidF ckW) v0 v1 v2l v2f v3 ∧ True) ∧
          (¬ (¬ (v3 = v1)) →
            ∃ (I1 : (Int) → Prop) (μ1 : (Int) → Nat), I1 (0 : Int) ∧ (∀ (v6 : Int), I1 v6 →
              (v6 < v1 →
                0 ≤ v6 ∧ (0 ≤ v6 →
                v6 < v3 ∧ (v6 < v3 →
                (¬ ((v2l v6) = v1) ∨ v6 < (v2l v6)) ∧ ((¬ ((v2l v6) = v1) ∨ v6 < (v2l v6)) →
                (¬ ((v2l v6) = v1) ∨ v6 < (v2l v6)) ∧ ((¬ ((v2l v6) = v1) ∨ v6 < (v2l v6)) →
                (0 ≤ (v2l v6) →
                ((v2l v6) ≤ 9223372036854775807 →
                ((¬ ((v2l v6) = v1) ∨ ¬ (((rowA v2f v6) v6 0) = 0)) →
                  (8 : Int) = (hidF ckW) v0 v1 v2l v2f v3 ∧ True) ∧
                (¬ ((¬ ((v2l v6) = v1) ∨ ¬ (((rowA v2f v6) v6 0) = 0))) →
                  ∃ (I2 : (Int) → Prop) (μ2 : (Int) → Nat), I2 (0 : Int) ∧ (∀ (v7 : Int), I2 v7 →
                    (v7 < v1 →
                      0 ≤ v7 ∧ (0 ≤ v7 →
                      v7 < (v2l v6) ∧ (v7 < (v2l v6) →
                      (True) ∧ (∀ (v8 : Bool), v8 = (hidF inB) ((rowA v2f v6) v7 0) (0 : Int) (600 : Int) → 
                      (¬ (v8 = true) →
                        (8 : Int) = (hidF ckW) v0 v1 v2l v2f v3 ∧ True) ∧
                      (¬ (¬ (v8 = true)) →
                        (-9223372036854775808 ≤ (v7 + 1) ∧ (v7 + 1) ≤ 9223372036854775807) ∧ ((-9223372036854775808 ≤ (v7 + 1) ∧ (v7 + 1) ≤ 9223372036854775807) →
                        I2 (v7 + 1) ∧ μ2 (v7 + 1) < μ2 v7)))))) ∧
                    (¬ (v7 < v1) →
                      (-9223372036854775808 ≤ (v6 + 1) ∧ (v6 + 1) ≤ 9223372036854775807) ∧ ((-9223372036854775808 ≤ (v6 + 1) ∧ (v6 + 1) ≤ 9223372036854775807) →
                      I1 (v6 + 1) ∧ μ1 (v6 + 1) < μ1 v6))))))))))) ∧
              (¬ (v6 < v1) →
                (0 : Int) = (hidF ckW) v0 v1 v2l v2f v3 ∧ True))))))))))))
def VC31 : Prop :=
  ∀ (v0 : Int → Nat → Int) (v1 : Int) (v2l : Int → Int) (v2f : Int → Int → Nat → Int) (v3 : Int),
  (True) →
  (0 ≤ v1 →
  (0 ≤ v3 →
  (True) ∧ (∀ (v4 : Bool), v4 = inB v1 (1 : Int) (32 : Int) → 
  (v1 ≤ 9223372036854775807 →
  (v3 ≤ 9223372036854775807 →
  (¬ (v4 = true) →
    (8 : Int) = ckW v0 v1 v2l v2f v3 ∧ True) ∧
  (¬ (¬ (v4 = true)) →
    ∃ (I0 : (Int) → Prop) (μ0 : (Int) → Nat), I0 (0 : Int) ∧ (∀ (v5 : Int), I0 v5 →
      (v5 < v1 →
        0 ≤ v5 ∧ (0 ≤ v5 →
        (True) ∧ (∀ (v6 : Bool), v6 = okW (v0 v5 0) (v0 v5 1) (v0 v5 2) (v0 v5 3) → 
        (¬ (v6 = true) →
          (8 : Int) = ckW v0 v1 v2l v2f v3 ∧ True) ∧
        (¬ (¬ (v6 = true)) →
          (-9223372036854775808 ≤ (v5 + 1) ∧ (v5 + 1) ≤ 9223372036854775807) ∧ ((-9223372036854775808 ≤ (v5 + 1) ∧ (v5 + 1) ≤ 9223372036854775807) →
          I0 (v5 + 1) ∧ μ0 (v5 + 1) < μ0 v5))))) ∧
      (¬ (v5 < v1) →
        (v3 = 0 →
          (0 : Int) = ckW v0 v1 v2l v2f v3 ∧ True) ∧
        (¬ (v3 = 0) →
          (¬ (v3 = v1) →
            (8 : Int) = ckW v0 v1 v2l v2f v3 ∧ True) ∧
          (¬ (¬ (v3 = v1)) →
            ∃ (I1 : (Int) → Prop) (μ1 : (Int) → Nat), I1 (0 : Int) ∧ (∀ (v6 : Int), I1 v6 →
              (v6 < v1 →
                0 ≤ v6 ∧ (0 ≤ v6 →
                v6 < v3 ∧ (v6 < v3 →
                (¬ ((v2l v6) = v1) ∨ v6 < (v2l v6)) ∧ ((¬ ((v2l v6) = v1) ∨ v6 < (v2l v6)) →
                (¬ ((v2l v6) = v1) ∨ v6 < (v2l v6)) ∧ ((¬ ((v2l v6) = v1) ∨ v6 < (v2l v6)) →
                (0 ≤ (v2l v6) →
                ((v2l v6) ≤ 9223372036854775807 →
                ((¬ ((v2l v6) = v1) ∨ ¬ (((rowA v2f v6) v6 0) = 0)) →
                  (8 : Int) = ckW v0 v1 v2l v2f v3 ∧ True) ∧
                (¬ ((¬ ((v2l v6) = v1) ∨ ¬ (((rowA v2f v6) v6 0) = 0))) →
                  ∃ (I2 : (Int) → Prop) (μ2 : (Int) → Nat), I2 (0 : Int) ∧ (∀ (v7 : Int), I2 v7 →
                    (v7 < v1 →
                      0 ≤ v7 ∧ (0 ≤ v7 →
                      v7 < (v2l v6) ∧ (v7 < (v2l v6) →
                      (True) ∧ (∀ (v8 : Bool), v8 = inB ((rowA v2f v6) v7 0) (0 : Int) (600 : Int) → 
                      (¬ (v8 = true) →
                        (8 : Int) = ckW v0 v1 v2l v2f v3 ∧ True) ∧
                      (¬ (¬ (v8 = true)) →
                        (-9223372036854775808 ≤ (v7 + 1) ∧ (v7 + 1) ≤ 9223372036854775807) ∧ ((-9223372036854775808 ≤ (v7 + 1) ∧ (v7 + 1) ≤ 9223372036854775807) →
                        I2 (v7 + 1) ∧ μ2 (v7 + 1) < μ2 v7)))))) ∧
                    (¬ (v7 < v1) →
                      (-9223372036854775808 ≤ (v6 + 1) ∧ (v6 + 1) ≤ 9223372036854775807) ∧ ((-9223372036854775808 ≤ (v6 + 1) ∧ (v6 + 1) ≤ 9223372036854775807) →
                      I1 (v6 + 1) ∧ μ1 (v6 + 1) < μ1 v6))))))))))) ∧
              (¬ (v6 < v1) →
                (0 : Int) = ckW v0 v1 v2l v2f v3 ∧ True))))))))))))
theorem vh31 (h : VC31) : VH31 := by
  unfold VH31
  rw [hidF_eq ckW, hidF_eq inB, hidF_eq okW]
  exact h
/-! hotspotref10.Symmetric -/
def sig32 : CSig := ⟨[⟨true, [.slc [.int .i64, .int .i64, .int .i64, .int .i64], .mat [.int .i64]]⟩], [⟨false, [.bool]⟩]⟩
def pre32 : List AV → Prop
  | [.a v0, .i v1, .m v2l v2f, .i v3] => True
  | _ => False
noncomputable def raw32 : List AV → List AV
  | [.a v0, .i v1, .m v2l v2f, .i v3] => [.b ((hidF syW) v0 v1 v2l v2f v3)]
  | _ => []

def VH32 : Prop :=
  ∀ (v0 : Int → Nat → Int) (v1 : Int) (v2l : Int → Int) (v2f : Int → Int → Nat → Int) (v3 : Int),
  (True) →
  (0 ≤ v1 →
  (0 ≤ v3 →
  (True) ∧ (∀ (v4 : Int), v4 = (hidF ckW) v0 v1 v2l v2f v3 → 
  (v1 ≤ 9223372036854775807 →
  (v3 ≤ 9223372036854775807 →
  (¬ (v4 = 0) →
    (False ↔ (hidF syW) v0 v1 v2l v2f v3 = true) ∧ True) ∧
  (¬ (¬ (v4 = 0)) →
    ∃ (I0 : (Int) → Prop) (μ0 : (Int) → Nat), I0 (0 : Int) ∧ (∀ (v5 : Int), I0 v5 →
      (v5 < v3 →
        ∃ (I1 : (Int) → Prop) (μ1 : (Int) → Nat), I1 (0 : Int) ∧ (∀ (v6 : Int), I1 v6 →
          (v6 < v3 →
            0 ≤ v5 ∧ (0 ≤ v5 →
            0 ≤ v6 ∧ (0 ≤ v6 →
            v6 < (v2l v5) ∧ (v6 < (v2l v5) →
            v5 < (v2l v6) ∧ (v5 < (v2l v6) →
            (0 ≤ (v2l v5) →
            ((v2l v5) ≤ 9223372036854775807 →
            (0 ≤ (v2l v6) →
            ((v2l v6) ≤ 9223372036854775807 →
            (¬ (((rowA v2f v5) v6 0) = ((rowA v2f v6) v5 0)) →
              (False ↔ (hidF syW) v0 v1 v2l v2f v3 = true) ∧ True) ∧
            (¬ (¬ (((rowA v2f v5) v6 0) = ((rowA v2f v6) v5 0))) →
              (-9223372036854775808 ≤ (v6 + 1) ∧ (v6 + 1) ≤ 9223372036854775807) ∧ ((-9223372036854775808 ≤ (v6 + 1) ∧ (v6 + 1) ≤ 9223372036854775807) →
              I1 (v6 + 1) ∧ μ1 (v6 + 1) < μ1 v6))))))))))) ∧
          (¬ (v6 < v3) →
            (-9223372036854775808 ≤ (v5 + 1) ∧ (v5 + 1) ≤ 9223372036854775807) ∧ ((-9223372036854775808 ≤ (v5 + 1) ∧ (v5 + 1) ≤ 9223372036854775807) →
            I0 (v5 + 1) ∧ μ0 (v5 + 1) < μ0 v5)))) ∧
      (¬ (v5 < v3) →
        (True ↔ (hidF syW) v0 v1 v2l v2f v3 = true) ∧ True))))))))
def VC32 : Prop :=
  ∀ (v0 : Int → Nat → Int) (v1 : Int) (v2l : Int → Int) (v2f : Int → Int → Nat → Int) (v3 : Int),
  (True) →
  (0 ≤ v1 →
  (0 ≤ v3 →
  (True) ∧ (∀ (v4 : Int), v4 = ckW v0 v1 v2l v2f v3 → 
  (v1 ≤ 9223372036854775807 →
  (v3 ≤ 9223372036854775807 →
  (¬ (v4 = 0) →
    (False ↔ syW v0 v1 v2l v2f v3 = true) ∧ True) ∧
  (¬ (¬ (v4 = 0)) →
    ∃ (I0 : (Int) → Prop) (μ0 : (Int) → Nat), I0 (0 : Int) ∧ (∀ (v5 : Int), I0 v5 →
      (v5 < v3 →
        ∃ (I1 : (Int) → Prop) (μ1 : (Int) → Nat), I1 (0 : Int) ∧ (∀ (v6 : Int), I1 v6 →
          (v6 < v3 →
            0 ≤ v5 ∧ (0 ≤ v5 →
            0 ≤ v6 ∧ (0 ≤ v6 →
            v6 < (v2l v5) ∧ (v6 < (v2l v5) →
            v5 < (v2l v6) ∧ (v5 < (v2l v6) →
            (0 ≤ (v2l v5) →
            ((v2l v5) ≤ 9223372036854775807 →
            (0 ≤ (v2l v6) →
            ((v2l v6) ≤ 9223372036854775807 →
            (¬ (((rowA v2f v5) v6 0) = ((rowA v2f v6) v5 0)) →
              (False ↔ syW v0 v1 v2l v2f v3 = true) ∧ True) ∧
            (¬ (¬ (((rowA v2f v5) v6 0) = ((rowA v2f v6) v5 0))) →
              (-9223372036854775808 ≤ (v6 + 1) ∧ (v6 + 1) ≤ 9223372036854775807) ∧ ((-9223372036854775808 ≤ (v6 + 1) ∧ (v6 + 1) ≤ 9223372036854775807) →
              I1 (v6 + 1) ∧ μ1 (v6 + 1) < μ1 v6))))))))))) ∧
          (¬ (v6 < v3) →
            (-9223372036854775808 ≤ (v5 + 1) ∧ (v5 + 1) ≤ 9223372036854775807) ∧ ((-9223372036854775808 ≤ (v5 + 1) ∧ (v5 + 1) ≤ 9223372036854775807) →
            I0 (v5 + 1) ∧ μ0 (v5 + 1) < μ0 v5)))) ∧
      (¬ (v5 < v3) →
        (True ↔ syW v0 v1 v2l v2f v3 = true) ∧ True))))))))
theorem vh32 (h : VC32) : VH32 := by
  unfold VH32
  rw [hidF_eq ckW, hidF_eq syW]
  exact h
/-! hotspotref10.Leveled -/
def sig50 : CSig := ⟨[⟨true, [.slc [.int .i64, .int .i64, .int .i64, .int .i64], .mat [.int .i64]]⟩, ⟨false, [.int .i64]⟩, ⟨false, [.int .i64]⟩], [⟨false, [.int .i64]⟩]⟩
def pre50 : List AV → Prop
  | [.a v0, .i v1, .m v2l v2f, .i v3, .i v4, .i v5] => ckW v0 v1 v2l v2f v3 = 0 ∧ 0 ≤ v4 ∧ v4 < v1 ∧ 0 ≤ v5 ∧ v5 < v1
  | _ => False
noncomputable def raw50 : List AV → List AV
  | [.a v0, .i v1, .m v2l v2f, .i v3, .i v4, .i v5] => [.i ((hidF lvA) v0 v2f v3 v4 v5)]
  | _ => []

def VH50 : Prop :=
  ∀ (v0 : Int → Nat → Int) (v1 : Int) (v2l : Int → Int) (v2f : Int → Int → Nat → Int) (v3 : Int) (v4 : Int) (v5 : Int),
  (ckW v0 v1 v2l v2f v3 = 0 ∧ 0 ≤ v4 ∧ v4 < v1 ∧ 0 ≤ v5 ∧ v5 < v1) →
  (0 ≤ v1 →
  (0 ≤ v3 →
  0 ≤ v4 ∧ (0 ≤ v4 →
  v4 < v1 ∧ (v4 < v1 →
  0 ≤ v5 ∧ (0 ≤ v5 →
  v5 < v1 ∧ (v5 < v1 →
  (True) ∧ (∀ (v6 : Int) (v7 : Int), v6 = (hidF dist) (v0 v4 0) (v0 v4 1) (v0 v5 0) (v0 v5 1) → v7 = (hidF diste) (v0 v4 0) (v0 v4 1) (v0 v5 0) (v0 v5 1) → 
  (v1 ≤ 9223372036854775807 →
  (v3 ≤ 9223372036854775807 →
  (0 ≤ v6 ∧ v6 ≤ 30000) ∧ (∀ (v8 : Int), v8 = (hidF loss) v6 → 
  (-9223372036854775808 ≤ ((v0 v4 2) - v8) ∧ ((v0 v4 2) - v8) ≤ 9223372036854775807) ∧ ((-9223372036854775808 ≤ ((v0 v4 2) - v8) ∧ ((v0 v4 2) - v8) ≤ 9223372036854775807) →
  (0 < v3 →
    v4 < v3 ∧ (v4 < v3 →
    v5 < (v2l v4) ∧ (v5 < (v2l v4) →
    (-9223372036854775808 ≤ (((v0 v4 2) - v8) - ((rowA v2f v4) v5 0)) ∧ (((v0 v4 2) - v8) - ((rowA v2f v4) v5 0)) ≤ 9223372036854775807) ∧ ((-9223372036854775808 ≤ (((v0 v4 2) - v8) - ((rowA v2f v4) v5 0)) ∧ (((v0 v4 2) - v8) - ((rowA v2f v4) v5 0)) ≤ 9223372036854775807) →
    (((v0 v4 2) - v8) - ((rowA v2f v4) v5 0)) = (hidF lvA) v0 v2f v3 v4 v5 ∧ True)))) ∧
  (¬ (0 < v3) →
    ((v0 v4 2) - v8) = (hidF lvA) v0 v2f v3 v4 v5 ∧ True))))))))))))
def VC50 : Prop :=
  ∀ (v0 : Int → Nat → Int) (v1 : Int) (v2l : Int → Int) (v2f : Int → Int → Nat → Int) (v3 : Int) (v4 : Int) (v5 : Int),
  (ckW v0 v1 v2l v2f v3 = 0 ∧ 0 ≤ v4 ∧ v4 < v1 ∧ 0 ≤ v5 ∧ v5 < v1) →
  (0 ≤ v1 →
  (0 ≤ v3 →
  0 ≤ v4 ∧ (0 ≤ v4 →
  v4 < v1 ∧ (v4 < v1 →
  0 ≤ v5 ∧ (0 ≤ v5 →
  v5 < v1 ∧ (v5 < v1 →
  (True) ∧ (∀ (v6 : Int) (v7 : Int), v6 = dist (v0 v4 0) (v0 v4 1) (v0 v5 0) (v0 v5 1) → v7 = diste (v0 v4 0) (v0 v4 1) (v0 v5 0) (v0 v5 1) → 
  (v1 ≤ 9223372036854775807 →
  (v3 ≤ 9223372036854775807 →
  (0 ≤ v6 ∧ v6 ≤ 30000) ∧ (∀ (v8 : Int), v8 = loss v6 → 
  (-9223372036854775808 ≤ ((v0 v4 2) - v8) ∧ ((v0 v4 2) - v8) ≤ 9223372036854775807) ∧ ((-9223372036854775808 ≤ ((v0 v4 2) - v8) ∧ ((v0 v4 2) - v8) ≤ 9223372036854775807) →
  (0 < v3 →
    v4 < v3 ∧ (v4 < v3 →
    v5 < (v2l v4) ∧ (v5 < (v2l v4) →
    (-9223372036854775808 ≤ (((v0 v4 2) - v8) - ((rowA v2f v4) v5 0)) ∧ (((v0 v4 2) - v8) - ((rowA v2f v4) v5 0)) ≤ 9223372036854775807) ∧ ((-9223372036854775808 ≤ (((v0 v4 2) - v8) - ((rowA v2f v4) v5 0)) ∧ (((v0 v4 2) - v8) - ((rowA v2f v4) v5 0)) ≤ 9223372036854775807) →
    (((v0 v4 2) - v8) - ((rowA v2f v4) v5 0)) = lvA v0 v2f v3 v4 v5 ∧ True)))) ∧
  (¬ (0 < v3) →
    ((v0 v4 2) - v8) = lvA v0 v2f v3 v4 v5 ∧ True))))))))))))
theorem vh50 (h : VC50) : VH50 := by
  unfold VH50
  rw [hidF_eq dist, hidF_eq diste, hidF_eq loss, hidF_eq lvA]
  exact h
/-! hotspotref10.Asked -/
def sig44 : CSig := ⟨[⟨true, [.slc [.int .i64, .int .i64, .int .i64, .int .i64], .mat [.int .i64]]⟩, ⟨false, [.int .i64]⟩, ⟨false, [.int .i64]⟩], [⟨false, [.int .i64]⟩]⟩
def pre44 : List AV → Prop
  | [.a v0, .i v1, .m v2l v2f, .i v3, .i v4, .i v5] => True
  | _ => False
noncomputable def raw44 : List AV → List AV
  | [.a v0, .i v1, .m v2l v2f, .i v3, .i v4, .i v5] => [.i ((hidF lvE) v0 v1 v2l v2f v3 v4 v5)]
  | _ => []

def VH44 : Prop :=
  ∀ (v0 : Int → Nat → Int) (v1 : Int) (v2l : Int → Int) (v2f : Int → Int → Nat → Int) (v3 : Int) (v4 : Int) (v5 : Int),
  (True) →
  (0 ≤ v1 →
  (0 ≤ v3 →
  (True) ∧ (∀ (v6 : Int), v6 = (hidF ckW) v0 v1 v2l v2f v3 → 
  (v1 ≤ 9223372036854775807 →
  (v3 ≤ 9223372036854775807 →
  (¬ (v6 = 0) ∨ (-9223372036854775808 ≤ (v1 - 1) ∧ (v1 - 1) ≤ 9223372036854775807)) ∧ ((¬ (v6 = 0) ∨ (-9223372036854775808 ≤ (v1 - 1) ∧ (v1 - 1) ≤ 9223372036854775807)) →
  ((v6 = 0 → True)) ∧ (∀ (v7 : Bool), v7 = (hidF inB) v4 (0 : Int) (v1 - 1) → 
  (¬ ((v6 = 0 ∧ v7 = true)) ∨ (-9223372036854775808 ≤ (v1 - 1) ∧ (v1 - 1) ≤ 9223372036854775807)) ∧ ((¬ ((v6 = 0 ∧ v7 = true)) ∨ (-9223372036854775808 ≤ (v1 - 1) ∧ (v1 - 1) ≤ 9223372036854775807)) →
  (((v6 = 0 ∧ v7 = true) → True)) ∧ (∀ (v8 : Bool), v8 = (hidF inB) v5 (0 : Int) (v1 - 1) → 
  ((v6 = 0 ∧ (¬ (v7 = true) ∨ ¬ (v8 = true))) →
    (2 : Int) = (hidF lvE) v0 v1 v2l v2f v3 v4 v5 ∧ True) ∧
  (¬ ((v6 = 0 ∧ (¬ (v7 = true) ∨ ¬ (v8 = true)))) →
    v6 = (hidF lvE) v0 v1 v2l v2f v3 v4 v5 ∧ True))))))))))
def VC44 : Prop :=
  ∀ (v0 : Int → Nat → Int) (v1 : Int) (v2l : Int → Int) (v2f : Int → Int → Nat → Int) (v3 : Int) (v4 : Int) (v5 : Int),
  (True) →
  (0 ≤ v1 →
  (0 ≤ v3 →
  (True) ∧ (∀ (v6 : Int), v6 = ckW v0 v1 v2l v2f v3 → 
  (v1 ≤ 9223372036854775807 →
  (v3 ≤ 9223372036854775807 →
  (¬ (v6 = 0) ∨ (-9223372036854775808 ≤ (v1 - 1) ∧ (v1 - 1) ≤ 9223372036854775807)) ∧ ((¬ (v6 = 0) ∨ (-9223372036854775808 ≤ (v1 - 1) ∧ (v1 - 1) ≤ 9223372036854775807)) →
  ((v6 = 0 → True)) ∧ (∀ (v7 : Bool), v7 = inB v4 (0 : Int) (v1 - 1) → 
  (¬ ((v6 = 0 ∧ v7 = true)) ∨ (-9223372036854775808 ≤ (v1 - 1) ∧ (v1 - 1) ≤ 9223372036854775807)) ∧ ((¬ ((v6 = 0 ∧ v7 = true)) ∨ (-9223372036854775808 ≤ (v1 - 1) ∧ (v1 - 1) ≤ 9223372036854775807)) →
  (((v6 = 0 ∧ v7 = true) → True)) ∧ (∀ (v8 : Bool), v8 = inB v5 (0 : Int) (v1 - 1) → 
  ((v6 = 0 ∧ (¬ (v7 = true) ∨ ¬ (v8 = true))) →
    (2 : Int) = lvE v0 v1 v2l v2f v3 v4 v5 ∧ True) ∧
  (¬ ((v6 = 0 ∧ (¬ (v7 = true) ∨ ¬ (v8 = true)))) →
    v6 = lvE v0 v1 v2l v2f v3 v4 v5 ∧ True))))))))))
theorem vh44 (h : VC44) : VH44 := by
  unfold VH44
  rw [hidF_eq ckW, hidF_eq inB, hidF_eq lvE]
  exact h
/-! hotspotref10.Level -/
def sig26 : CSig := ⟨[⟨true, [.slc [.int .i64, .int .i64, .int .i64, .int .i64], .mat [.int .i64]]⟩, ⟨false, [.int .i64]⟩, ⟨false, [.int .i64]⟩], [⟨false, [.int .i64]⟩, ⟨false, [.int .i64]⟩]⟩
def pre26 : List AV → Prop
  | [.a v0, .i v1, .m v2l v2f, .i v3, .i v4, .i v5] => True
  | _ => False
noncomputable def raw26 : List AV → List AV
  | [.a v0, .i v1, .m v2l v2f, .i v3, .i v4, .i v5] => [.i ((hidF lvV) v0 v1 v2l v2f v3 v4 v5), .i ((hidF lvE) v0 v1 v2l v2f v3 v4 v5)]
  | _ => []

def VH26 : Prop :=
  ∀ (v0 : Int → Nat → Int) (v1 : Int) (v2l : Int → Int) (v2f : Int → Int → Nat → Int) (v3 : Int) (v4 : Int) (v5 : Int),
  (True) →
  (0 ≤ v1 →
  (0 ≤ v3 →
  (True) ∧ (∀ (v6 : Int), v6 = (hidF lvE) v0 v1 v2l v2f v3 v4 v5 → 
  (v1 ≤ 9223372036854775807 →
  (v3 ≤ 9223372036854775807 →
  (¬ (v6 = 0) →
    (0 : Int) = (hidF lvV) v0 v1 v2l v2f v3 v4 v5 ∧ v6 = (hidF lvE) v0 v1 v2l v2f v3 v4 v5 ∧ True) ∧
  (¬ (¬ (v6 = 0)) →
    (ckW v0 v1 v2l v2f v3 = 0 ∧ 0 ≤ v4 ∧ v4 < v1 ∧ 0 ≤ v5 ∧ v5 < v1) ∧ (∀ (v7 : Int), v7 = (hidF lvA) v0 v2f v3 v4 v5 → 
    v7 = (hidF lvV) v0 v1 v2l v2f v3 v4 v5 ∧ (0 : Int) = (hidF lvE) v0 v1 v2l v2f v3 v4 v5 ∧ True)))))))
def VC26 : Prop :=
  ∀ (v0 : Int → Nat → Int) (v1 : Int) (v2l : Int → Int) (v2f : Int → Int → Nat → Int) (v3 : Int) (v4 : Int) (v5 : Int),
  (True) →
  (0 ≤ v1 →
  (0 ≤ v3 →
  (True) ∧ (∀ (v6 : Int), v6 = lvE v0 v1 v2l v2f v3 v4 v5 → 
  (v1 ≤ 9223372036854775807 →
  (v3 ≤ 9223372036854775807 →
  (¬ (v6 = 0) →
    (0 : Int) = lvV v0 v1 v2l v2f v3 v4 v5 ∧ v6 = lvE v0 v1 v2l v2f v3 v4 v5 ∧ True) ∧
  (¬ (¬ (v6 = 0)) →
    (ckW v0 v1 v2l v2f v3 = 0 ∧ 0 ≤ v4 ∧ v4 < v1 ∧ 0 ≤ v5 ∧ v5 < v1) ∧ (∀ (v7 : Int), v7 = lvA v0 v2f v3 v4 v5 → 
    v7 = lvV v0 v1 v2l v2f v3 v4 v5 ∧ (0 : Int) = lvE v0 v1 v2l v2f v3 v4 v5 ∧ True)))))))
theorem vh26 (h : VC26) : VH26 := by
  unfold VH26
  rw [hidF_eq lvA, hidF_eq lvE, hidF_eq lvV]
  exact h
/-! hotspotref10.Heard -/
def sig51 : CSig := ⟨[⟨true, [.slc [.int .i64, .int .i64, .int .i64, .int .i64], .mat [.int .i64]]⟩, ⟨false, [.int .i64]⟩, ⟨false, [.int .i64]⟩], [⟨false, [.bool]⟩]⟩
def pre51 : List AV → Prop
  | [.a v0, .i v1, .m v2l v2f, .i v3, .i v4, .i v5] => ckW v0 v1 v2l v2f v3 = 0 ∧ 0 ≤ v4 ∧ v4 < v1 ∧ 0 ≤ v5 ∧ v5 < v1
  | _ => False
noncomputable def raw51 : List AV → List AV
  | [.a v0, .i v1, .m v2l v2f, .i v3, .i v4, .i v5] => [.b ((hidF hrA) v0 v2f v3 v4 v5)]
  | _ => []

def VH51 : Prop :=
  ∀ (v0 : Int → Nat → Int) (v1 : Int) (v2l : Int → Int) (v2f : Int → Int → Nat → Int) (v3 : Int) (v4 : Int) (v5 : Int),
  (ckW v0 v1 v2l v2f v3 = 0 ∧ 0 ≤ v4 ∧ v4 < v1 ∧ 0 ≤ v5 ∧ v5 < v1) →
  (0 ≤ v1 →
  (0 ≤ v3 →
  (v5 = v4 ∨ 0 ≤ v5) ∧ ((v5 = v4 ∨ 0 ≤ v5) →
  (v5 = v4 ∨ v5 < v1) ∧ ((v5 = v4 ∨ v5 < v1) →
  (v5 = v4 ∨ 0 ≤ v5) ∧ ((v5 = v4 ∨ 0 ≤ v5) →
  (v5 = v4 ∨ v5 < v1) ∧ ((v5 = v4 ∨ v5 < v1) →
  (v5 = v4 ∨ 0 ≤ v4) ∧ ((v5 = v4 ∨ 0 ≤ v4) →
  (v5 = v4 ∨ v4 < v1) ∧ ((v5 = v4 ∨ v4 < v1) →
  (v5 = v4 ∨ 0 ≤ v4) ∧ ((v5 = v4 ∨ 0 ≤ v4) →
  (v5 = v4 ∨ v4 < v1) ∧ ((v5 = v4 ∨ v4 < v1) →
  (((¬ (v5 = v4) ∧ (v0 v5 3) = (v0 v4 3)) → ckW v0 v1 v2l v2f v3 = 0 ∧ 0 ≤ v5 ∧ v5 < v1 ∧ 0 ≤ v4 ∧ v4 < v1)) ∧ (∀ (v6 : Int), v6 = (hidF lvA) v0 v2f v3 v5 v4 → 
  (v1 ≤ 9223372036854775807 →
  (v3 ≤ 9223372036854775807 →
  (((¬ (v5 = v4) ∧ (v0 v5 3) = (v0 v4 3)) ∧ (-820) ≤ v6) ↔ (hidF hrA) v0 v2f v3 v4 v5 = true) ∧ True)))))))))))))
def VC51 : Prop :=
  ∀ (v0 : Int → Nat → Int) (v1 : Int) (v2l : Int → Int) (v2f : Int → Int → Nat → Int) (v3 : Int) (v4 : Int) (v5 : Int),
  (ckW v0 v1 v2l v2f v3 = 0 ∧ 0 ≤ v4 ∧ v4 < v1 ∧ 0 ≤ v5 ∧ v5 < v1) →
  (0 ≤ v1 →
  (0 ≤ v3 →
  (v5 = v4 ∨ 0 ≤ v5) ∧ ((v5 = v4 ∨ 0 ≤ v5) →
  (v5 = v4 ∨ v5 < v1) ∧ ((v5 = v4 ∨ v5 < v1) →
  (v5 = v4 ∨ 0 ≤ v5) ∧ ((v5 = v4 ∨ 0 ≤ v5) →
  (v5 = v4 ∨ v5 < v1) ∧ ((v5 = v4 ∨ v5 < v1) →
  (v5 = v4 ∨ 0 ≤ v4) ∧ ((v5 = v4 ∨ 0 ≤ v4) →
  (v5 = v4 ∨ v4 < v1) ∧ ((v5 = v4 ∨ v4 < v1) →
  (v5 = v4 ∨ 0 ≤ v4) ∧ ((v5 = v4 ∨ 0 ≤ v4) →
  (v5 = v4 ∨ v4 < v1) ∧ ((v5 = v4 ∨ v4 < v1) →
  (((¬ (v5 = v4) ∧ (v0 v5 3) = (v0 v4 3)) → ckW v0 v1 v2l v2f v3 = 0 ∧ 0 ≤ v5 ∧ v5 < v1 ∧ 0 ≤ v4 ∧ v4 < v1)) ∧ (∀ (v6 : Int), v6 = lvA v0 v2f v3 v5 v4 → 
  (v1 ≤ 9223372036854775807 →
  (v3 ≤ 9223372036854775807 →
  (((¬ (v5 = v4) ∧ (v0 v5 3) = (v0 v4 3)) ∧ (-820) ≤ v6) ↔ hrA v0 v2f v3 v4 v5 = true) ∧ True)))))))))))))
theorem vh51 (h : VC51) : VH51 := by
  unfold VH51
  rw [hidF_eq hrA, hidF_eq lvA]
  exact h
/-! hotspotref10.Hears -/
def sig27 : CSig := ⟨[⟨true, [.slc [.int .i64, .int .i64, .int .i64, .int .i64], .mat [.int .i64]]⟩, ⟨false, [.int .i64]⟩, ⟨false, [.int .i64]⟩], [⟨false, [.bool]⟩, ⟨false, [.int .i64]⟩]⟩
def pre27 : List AV → Prop
  | [.a v0, .i v1, .m v2l v2f, .i v3, .i v4, .i v5] => True
  | _ => False
noncomputable def raw27 : List AV → List AV
  | [.a v0, .i v1, .m v2l v2f, .i v3, .i v4, .i v5] => [.b (((hidF hrV) v0 v1 v2l v2f v3 v4 v5)), .i ((hidF lvE) v0 v1 v2l v2f v3 v4 v5)]
  | _ => []

def VH27 : Prop :=
  ∀ (v0 : Int → Nat → Int) (v1 : Int) (v2l : Int → Int) (v2f : Int → Int → Nat → Int) (v3 : Int) (v4 : Int) (v5 : Int),
  (True) →
  (0 ≤ v1 →
  (0 ≤ v3 →
  (True) ∧ (∀ (v6 : Int), v6 = (hidF lvE) v0 v1 v2l v2f v3 v5 v4 → 
  (v1 ≤ 9223372036854775807 →
  (v3 ≤ 9223372036854775807 →
  (¬ (v6 = 0) →
    (False ↔ ((hidF hrV) v0 v1 v2l v2f v3 v4 v5) = true) ∧ v6 = (hidF lvE) v0 v1 v2l v2f v3 v4 v5 ∧ True) ∧
  (¬ (¬ (v6 = 0)) →
    (ckW v0 v1 v2l v2f v3 = 0 ∧ 0 ≤ v4 ∧ v4 < v1 ∧ 0 ≤ v5 ∧ v5 < v1) ∧ (∀ (v7 : Bool), v7 = (hidF hrA) v0 v2f v3 v4 v5 → 
    (v7 = true ↔ ((hidF hrV) v0 v1 v2l v2f v3 v4 v5) = true) ∧ (0 : Int) = (hidF lvE) v0 v1 v2l v2f v3 v4 v5 ∧ True)))))))
def VC27 : Prop :=
  ∀ (v0 : Int → Nat → Int) (v1 : Int) (v2l : Int → Int) (v2f : Int → Int → Nat → Int) (v3 : Int) (v4 : Int) (v5 : Int),
  (True) →
  (0 ≤ v1 →
  (0 ≤ v3 →
  (True) ∧ (∀ (v6 : Int), v6 = lvE v0 v1 v2l v2f v3 v5 v4 → 
  (v1 ≤ 9223372036854775807 →
  (v3 ≤ 9223372036854775807 →
  (¬ (v6 = 0) →
    (False ↔ (hrV v0 v1 v2l v2f v3 v4 v5) = true) ∧ v6 = lvE v0 v1 v2l v2f v3 v4 v5 ∧ True) ∧
  (¬ (¬ (v6 = 0)) →
    (ckW v0 v1 v2l v2f v3 = 0 ∧ 0 ≤ v4 ∧ v4 < v1 ∧ 0 ≤ v5 ∧ v5 < v1) ∧ (∀ (v7 : Bool), v7 = hrA v0 v2f v3 v4 v5 → 
    (v7 = true ↔ (hrV v0 v1 v2l v2f v3 v4 v5) = true) ∧ (0 : Int) = lvE v0 v1 v2l v2f v3 v4 v5 ∧ True)))))))
theorem vh27 (h : VC27) : VH27 := by
  unfold VH27
  rw [hidF_eq hrA, hidF_eq hrV, hidF_eq lvE]
  exact h
/-! hotspotref10.Neighbours -/
def sig29 : CSig := ⟨[⟨true, [.slc [.int .i64, .int .i64, .int .i64, .int .i64], .mat [.int .i64]]⟩, ⟨false, [.int .i64]⟩], [⟨false, [.slc [.int .i64]]⟩, ⟨false, [.int .i64]⟩]⟩
def pre29 : List AV → Prop
  | [.a v0, .i v1, .m v2l v2f, .i v3, .i v4] => True
  | _ => False
noncomputable def raw29 : List AV → List AV
  | [.a v0, .i v1, .m v2l v2f, .i v3, .i v4] => [.a ((hidF nbF) v0 v1 v2f v3 v4), .i ((hidF nbN) v0 v1 v2l v2f v3 v4), .i ((hidF lvE) v0 v1 v2l v2f v3 v4 v4)]
  | _ => []

def VH29 : Prop :=
  ∀ (v0 : Int → Nat → Int) (v1 : Int) (v2l : Int → Int) (v2f : Int → Int → Nat → Int) (v3 : Int) (v4 : Int),
  (True) →
  (0 ≤ v1 →
  (0 ≤ v3 →
  (True) ∧ (∀ (v5 : Int), v5 = (hidF lvE) v0 v1 v2l v2f v3 v4 v4 → 
  (v1 ≤ 9223372036854775807 →
  (v3 ≤ 9223372036854775807 →
  (¬ (v5 = 0) →
    (0 : Int) = (hidF nbN) v0 v1 v2l v2f v3 v4 ∧ (∀ (i : Int) (f : Nat), 0 ≤ i → i < (hidF nbN) v0 v1 v2l v2f v3 v4 → f < 1 → zA i f = (hidF nbF) v0 v1 v2f v3 v4 i f) ∧ v5 = (hidF lvE) v0 v1 v2l v2f v3 v4 v4 ∧ True) ∧
  (¬ (¬ (v5 = 0)) →
    ∃ (I0 : (Int → Nat → Int) → (Int) → (Int) → Prop) (μ0 : (Int → Nat → Int) → (Int) → (Int) → Nat), I0 zA (0 : Int) (0 : Int) ∧ (∀ (v6 : Int → Nat → Int) (v7 : Int) (v8 : Int), I0 v6 v7 v8 →
      (0 ≤ v7 →
      (v7 ≤ 9223372036854775807 →
      (v8 < v1 →
        (ckW v0 v1 v2l v2f v3 = 0 ∧ 0 ≤ v4 ∧ v4 < v1 ∧ 0 ≤ v8 ∧ v8 < v1) ∧ (∀ (v9 : Bool), v9 = (hidF hrA) v0 v2f v3 v4 v8 → 
        (v9 = true →
          ((v7 + 1) * 8) ≤ 140737488355328 ∧ (((v7 + 1) * 8) ≤ 140737488355328 →
          (v7 + 1) ≤ 140737488355328 ∧ ((v7 + 1) ≤ 140737488355328 →
          (-9223372036854775808 ≤ (v8 + 1) ∧ (v8 + 1) ≤ 9223372036854775807) ∧ ((-9223372036854775808 ≤ (v8 + 1) ∧ (v8 + 1) ≤ 9223372036854775807) →
          I0 (appA v6 v7 (setA zA 0 0 v8)) (v7 + 1) (v8 + 1) ∧ μ0 (appA v6 v7 (setA zA 0 0 v8)) (v7 + 1) (v8 + 1) < μ0 v6 v7 v8)))) ∧
        (¬ (v9 = true) →
          (-9223372036854775808 ≤ (v8 + 1) ∧ (v8 + 1) ≤ 9223372036854775807) ∧ ((-9223372036854775808 ≤ (v8 + 1) ∧ (v8 + 1) ≤ 9223372036854775807) →
          I0 v6 v7 (v8 + 1) ∧ μ0 v6 v7 (v8 + 1) < μ0 v6 v7 v8)))) ∧
      (¬ (v8 < v1) →
        v7 = (hidF nbN) v0 v1 v2l v2f v3 v4 ∧ (∀ (i : Int) (f : Nat), 0 ≤ i → i < (hidF nbN) v0 v1 v2l v2f v3 v4 → f < 1 → v6 i f = (hidF nbF) v0 v1 v2f v3 v4 i f) ∧ (0 : Int) = (hidF lvE) v0 v1 v2l v2f v3 v4 v4 ∧ True))))))))))
def VC29 : Prop :=
  ∀ (v0 : Int → Nat → Int) (v1 : Int) (v2l : Int → Int) (v2f : Int → Int → Nat → Int) (v3 : Int) (v4 : Int),
  (True) →
  (0 ≤ v1 →
  (0 ≤ v3 →
  (True) ∧ (∀ (v5 : Int), v5 = lvE v0 v1 v2l v2f v3 v4 v4 → 
  (v1 ≤ 9223372036854775807 →
  (v3 ≤ 9223372036854775807 →
  (¬ (v5 = 0) →
    (0 : Int) = nbN v0 v1 v2l v2f v3 v4 ∧ (∀ (i : Int) (f : Nat), 0 ≤ i → i < nbN v0 v1 v2l v2f v3 v4 → f < 1 → zA i f = nbF v0 v1 v2f v3 v4 i f) ∧ v5 = lvE v0 v1 v2l v2f v3 v4 v4 ∧ True) ∧
  (¬ (¬ (v5 = 0)) →
    ∃ (I0 : (Int → Nat → Int) → (Int) → (Int) → Prop) (μ0 : (Int → Nat → Int) → (Int) → (Int) → Nat), I0 zA (0 : Int) (0 : Int) ∧ (∀ (v6 : Int → Nat → Int) (v7 : Int) (v8 : Int), I0 v6 v7 v8 →
      (0 ≤ v7 →
      (v7 ≤ 9223372036854775807 →
      (v8 < v1 →
        (ckW v0 v1 v2l v2f v3 = 0 ∧ 0 ≤ v4 ∧ v4 < v1 ∧ 0 ≤ v8 ∧ v8 < v1) ∧ (∀ (v9 : Bool), v9 = hrA v0 v2f v3 v4 v8 → 
        (v9 = true →
          ((v7 + 1) * 8) ≤ 140737488355328 ∧ (((v7 + 1) * 8) ≤ 140737488355328 →
          (v7 + 1) ≤ 140737488355328 ∧ ((v7 + 1) ≤ 140737488355328 →
          (-9223372036854775808 ≤ (v8 + 1) ∧ (v8 + 1) ≤ 9223372036854775807) ∧ ((-9223372036854775808 ≤ (v8 + 1) ∧ (v8 + 1) ≤ 9223372036854775807) →
          I0 (appA v6 v7 (setA zA 0 0 v8)) (v7 + 1) (v8 + 1) ∧ μ0 (appA v6 v7 (setA zA 0 0 v8)) (v7 + 1) (v8 + 1) < μ0 v6 v7 v8)))) ∧
        (¬ (v9 = true) →
          (-9223372036854775808 ≤ (v8 + 1) ∧ (v8 + 1) ≤ 9223372036854775807) ∧ ((-9223372036854775808 ≤ (v8 + 1) ∧ (v8 + 1) ≤ 9223372036854775807) →
          I0 v6 v7 (v8 + 1) ∧ μ0 v6 v7 (v8 + 1) < μ0 v6 v7 v8)))) ∧
      (¬ (v8 < v1) →
        v7 = nbN v0 v1 v2l v2f v3 v4 ∧ (∀ (i : Int) (f : Nat), 0 ≤ i → i < nbN v0 v1 v2l v2f v3 v4 → f < 1 → v6 i f = nbF v0 v1 v2f v3 v4 i f) ∧ (0 : Int) = lvE v0 v1 v2l v2f v3 v4 v4 ∧ True))))))))))
theorem vh29 (h : VC29) : VH29 := by
  unfold VH29
  rw [hidF_eq hrA, hidF_eq lvE, hidF_eq nbF, hidF_eq nbN]
  exact h
/-! radio.Neighbours -/
def sig28 : CSig := ⟨[⟨true, [.slc [.int .i64, .int .i64, .int .i64, .int .i64], .mat [.int .i64]]⟩, ⟨false, [.int .i64]⟩], [⟨false, [.slc [.int .i64]]⟩, ⟨false, [.int .i64]⟩]⟩
def pre28 : List AV → Prop
  | [.a v0, .i v1, .m v2l v2f, .i v3, .i v4] => True
  | _ => False
noncomputable def raw28 : List AV → List AV
  | [.a v0, .i v1, .m v2l v2f, .i v3, .i v4] => [.a ((hidF nbF) v0 v1 v2f v3 v4), .i ((hidF nbN) v0 v1 v2l v2f v3 v4), .i ((hidF lvE) v0 v1 v2l v2f v3 v4 v4)]
  | _ => []

def VH28 : Prop :=
  ∀ (v0 : Int → Nat → Int) (v1 : Int) (v2l : Int → Int) (v2f : Int → Int → Nat → Int) (v3 : Int) (v4 : Int),
  (True) →
  (0 ≤ v1 →
  (0 ≤ v3 →
  ((1 : Int) ≤ 4) ∧ (∀ (v5 : Int), v5 = (hidF asW) v0 v1 v2l v2f v3 (setA zA 0 0 v4) (1 : Int) → 
  (v1 ≤ 9223372036854775807 →
  (v3 ≤ 9223372036854775807 →
  (¬ (v5 = 0) →
    (0 : Int) = (hidF nbN) v0 v1 v2l v2f v3 v4 ∧ (∀ (i : Int) (f : Nat), 0 ≤ i → i < (hidF nbN) v0 v1 v2l v2f v3 v4 → f < 1 → zA i f = (hidF nbF) v0 v1 v2f v3 v4 i f) ∧ v5 = (hidF lvE) v0 v1 v2l v2f v3 v4 v4 ∧ True) ∧
  (¬ (¬ (v5 = 0)) →
    ∃ (I0 : (Int) → (Int → Nat → Int) → (Int) → Prop) (μ0 : (Int) → (Int → Nat → Int) → (Int) → Nat), I0 (0 : Int) zA (0 : Int) ∧ (∀ (v6 : Int) (v7 : Int → Nat → Int) (v8 : Int), I0 v6 v7 v8 →
      (0 ≤ v8 →
      (v8 ≤ 9223372036854775807 →
      (v6 < v1 →
        (ckW v0 v1 v2l v2f v3 = 0 ∧ 0 ≤ v4 ∧ v4 < v1 ∧ 0 ≤ v6 ∧ v6 < v1) ∧ (∀ (v9 : Bool), v9 = (hidF hrA) v0 v2f v3 v4 v6 → 
        (v9 = true →
          ((v8 + 1) * 8) ≤ 140737488355328 ∧ (((v8 + 1) * 8) ≤ 140737488355328 →
          (v8 + 1) ≤ 140737488355328 ∧ ((v8 + 1) ≤ 140737488355328 →
          (-9223372036854775808 ≤ (v6 + 1) ∧ (v6 + 1) ≤ 9223372036854775807) ∧ ((-9223372036854775808 ≤ (v6 + 1) ∧ (v6 + 1) ≤ 9223372036854775807) →
          I0 (v6 + 1) (appA v7 v8 (setA zA 0 0 v6)) (v8 + 1) ∧ μ0 (v6 + 1) (appA v7 v8 (setA zA 0 0 v6)) (v8 + 1) < μ0 v6 v7 v8)))) ∧
        (¬ (v9 = true) →
          (-9223372036854775808 ≤ (v6 + 1) ∧ (v6 + 1) ≤ 9223372036854775807) ∧ ((-9223372036854775808 ≤ (v6 + 1) ∧ (v6 + 1) ≤ 9223372036854775807) →
          I0 (v6 + 1) v7 v8 ∧ μ0 (v6 + 1) v7 v8 < μ0 v6 v7 v8)))) ∧
      (¬ (v6 < v1) →
        v8 = (hidF nbN) v0 v1 v2l v2f v3 v4 ∧ (∀ (i : Int) (f : Nat), 0 ≤ i → i < (hidF nbN) v0 v1 v2l v2f v3 v4 → f < 1 → v7 i f = (hidF nbF) v0 v1 v2f v3 v4 i f) ∧ (0 : Int) = (hidF lvE) v0 v1 v2l v2f v3 v4 v4 ∧ True))))))))))
def VC28 : Prop :=
  ∀ (v0 : Int → Nat → Int) (v1 : Int) (v2l : Int → Int) (v2f : Int → Int → Nat → Int) (v3 : Int) (v4 : Int),
  (True) →
  (0 ≤ v1 →
  (0 ≤ v3 →
  ((1 : Int) ≤ 4) ∧ (∀ (v5 : Int), v5 = asW v0 v1 v2l v2f v3 (setA zA 0 0 v4) (1 : Int) → 
  (v1 ≤ 9223372036854775807 →
  (v3 ≤ 9223372036854775807 →
  (¬ (v5 = 0) →
    (0 : Int) = nbN v0 v1 v2l v2f v3 v4 ∧ (∀ (i : Int) (f : Nat), 0 ≤ i → i < nbN v0 v1 v2l v2f v3 v4 → f < 1 → zA i f = nbF v0 v1 v2f v3 v4 i f) ∧ v5 = lvE v0 v1 v2l v2f v3 v4 v4 ∧ True) ∧
  (¬ (¬ (v5 = 0)) →
    ∃ (I0 : (Int) → (Int → Nat → Int) → (Int) → Prop) (μ0 : (Int) → (Int → Nat → Int) → (Int) → Nat), I0 (0 : Int) zA (0 : Int) ∧ (∀ (v6 : Int) (v7 : Int → Nat → Int) (v8 : Int), I0 v6 v7 v8 →
      (0 ≤ v8 →
      (v8 ≤ 9223372036854775807 →
      (v6 < v1 →
        (ckW v0 v1 v2l v2f v3 = 0 ∧ 0 ≤ v4 ∧ v4 < v1 ∧ 0 ≤ v6 ∧ v6 < v1) ∧ (∀ (v9 : Bool), v9 = hrA v0 v2f v3 v4 v6 → 
        (v9 = true →
          ((v8 + 1) * 8) ≤ 140737488355328 ∧ (((v8 + 1) * 8) ≤ 140737488355328 →
          (v8 + 1) ≤ 140737488355328 ∧ ((v8 + 1) ≤ 140737488355328 →
          (-9223372036854775808 ≤ (v6 + 1) ∧ (v6 + 1) ≤ 9223372036854775807) ∧ ((-9223372036854775808 ≤ (v6 + 1) ∧ (v6 + 1) ≤ 9223372036854775807) →
          I0 (v6 + 1) (appA v7 v8 (setA zA 0 0 v6)) (v8 + 1) ∧ μ0 (v6 + 1) (appA v7 v8 (setA zA 0 0 v6)) (v8 + 1) < μ0 v6 v7 v8)))) ∧
        (¬ (v9 = true) →
          (-9223372036854775808 ≤ (v6 + 1) ∧ (v6 + 1) ≤ 9223372036854775807) ∧ ((-9223372036854775808 ≤ (v6 + 1) ∧ (v6 + 1) ≤ 9223372036854775807) →
          I0 (v6 + 1) v7 v8 ∧ μ0 (v6 + 1) v7 v8 < μ0 v6 v7 v8)))) ∧
      (¬ (v6 < v1) →
        v8 = nbN v0 v1 v2l v2f v3 v4 ∧ (∀ (i : Int) (f : Nat), 0 ≤ i → i < nbN v0 v1 v2l v2f v3 v4 → f < 1 → v7 i f = nbF v0 v1 v2f v3 v4 i f) ∧ (0 : Int) = lvE v0 v1 v2l v2f v3 v4 v4 ∧ True))))))))))
theorem vh28 (h : VC28) : VH28 := by
  unfold VH28
  rw [hidF_eq asW, hidF_eq hrA, hidF_eq lvE, hidF_eq nbF, hidF_eq nbN]
  exact h
/-! hotspotref10.SameInts -/
def sig33 : CSig := ⟨[⟨false, [.slc [.int .i64]]⟩, ⟨false, [.slc [.int .i64]]⟩], [⟨false, [.bool]⟩]⟩
def pre33 : List AV → Prop
  | [.a v0, .i v1, .a v2, .i v3] => True
  | _ => False
noncomputable def raw33 : List AV → List AV
  | [.a v0, .i v1, .a v2, .i v3] => [.b ((hidF saI) v0 v1 v2 v3)]
  | _ => []

def VH33 : Prop :=
  ∀ (v0 : Int → Nat → Int) (v1 : Int) (v2 : Int → Nat → Int) (v3 : Int),
  (True) →
  (0 ≤ v1 →
  (0 ≤ v3 →
  (v1 ≤ 9223372036854775807 →
  (v3 ≤ 9223372036854775807 →
  (¬ (v1 = v3) →
    (False ↔ (hidF saI) v0 v1 v2 v3 = true) ∧ True) ∧
  (¬ (¬ (v1 = v3)) →
    ∃ (I0 : (Int) → Prop) (μ0 : (Int) → Nat), I0 (0 : Int) ∧ (∀ (v4 : Int), I0 v4 →
      (v4 < v1 →
        0 ≤ v4 ∧ (0 ≤ v4 →
        v4 < v3 ∧ (v4 < v3 →
        (¬ ((v0 v4 0) = (v2 v4 0)) →
          (False ↔ (hidF saI) v0 v1 v2 v3 = true) ∧ True) ∧
        (¬ (¬ ((v0 v4 0) = (v2 v4 0))) →
          (-9223372036854775808 ≤ (v4 + 1) ∧ (v4 + 1) ≤ 9223372036854775807) ∧ ((-9223372036854775808 ≤ (v4 + 1) ∧ (v4 + 1) ≤ 9223372036854775807) →
          I0 (v4 + 1) ∧ μ0 (v4 + 1) < μ0 v4))))) ∧
      (¬ (v4 < v1) →
        (True ↔ (hidF saI) v0 v1 v2 v3 = true) ∧ True)))))))
def VC33 : Prop :=
  ∀ (v0 : Int → Nat → Int) (v1 : Int) (v2 : Int → Nat → Int) (v3 : Int),
  (True) →
  (0 ≤ v1 →
  (0 ≤ v3 →
  (v1 ≤ 9223372036854775807 →
  (v3 ≤ 9223372036854775807 →
  (¬ (v1 = v3) →
    (False ↔ saI v0 v1 v2 v3 = true) ∧ True) ∧
  (¬ (¬ (v1 = v3)) →
    ∃ (I0 : (Int) → Prop) (μ0 : (Int) → Nat), I0 (0 : Int) ∧ (∀ (v4 : Int), I0 v4 →
      (v4 < v1 →
        0 ≤ v4 ∧ (0 ≤ v4 →
        v4 < v3 ∧ (v4 < v3 →
        (¬ ((v0 v4 0) = (v2 v4 0)) →
          (False ↔ saI v0 v1 v2 v3 = true) ∧ True) ∧
        (¬ (¬ ((v0 v4 0) = (v2 v4 0))) →
          (-9223372036854775808 ≤ (v4 + 1) ∧ (v4 + 1) ≤ 9223372036854775807) ∧ ((-9223372036854775808 ≤ (v4 + 1) ∧ (v4 + 1) ≤ 9223372036854775807) →
          I0 (v4 + 1) ∧ μ0 (v4 + 1) < μ0 v4))))) ∧
      (¬ (v4 < v1) →
        (True ↔ saI v0 v1 v2 v3 = true) ∧ True)))))))
theorem vh33 (h : VC33) : VH33 := by
  unfold VH33
  rw [hidF_eq saI]
  exact h
/-! hotspotref10.Same -/
def sig21 : CSig := ⟨[⟨true, [.slc [.int .i64, .int .i64, .int .i64, .int .i64], .mat [.int .i64]]⟩, ⟨true, [.slc [.int .i64, .int .i64, .int .i64, .int .i64], .mat [.int .i64]]⟩], [⟨false, [.bool]⟩]⟩
def pre21 : List AV → Prop
  | [.a v0, .i v1, .m v2l v2f, .i v3, .a v4, .i v5, .m v6l v6f, .i v7] => True
  | _ => False
noncomputable def raw21 : List AV → List AV
  | [.a v0, .i v1, .m v2l v2f, .i v3, .a v4, .i v5, .m v6l v6f, .i v7] => [.b ((hidF smW) v0 v1 v2l v2f v3 v4 v5 v6l v6f v7)]
  | _ => []

def VH21 : Prop :=
  ∀ (v0 : Int → Nat → Int) (v1 : Int) (v2l : Int → Int) (v2f : Int → Int → Nat → Int) (v3 : Int) (v4 : Int → Nat → Int) (v5 : Int) (v6l : Int → Int) (v6f : Int → Int → Nat → Int) (v7 : Int),
  (True) →
  (0 ≤ v1 →
  (0 ≤ v3 →
  (0 ≤ v5 →
  (0 ≤ v7 →
  (v1 ≤ 9223372036854775807 →
  (v3 ≤ 9223372036854775807 →
  (v5 ≤ 9223372036854775807 →
  (v7 ≤ 9223372036854775807 →
  ((¬ (v1 = v5) ∨ ¬ (v3 = v7)) →
    (False ↔ (hidF smW) v0 v1 v2l v2f v3 v4 v5 v6l v6f v7 = true) ∧ True) ∧
  (¬ ((¬ (v1 = v5) ∨ ¬ (v3 = v7))) →
    ∃ (I0 : (Int) → Prop) (μ0 : (Int) → Nat), I0 (0 : Int) ∧ (∀ (v8 : Int), I0 v8 →
      (v8 < v1 →
        0 ≤ v8 ∧ (0 ≤ v8 →
        v8 < v5 ∧ (v8 < v5 →
        (¬ (((v0 v8 0) = (v4 v8 0) ∧ ((v0 v8 1) = (v4 v8 1) ∧ ((v0 v8 2) = (v4 v8 2) ∧ (v0 v8 3) = (v4 v8 3))))) →
          (False ↔ (hidF smW) v0 v1 v2l v2f v3 v4 v5 v6l v6f v7 = true) ∧ True) ∧
        (¬ (¬ (((v0 v8 0) = (v4 v8 0) ∧ ((v0 v8 1) = (v4 v8 1) ∧ ((v0 v8 2) = (v4 v8 2) ∧ (v0 v8 3) = (v4 v8 3)))))) →
          (-9223372036854775808 ≤ (v8 + 1) ∧ (v8 + 1) ≤ 9223372036854775807) ∧ ((-9223372036854775808 ≤ (v8 + 1) ∧ (v8 + 1) ≤ 9223372036854775807) →
          I0 (v8 + 1) ∧ μ0 (v8 + 1) < μ0 v8))))) ∧
      (¬ (v8 < v1) →
        ∃ (I1 : (Int) → Prop) (μ1 : (Int) → Nat), I1 (0 : Int) ∧ (∀ (v9 : Int), I1 v9 →
          (v9 < v3 →
            0 ≤ v9 ∧ (0 ≤ v9 →
            v9 < v7 ∧ (v9 < v7 →
            (True) ∧ (∀ (v10 : Bool), v10 = (hidF saI) (rowA v2f v9) (v2l v9) (rowA v6f v9) (v6l v9) → 
            (0 ≤ (v2l v9) →
            ((v2l v9) ≤ 9223372036854775807 →
            (0 ≤ (v6l v9) →
            ((v6l v9) ≤ 9223372036854775807 →
            (¬ (v10 = true) →
              (False ↔ (hidF smW) v0 v1 v2l v2f v3 v4 v5 v6l v6f v7 = true) ∧ True) ∧
            (¬ (¬ (v10 = true)) →
              (-9223372036854775808 ≤ (v9 + 1) ∧ (v9 + 1) ≤ 9223372036854775807) ∧ ((-9223372036854775808 ≤ (v9 + 1) ∧ (v9 + 1) ≤ 9223372036854775807) →
              I1 (v9 + 1) ∧ μ1 (v9 + 1) < μ1 v9)))))))))) ∧
          (¬ (v9 < v3) →
            (True ↔ (hidF smW) v0 v1 v2l v2f v3 v4 v5 v6l v6f v7 = true) ∧ True)))))))))))))
def VC21 : Prop :=
  ∀ (v0 : Int → Nat → Int) (v1 : Int) (v2l : Int → Int) (v2f : Int → Int → Nat → Int) (v3 : Int) (v4 : Int → Nat → Int) (v5 : Int) (v6l : Int → Int) (v6f : Int → Int → Nat → Int) (v7 : Int),
  (True) →
  (0 ≤ v1 →
  (0 ≤ v3 →
  (0 ≤ v5 →
  (0 ≤ v7 →
  (v1 ≤ 9223372036854775807 →
  (v3 ≤ 9223372036854775807 →
  (v5 ≤ 9223372036854775807 →
  (v7 ≤ 9223372036854775807 →
  ((¬ (v1 = v5) ∨ ¬ (v3 = v7)) →
    (False ↔ smW v0 v1 v2l v2f v3 v4 v5 v6l v6f v7 = true) ∧ True) ∧
  (¬ ((¬ (v1 = v5) ∨ ¬ (v3 = v7))) →
    ∃ (I0 : (Int) → Prop) (μ0 : (Int) → Nat), I0 (0 : Int) ∧ (∀ (v8 : Int), I0 v8 →
      (v8 < v1 →
        0 ≤ v8 ∧ (0 ≤ v8 →
        v8 < v5 ∧ (v8 < v5 →
        (¬ (((v0 v8 0) = (v4 v8 0) ∧ ((v0 v8 1) = (v4 v8 1) ∧ ((v0 v8 2) = (v4 v8 2) ∧ (v0 v8 3) = (v4 v8 3))))) →
          (False ↔ smW v0 v1 v2l v2f v3 v4 v5 v6l v6f v7 = true) ∧ True) ∧
        (¬ (¬ (((v0 v8 0) = (v4 v8 0) ∧ ((v0 v8 1) = (v4 v8 1) ∧ ((v0 v8 2) = (v4 v8 2) ∧ (v0 v8 3) = (v4 v8 3)))))) →
          (-9223372036854775808 ≤ (v8 + 1) ∧ (v8 + 1) ≤ 9223372036854775807) ∧ ((-9223372036854775808 ≤ (v8 + 1) ∧ (v8 + 1) ≤ 9223372036854775807) →
          I0 (v8 + 1) ∧ μ0 (v8 + 1) < μ0 v8))))) ∧
      (¬ (v8 < v1) →
        ∃ (I1 : (Int) → Prop) (μ1 : (Int) → Nat), I1 (0 : Int) ∧ (∀ (v9 : Int), I1 v9 →
          (v9 < v3 →
            0 ≤ v9 ∧ (0 ≤ v9 →
            v9 < v7 ∧ (v9 < v7 →
            (True) ∧ (∀ (v10 : Bool), v10 = saI (rowA v2f v9) (v2l v9) (rowA v6f v9) (v6l v9) → 
            (0 ≤ (v2l v9) →
            ((v2l v9) ≤ 9223372036854775807 →
            (0 ≤ (v6l v9) →
            ((v6l v9) ≤ 9223372036854775807 →
            (¬ (v10 = true) →
              (False ↔ smW v0 v1 v2l v2f v3 v4 v5 v6l v6f v7 = true) ∧ True) ∧
            (¬ (¬ (v10 = true)) →
              (-9223372036854775808 ≤ (v9 + 1) ∧ (v9 + 1) ≤ 9223372036854775807) ∧ ((-9223372036854775808 ≤ (v9 + 1) ∧ (v9 + 1) ≤ 9223372036854775807) →
              I1 (v9 + 1) ∧ μ1 (v9 + 1) < μ1 v9)))))))))) ∧
          (¬ (v9 < v3) →
            (True ↔ smW v0 v1 v2l v2f v3 v4 v5 v6l v6f v7 = true) ∧ True)))))))))))))
theorem vh21 (h : VC21) : VH21 := by
  unfold VH21
  rw [hidF_eq saI, hidF_eq smW]
  exact h
/-! hotspotref10.Twin -/
def sig16 : CSig := ⟨[⟨true, [.slc [.int .i64, .int .i64, .int .i64, .int .i64], .mat [.int .i64]]⟩], [⟨true, [.slc [.int .i64, .int .i64, .int .i64, .int .i64], .mat [.int .i64]]⟩]⟩
def pre16 : List AV → Prop
  | [.a v0, .i v1, .m v2l v2f, .i v3] => smallW v1 v2l v3
  | _ => False
noncomputable def raw16 : List AV → List AV
  | [.a v0, .i v1, .m v2l v2f, .i v3] => [.a (v0), .i (v1), .m (v2l) (v2f), .i (v3)]
  | _ => []

def VH16 : Prop :=
  ∀ (v0 : Int → Nat → Int) (v1 : Int) (v2l : Int → Int) (v2f : Int → Int → Nat → Int) (v3 : Int),
  (smallW v1 v2l v3) →
  (0 ≤ v1 →
  (0 ≤ v3 →
  (v1 * 32) ≤ 140737488355328 ∧ ((v1 * 32) ≤ 140737488355328 →
  v1 ≤ 140737488355328 ∧ (v1 ≤ 140737488355328 →
  ∃ (I0 : (Int → Int) → (Int → Int → Nat → Int) → (Int) → (Int) → Prop) (μ0 : (Int → Int) → (Int → Int → Nat → Int) → (Int) → (Int) → Nat), I0 (srL zL (-1) 0) (srF zF (-1) zA) (0 : Int) (0 : Int) ∧ (∀ (v4l : Int → Int) (v4f : Int → Int → Nat → Int) (v5 : Int) (v6 : Int), I0 v4l v4f v5 v6 →
    (v1 ≤ 9223372036854775807 →
    (v3 ≤ 9223372036854775807 →
    (0 ≤ v5 →
    (v5 ≤ 9223372036854775807 →
    (v6 < v3 →
      0 ≤ v6 ∧ (0 ≤ v6 →
      0 ≤ (v2l v6) ∧ (0 ≤ (v2l v6) →
      ((v2l v6) * 8) ≤ 140737488355328 ∧ (((v2l v6) * 8) ≤ 140737488355328 →
      (v2l v6) ≤ 140737488355328 ∧ ((v2l v6) ≤ 140737488355328 →
      ((v5 + 1) * 24) ≤ 140737488355328 ∧ (((v5 + 1) * 24) ≤ 140737488355328 →
      (v5 + 1) ≤ 140737488355328 ∧ ((v5 + 1) ≤ 140737488355328 →
      (-9223372036854775808 ≤ (v6 + 1) ∧ (v6 + 1) ≤ 9223372036854775807) ∧ ((-9223372036854775808 ≤ (v6 + 1) ∧ (v6 + 1) ≤ 9223372036854775807) →
      I0 (srL v4l v5 (v2l v6)) (srF v4f v5 (rowA v2f v6)) (v5 + 1) (v6 + 1) ∧ μ0 (srL v4l v5 (v2l v6)) (srF v4f v5 (rowA v2f v6)) (v5 + 1) (v6 + 1) < μ0 v4l v4f v5 v6)))))))) ∧
    (¬ (v6 < v3) →
      v1 = v1 ∧ (∀ (i : Int) (f : Nat), 0 ≤ i → i < v1 → f < 4 → v0 i f = v0 i f) ∧ v5 = v3 ∧ (∀ (i : Int), 0 ≤ i → i < v3 → v4l i = v2l i ∧ ∀ (j : Int) (f : Nat), 0 ≤ j → j < v2l i → f < 1 → v4f i j f = v2f i j f) ∧ True))))))))))
def VC16 : Prop :=
  ∀ (v0 : Int → Nat → Int) (v1 : Int) (v2l : Int → Int) (v2f : Int → Int → Nat → Int) (v3 : Int),
  (smallW v1 v2l v3) →
  (0 ≤ v1 →
  (0 ≤ v3 →
  (v1 * 32) ≤ 140737488355328 ∧ ((v1 * 32) ≤ 140737488355328 →
  v1 ≤ 140737488355328 ∧ (v1 ≤ 140737488355328 →
  ∃ (I0 : (Int → Int) → (Int → Int → Nat → Int) → (Int) → (Int) → Prop) (μ0 : (Int → Int) → (Int → Int → Nat → Int) → (Int) → (Int) → Nat), I0 (srL zL (-1) 0) (srF zF (-1) zA) (0 : Int) (0 : Int) ∧ (∀ (v4l : Int → Int) (v4f : Int → Int → Nat → Int) (v5 : Int) (v6 : Int), I0 v4l v4f v5 v6 →
    (v1 ≤ 9223372036854775807 →
    (v3 ≤ 9223372036854775807 →
    (0 ≤ v5 →
    (v5 ≤ 9223372036854775807 →
    (v6 < v3 →
      0 ≤ v6 ∧ (0 ≤ v6 →
      0 ≤ (v2l v6) ∧ (0 ≤ (v2l v6) →
      ((v2l v6) * 8) ≤ 140737488355328 ∧ (((v2l v6) * 8) ≤ 140737488355328 →
      (v2l v6) ≤ 140737488355328 ∧ ((v2l v6) ≤ 140737488355328 →
      ((v5 + 1) * 24) ≤ 140737488355328 ∧ (((v5 + 1) * 24) ≤ 140737488355328 →
      (v5 + 1) ≤ 140737488355328 ∧ ((v5 + 1) ≤ 140737488355328 →
      (-9223372036854775808 ≤ (v6 + 1) ∧ (v6 + 1) ≤ 9223372036854775807) ∧ ((-9223372036854775808 ≤ (v6 + 1) ∧ (v6 + 1) ≤ 9223372036854775807) →
      I0 (srL v4l v5 (v2l v6)) (srF v4f v5 (rowA v2f v6)) (v5 + 1) (v6 + 1) ∧ μ0 (srL v4l v5 (v2l v6)) (srF v4f v5 (rowA v2f v6)) (v5 + 1) (v6 + 1) < μ0 v4l v4f v5 v6)))))))) ∧
    (¬ (v6 < v3) →
      v1 = v1 ∧ (∀ (i : Int) (f : Nat), 0 ≤ i → i < v1 → f < 4 → v0 i f = v0 i f) ∧ v5 = v3 ∧ (∀ (i : Int), 0 ≤ i → i < v3 → v4l i = v2l i ∧ ∀ (j : Int) (f : Nat), 0 ≤ j → j < v2l i → f < 1 → v4f i j f = v2f i j f) ∧ True))))))))))
theorem vh16 (h : VC16) : VH16 := by
  unfold VH16
  exact h
/-! hotspotref10.Put -/
def sig45 : CSig := ⟨[⟨true, [.slc [.int .i64, .int .i64, .int .i64, .int .i64], .mat [.int .i64]]⟩, ⟨false, [.int .i64]⟩, ⟨true, [.int .i64, .int .i64, .int .i64, .int .i64]⟩], [⟨true, [.slc [.int .i64, .int .i64, .int .i64, .int .i64], .mat [.int .i64]]⟩, ⟨false, [.int .i64]⟩]⟩
def pre45 : List AV → Prop
  | [.a v0, .i v1, .m v2l v2f, .i v3, .i v4, .i v5, .i v6, .i v7, .i v8] => smallW v1 v2l v3 ∧ 0 ≤ v4 ∧ v4 < v1
  | _ => False
noncomputable def raw45 : List AV → List AV
  | [.a v0, .i v1, .m v2l v2f, .i v3, .i v4, .i v5, .i v6, .i v7, .i v8] => [.a ((hidF puA) v0 v4 v5 v6 v7 v8), .i ((hidF puN) ((hidF okW) v5 v6 v7 v8) v1), .m (v2l) (v2f), .i ((hidF puN) ((hidF okW) v5 v6 v7 v8) v3), .i ((hidF puE) ((hidF okW) v5 v6 v7 v8))]
  | _ => []

def VH45 : Prop :=
  ∀ (v0 : Int → Nat → Int) (v1 : Int) (v2l : Int → Int) (v2f : Int → Int → Nat → Int) (v3 : Int) (v4 : Int) (v5 : Int) (v6 : Int) (v7 : Int) (v8 : Int),
  (smallW v1 v2l v3 ∧ 0 ≤ v4 ∧ v4 < v1) →
  (0 ≤ v1 →
  (0 ≤ v3 →
  (True) ∧ (∀ (v9 : Bool), v9 = (hidF okW) v5 v6 v7 v8 → 
  (v1 ≤ 9223372036854775807 →
  (v3 ≤ 9223372036854775807 →
  (¬ (v9 = true) →
    (0 : Int) = (hidF puN) ((hidF okW) v5 v6 v7 v8) v1 ∧ (∀ (i : Int) (f : Nat), 0 ≤ i → i < (hidF puN) ((hidF okW) v5 v6 v7 v8) v1 → f < 4 → zA i f = (hidF puA) v0 v4 v5 v6 v7 v8 i f) ∧ (0 : Int) = (hidF puN) ((hidF okW) v5 v6 v7 v8) v3 ∧ (∀ (i : Int), 0 ≤ i → i < (hidF puN) ((hidF okW) v5 v6 v7 v8) v3 → zL i = v2l i ∧ ∀ (j : Int) (f : Nat), 0 ≤ j → j < v2l i → f < 1 → zF i j f = v2f i j f) ∧ (2 : Int) = (hidF puE) ((hidF okW) v5 v6 v7 v8) ∧ True) ∧
  (¬ (¬ (v9 = true)) →
    (smallW v1 v2l v3) ∧ (∀ (v10 : Int → Nat → Int) (v11 : Int) (v12l : Int → Int) (v12f : Int → Int → Nat → Int) (v13 : Int), v10 = v0 → v11 = v1 → v12l = v2l → v12f = v2f → v13 = v3 → 
    (0 ≤ v11 →
    (0 ≤ v13 →
    0 ≤ v4 ∧ (0 ≤ v4 →
    v4 < v11 ∧ (v4 < v11 →
    v11 = (hidF puN) ((hidF okW) v5 v6 v7 v8) v1 ∧ (∀ (i : Int) (f : Nat), 0 ≤ i → i < (hidF puN) ((hidF okW) v5 v6 v7 v8) v1 → f < 4 → (setA (setA (setA (setA v10 v4 0 v5) v4 1 v6) v4 2 v7) v4 3 v8) i f = (hidF puA) v0 v4 v5 v6 v7 v8 i f) ∧ v13 = (hidF puN) ((hidF okW) v5 v6 v7 v8) v3 ∧ (∀ (i : Int), 0 ≤ i → i < (hidF puN) ((hidF okW) v5 v6 v7 v8) v3 → v12l i = v2l i ∧ ∀ (j : Int) (f : Nat), 0 ≤ j → j < v2l i → f < 1 → v12f i j f = v2f i j f) ∧ (0 : Int) = (hidF puE) ((hidF okW) v5 v6 v7 v8) ∧ True)))))))))))
def VC45 : Prop :=
  ∀ (v0 : Int → Nat → Int) (v1 : Int) (v2l : Int → Int) (v2f : Int → Int → Nat → Int) (v3 : Int) (v4 : Int) (v5 : Int) (v6 : Int) (v7 : Int) (v8 : Int),
  (smallW v1 v2l v3 ∧ 0 ≤ v4 ∧ v4 < v1) →
  (0 ≤ v1 →
  (0 ≤ v3 →
  (True) ∧ (∀ (v9 : Bool), v9 = okW v5 v6 v7 v8 → 
  (v1 ≤ 9223372036854775807 →
  (v3 ≤ 9223372036854775807 →
  (¬ (v9 = true) →
    (0 : Int) = puN (okW v5 v6 v7 v8) v1 ∧ (∀ (i : Int) (f : Nat), 0 ≤ i → i < puN (okW v5 v6 v7 v8) v1 → f < 4 → zA i f = puA v0 v4 v5 v6 v7 v8 i f) ∧ (0 : Int) = puN (okW v5 v6 v7 v8) v3 ∧ (∀ (i : Int), 0 ≤ i → i < puN (okW v5 v6 v7 v8) v3 → zL i = v2l i ∧ ∀ (j : Int) (f : Nat), 0 ≤ j → j < v2l i → f < 1 → zF i j f = v2f i j f) ∧ (2 : Int) = puE (okW v5 v6 v7 v8) ∧ True) ∧
  (¬ (¬ (v9 = true)) →
    (smallW v1 v2l v3) ∧ (∀ (v10 : Int → Nat → Int) (v11 : Int) (v12l : Int → Int) (v12f : Int → Int → Nat → Int) (v13 : Int), v10 = v0 → v11 = v1 → v12l = v2l → v12f = v2f → v13 = v3 → 
    (0 ≤ v11 →
    (0 ≤ v13 →
    0 ≤ v4 ∧ (0 ≤ v4 →
    v4 < v11 ∧ (v4 < v11 →
    v11 = puN (okW v5 v6 v7 v8) v1 ∧ (∀ (i : Int) (f : Nat), 0 ≤ i → i < puN (okW v5 v6 v7 v8) v1 → f < 4 → (setA (setA (setA (setA v10 v4 0 v5) v4 1 v6) v4 2 v7) v4 3 v8) i f = puA v0 v4 v5 v6 v7 v8 i f) ∧ v13 = puN (okW v5 v6 v7 v8) v3 ∧ (∀ (i : Int), 0 ≤ i → i < puN (okW v5 v6 v7 v8) v3 → v12l i = v2l i ∧ ∀ (j : Int) (f : Nat), 0 ≤ j → j < v2l i → f < 1 → v12f i j f = v2f i j f) ∧ (0 : Int) = puE (okW v5 v6 v7 v8) ∧ True)))))))))))
theorem vh45 (h : VC45) : VH45 := by
  unfold VH45
  rw [hidF_eq okW, hidF_eq puA, hidF_eq puE, hidF_eq puN]
  exact h
/-! hotspotref10.Move -/
def sig18 : CSig := ⟨[⟨true, [.slc [.int .i64, .int .i64, .int .i64, .int .i64], .mat [.int .i64]]⟩, ⟨false, [.int .i64]⟩, ⟨false, [.int .i64]⟩, ⟨false, [.int .i64]⟩], [⟨true, [.slc [.int .i64, .int .i64, .int .i64, .int .i64], .mat [.int .i64]]⟩, ⟨false, [.int .i64]⟩]⟩
def pre18 : List AV → Prop
  | [.a v0, .i v1, .m v2l v2f, .i v3, .i v4, .i v5, .i v6] => True
  | _ => False
noncomputable def raw18 : List AV → List AV
  | [.a v0, .i v1, .m v2l v2f, .i v3, .i v4, .i v5, .i v6] => [.a ((hidF puA) v0 v4 v5 v6 (v0 v4 2) (v0 v4 3)), .i ((hidF mvN) v0 v1 v2l v2f v3 v4 v5 v6 (v0 v4 2) (v0 v4 3) v1), .m (v2l) (v2f), .i ((hidF mvN) v0 v1 v2l v2f v3 v4 v5 v6 (v0 v4 2) (v0 v4 3) v3), .i ((hidF mvE) v0 v1 v2l v2f v3 v4 v5 v6 (v0 v4 2) (v0 v4 3))]
  | _ => []

def VH18 : Prop :=
  ∀ (v0 : Int → Nat → Int) (v1 : Int) (v2l : Int → Int) (v2f : Int → Int → Nat → Int) (v3 : Int) (v4 : Int) (v5 : Int) (v6 : Int),
  (True) →
  (0 ≤ v1 →
  (0 ≤ v3 →
  (True) ∧ (∀ (v7 : Int), v7 = (hidF lvE) v0 v1 v2l v2f v3 v4 v4 → 
  (v1 ≤ 9223372036854775807 →
  (v3 ≤ 9223372036854775807 →
  (¬ (v7 = 0) →
    (0 : Int) = (hidF mvN) v0 v1 v2l v2f v3 v4 v5 v6 (v0 v4 2) (v0 v4 3) v1 ∧ (∀ (i : Int) (f : Nat), 0 ≤ i → i < (hidF mvN) v0 v1 v2l v2f v3 v4 v5 v6 (v0 v4 2) (v0 v4 3) v1 → f < 4 → zA i f = (hidF puA) v0 v4 v5 v6 (v0 v4 2) (v0 v4 3) i f) ∧ (0 : Int) = (hidF mvN) v0 v1 v2l v2f v3 v4 v5 v6 (v0 v4 2) (v0 v4 3) v3 ∧ (∀ (i : Int), 0 ≤ i → i < (hidF mvN) v0 v1 v2l v2f v3 v4 v5 v6 (v0 v4 2) (v0 v4 3) v3 → zL i = v2l i ∧ ∀ (j : Int) (f : Nat), 0 ≤ j → j < v2l i → f < 1 → zF i j f = v2f i j f) ∧ v7 = (hidF mvE) v0 v1 v2l v2f v3 v4 v5 v6 (v0 v4 2) (v0 v4 3) ∧ True) ∧
  (¬ (¬ (v7 = 0)) →
    0 ≤ v4 ∧ (0 ≤ v4 →
    v4 < v1 ∧ (v4 < v1 →
    (smallW v1 v2l v3 ∧ 0 ≤ v4 ∧ v4 < v1) ∧ (∀ (v8 : Int → Nat → Int) (v9 : Int) (v10l : Int → Int) (v10f : Int → Int → Nat → Int) (v11 : Int) (v12 : Int), v8 = (hidF puA) v0 v4 v5 v6 (v0 v4 2) (v0 v4 3) → v9 = (hidF puN) ((hidF okW) v5 v6 (v0 v4 2) (v0 v4 3)) v1 → v10l = v2l → v10f = v2f → v11 = (hidF puN) ((hidF okW) v5 v6 (v0 v4 2) (v0 v4 3)) v3 → v12 = (hidF puE) ((hidF okW) v5 v6 (v0 v4 2) (v0 v4 3)) → 
    (0 ≤ v9 →
    (0 ≤ v11 →
    v9 = (hidF mvN) v0 v1 v2l v2f v3 v4 v5 v6 (v0 v4 2) (v0 v4 3) v1 ∧ (∀ (i : Int) (f : Nat), 0 ≤ i → i < (hidF mvN) v0 v1 v2l v2f v3 v4 v5 v6 (v0 v4 2) (v0 v4 3) v1 → f < 4 → v8 i f = (hidF puA) v0 v4 v5 v6 (v0 v4 2) (v0 v4 3) i f) ∧ v11 = (hidF mvN) v0 v1 v2l v2f v3 v4 v5 v6 (v0 v4 2) (v0 v4 3) v3 ∧ (∀ (i : Int), 0 ≤ i → i < (hidF mvN) v0 v1 v2l v2f v3 v4 v5 v6 (v0 v4 2) (v0 v4 3) v3 → v10l i = v2l i ∧ ∀ (j : Int) (f : Nat), 0 ≤ j → j < v2l i → f < 1 → v10f i j f = v2f i j f) ∧ v12 = (hidF mvE) v0 v1 v2l v2f v3 v4 v5 v6 (v0 v4 2) (v0 v4 3) ∧ True)))))))))))
def VC18 : Prop :=
  ∀ (v0 : Int → Nat → Int) (v1 : Int) (v2l : Int → Int) (v2f : Int → Int → Nat → Int) (v3 : Int) (v4 : Int) (v5 : Int) (v6 : Int),
  (True) →
  (0 ≤ v1 →
  (0 ≤ v3 →
  (True) ∧ (∀ (v7 : Int), v7 = lvE v0 v1 v2l v2f v3 v4 v4 → 
  (v1 ≤ 9223372036854775807 →
  (v3 ≤ 9223372036854775807 →
  (¬ (v7 = 0) →
    (0 : Int) = mvN v0 v1 v2l v2f v3 v4 v5 v6 (v0 v4 2) (v0 v4 3) v1 ∧ (∀ (i : Int) (f : Nat), 0 ≤ i → i < mvN v0 v1 v2l v2f v3 v4 v5 v6 (v0 v4 2) (v0 v4 3) v1 → f < 4 → zA i f = puA v0 v4 v5 v6 (v0 v4 2) (v0 v4 3) i f) ∧ (0 : Int) = mvN v0 v1 v2l v2f v3 v4 v5 v6 (v0 v4 2) (v0 v4 3) v3 ∧ (∀ (i : Int), 0 ≤ i → i < mvN v0 v1 v2l v2f v3 v4 v5 v6 (v0 v4 2) (v0 v4 3) v3 → zL i = v2l i ∧ ∀ (j : Int) (f : Nat), 0 ≤ j → j < v2l i → f < 1 → zF i j f = v2f i j f) ∧ v7 = mvE v0 v1 v2l v2f v3 v4 v5 v6 (v0 v4 2) (v0 v4 3) ∧ True) ∧
  (¬ (¬ (v7 = 0)) →
    0 ≤ v4 ∧ (0 ≤ v4 →
    v4 < v1 ∧ (v4 < v1 →
    (smallW v1 v2l v3 ∧ 0 ≤ v4 ∧ v4 < v1) ∧ (∀ (v8 : Int → Nat → Int) (v9 : Int) (v10l : Int → Int) (v10f : Int → Int → Nat → Int) (v11 : Int) (v12 : Int), v8 = puA v0 v4 v5 v6 (v0 v4 2) (v0 v4 3) → v9 = puN (okW v5 v6 (v0 v4 2) (v0 v4 3)) v1 → v10l = v2l → v10f = v2f → v11 = puN (okW v5 v6 (v0 v4 2) (v0 v4 3)) v3 → v12 = puE (okW v5 v6 (v0 v4 2) (v0 v4 3)) → 
    (0 ≤ v9 →
    (0 ≤ v11 →
    v9 = mvN v0 v1 v2l v2f v3 v4 v5 v6 (v0 v4 2) (v0 v4 3) v1 ∧ (∀ (i : Int) (f : Nat), 0 ≤ i → i < mvN v0 v1 v2l v2f v3 v4 v5 v6 (v0 v4 2) (v0 v4 3) v1 → f < 4 → v8 i f = puA v0 v4 v5 v6 (v0 v4 2) (v0 v4 3) i f) ∧ v11 = mvN v0 v1 v2l v2f v3 v4 v5 v6 (v0 v4 2) (v0 v4 3) v3 ∧ (∀ (i : Int), 0 ≤ i → i < mvN v0 v1 v2l v2f v3 v4 v5 v6 (v0 v4 2) (v0 v4 3) v3 → v10l i = v2l i ∧ ∀ (j : Int) (f : Nat), 0 ≤ j → j < v2l i → f < 1 → v10f i j f = v2f i j f) ∧ v12 = mvE v0 v1 v2l v2f v3 v4 v5 v6 (v0 v4 2) (v0 v4 3) ∧ True)))))))))))
theorem vh18 (h : VC18) : VH18 := by
  unfold VH18
  rw [hidF_eq lvE, hidF_eq mvE, hidF_eq mvN, hidF_eq okW, hidF_eq puA, hidF_eq puE, hidF_eq puN]
  exact h
/-! hotspotref10.Tune -/
def sig20 : CSig := ⟨[⟨true, [.slc [.int .i64, .int .i64, .int .i64, .int .i64], .mat [.int .i64]]⟩, ⟨false, [.int .i64]⟩, ⟨false, [.int .i64]⟩], [⟨true, [.slc [.int .i64, .int .i64, .int .i64, .int .i64], .mat [.int .i64]]⟩, ⟨false, [.int .i64]⟩]⟩
def pre20 : List AV → Prop
  | [.a v0, .i v1, .m v2l v2f, .i v3, .i v4, .i v5] => True
  | _ => False
noncomputable def raw20 : List AV → List AV
  | [.a v0, .i v1, .m v2l v2f, .i v3, .i v4, .i v5] => [.a ((hidF puA) v0 v4 (v0 v4 0) (v0 v4 1) (v0 v4 2) v5), .i ((hidF mvN) v0 v1 v2l v2f v3 v4 (v0 v4 0) (v0 v4 1) (v0 v4 2) v5 v1), .m (v2l) (v2f), .i ((hidF mvN) v0 v1 v2l v2f v3 v4 (v0 v4 0) (v0 v4 1) (v0 v4 2) v5 v3), .i ((hidF mvE) v0 v1 v2l v2f v3 v4 (v0 v4 0) (v0 v4 1) (v0 v4 2) v5)]
  | _ => []

def VH20 : Prop :=
  ∀ (v0 : Int → Nat → Int) (v1 : Int) (v2l : Int → Int) (v2f : Int → Int → Nat → Int) (v3 : Int) (v4 : Int) (v5 : Int),
  (True) →
  (0 ≤ v1 →
  (0 ≤ v3 →
  (True) ∧ (∀ (v6 : Int), v6 = (hidF lvE) v0 v1 v2l v2f v3 v4 v4 → 
  (v1 ≤ 9223372036854775807 →
  (v3 ≤ 9223372036854775807 →
  (¬ (v6 = 0) →
    (0 : Int) = (hidF mvN) v0 v1 v2l v2f v3 v4 (v0 v4 0) (v0 v4 1) (v0 v4 2) v5 v1 ∧ (∀ (i : Int) (f : Nat), 0 ≤ i → i < (hidF mvN) v0 v1 v2l v2f v3 v4 (v0 v4 0) (v0 v4 1) (v0 v4 2) v5 v1 → f < 4 → zA i f = (hidF puA) v0 v4 (v0 v4 0) (v0 v4 1) (v0 v4 2) v5 i f) ∧ (0 : Int) = (hidF mvN) v0 v1 v2l v2f v3 v4 (v0 v4 0) (v0 v4 1) (v0 v4 2) v5 v3 ∧ (∀ (i : Int), 0 ≤ i → i < (hidF mvN) v0 v1 v2l v2f v3 v4 (v0 v4 0) (v0 v4 1) (v0 v4 2) v5 v3 → zL i = v2l i ∧ ∀ (j : Int) (f : Nat), 0 ≤ j → j < v2l i → f < 1 → zF i j f = v2f i j f) ∧ v6 = (hidF mvE) v0 v1 v2l v2f v3 v4 (v0 v4 0) (v0 v4 1) (v0 v4 2) v5 ∧ True) ∧
  (¬ (¬ (v6 = 0)) →
    0 ≤ v4 ∧ (0 ≤ v4 →
    v4 < v1 ∧ (v4 < v1 →
    (smallW v1 v2l v3 ∧ 0 ≤ v4 ∧ v4 < v1) ∧ (∀ (v7 : Int → Nat → Int) (v8 : Int) (v9l : Int → Int) (v9f : Int → Int → Nat → Int) (v10 : Int) (v11 : Int), v7 = (hidF puA) v0 v4 (v0 v4 0) (v0 v4 1) (v0 v4 2) v5 → v8 = (hidF puN) ((hidF okW) (v0 v4 0) (v0 v4 1) (v0 v4 2) v5) v1 → v9l = v2l → v9f = v2f → v10 = (hidF puN) ((hidF okW) (v0 v4 0) (v0 v4 1) (v0 v4 2) v5) v3 → v11 = (hidF puE) ((hidF okW) (v0 v4 0) (v0 v4 1) (v0 v4 2) v5) → 
    (0 ≤ v8 →
    (0 ≤ v10 →
    v8 = (hidF mvN) v0 v1 v2l v2f v3 v4 (v0 v4 0) (v0 v4 1) (v0 v4 2) v5 v1 ∧ (∀ (i : Int) (f : Nat), 0 ≤ i → i < (hidF mvN) v0 v1 v2l v2f v3 v4 (v0 v4 0) (v0 v4 1) (v0 v4 2) v5 v1 → f < 4 → v7 i f = (hidF puA) v0 v4 (v0 v4 0) (v0 v4 1) (v0 v4 2) v5 i f) ∧ v10 = (hidF mvN) v0 v1 v2l v2f v3 v4 (v0 v4 0) (v0 v4 1) (v0 v4 2) v5 v3 ∧ (∀ (i : Int), 0 ≤ i → i < (hidF mvN) v0 v1 v2l v2f v3 v4 (v0 v4 0) (v0 v4 1) (v0 v4 2) v5 v3 → v9l i = v2l i ∧ ∀ (j : Int) (f : Nat), 0 ≤ j → j < v2l i → f < 1 → v9f i j f = v2f i j f) ∧ v11 = (hidF mvE) v0 v1 v2l v2f v3 v4 (v0 v4 0) (v0 v4 1) (v0 v4 2) v5 ∧ True)))))))))))
def VC20 : Prop :=
  ∀ (v0 : Int → Nat → Int) (v1 : Int) (v2l : Int → Int) (v2f : Int → Int → Nat → Int) (v3 : Int) (v4 : Int) (v5 : Int),
  (True) →
  (0 ≤ v1 →
  (0 ≤ v3 →
  (True) ∧ (∀ (v6 : Int), v6 = lvE v0 v1 v2l v2f v3 v4 v4 → 
  (v1 ≤ 9223372036854775807 →
  (v3 ≤ 9223372036854775807 →
  (¬ (v6 = 0) →
    (0 : Int) = mvN v0 v1 v2l v2f v3 v4 (v0 v4 0) (v0 v4 1) (v0 v4 2) v5 v1 ∧ (∀ (i : Int) (f : Nat), 0 ≤ i → i < mvN v0 v1 v2l v2f v3 v4 (v0 v4 0) (v0 v4 1) (v0 v4 2) v5 v1 → f < 4 → zA i f = puA v0 v4 (v0 v4 0) (v0 v4 1) (v0 v4 2) v5 i f) ∧ (0 : Int) = mvN v0 v1 v2l v2f v3 v4 (v0 v4 0) (v0 v4 1) (v0 v4 2) v5 v3 ∧ (∀ (i : Int), 0 ≤ i → i < mvN v0 v1 v2l v2f v3 v4 (v0 v4 0) (v0 v4 1) (v0 v4 2) v5 v3 → zL i = v2l i ∧ ∀ (j : Int) (f : Nat), 0 ≤ j → j < v2l i → f < 1 → zF i j f = v2f i j f) ∧ v6 = mvE v0 v1 v2l v2f v3 v4 (v0 v4 0) (v0 v4 1) (v0 v4 2) v5 ∧ True) ∧
  (¬ (¬ (v6 = 0)) →
    0 ≤ v4 ∧ (0 ≤ v4 →
    v4 < v1 ∧ (v4 < v1 →
    (smallW v1 v2l v3 ∧ 0 ≤ v4 ∧ v4 < v1) ∧ (∀ (v7 : Int → Nat → Int) (v8 : Int) (v9l : Int → Int) (v9f : Int → Int → Nat → Int) (v10 : Int) (v11 : Int), v7 = puA v0 v4 (v0 v4 0) (v0 v4 1) (v0 v4 2) v5 → v8 = puN (okW (v0 v4 0) (v0 v4 1) (v0 v4 2) v5) v1 → v9l = v2l → v9f = v2f → v10 = puN (okW (v0 v4 0) (v0 v4 1) (v0 v4 2) v5) v3 → v11 = puE (okW (v0 v4 0) (v0 v4 1) (v0 v4 2) v5) → 
    (0 ≤ v8 →
    (0 ≤ v10 →
    v8 = mvN v0 v1 v2l v2f v3 v4 (v0 v4 0) (v0 v4 1) (v0 v4 2) v5 v1 ∧ (∀ (i : Int) (f : Nat), 0 ≤ i → i < mvN v0 v1 v2l v2f v3 v4 (v0 v4 0) (v0 v4 1) (v0 v4 2) v5 v1 → f < 4 → v7 i f = puA v0 v4 (v0 v4 0) (v0 v4 1) (v0 v4 2) v5 i f) ∧ v10 = mvN v0 v1 v2l v2f v3 v4 (v0 v4 0) (v0 v4 1) (v0 v4 2) v5 v3 ∧ (∀ (i : Int), 0 ≤ i → i < mvN v0 v1 v2l v2f v3 v4 (v0 v4 0) (v0 v4 1) (v0 v4 2) v5 v3 → v9l i = v2l i ∧ ∀ (j : Int) (f : Nat), 0 ≤ j → j < v2l i → f < 1 → v9f i j f = v2f i j f) ∧ v11 = mvE v0 v1 v2l v2f v3 v4 (v0 v4 0) (v0 v4 1) (v0 v4 2) v5 ∧ True)))))))))))
theorem vh20 (h : VC20) : VH20 := by
  unfold VH20
  rw [hidF_eq lvE, hidF_eq mvE, hidF_eq mvN, hidF_eq okW, hidF_eq puA, hidF_eq puE, hidF_eq puN]
  exact h
/-! slices.Clone[[]api.Radio,api.Radio] -/
def sig60 : CSig := ⟨[⟨false, [.slc [.int .i64, .int .i64, .int .i64, .int .i64]]⟩], [⟨false, [.slc [.int .i64, .int .i64, .int .i64, .int .i64]]⟩]⟩
def pre60 : List AV → Prop
  | [.a v0, .i v1] => v1 ≤ 1000
  | _ => False
noncomputable def raw60 : List AV → List AV
  | [.a v0, .i v1] => [.a (v0), .i (v1)]
  | _ => []

def VH60 : Prop :=
  ∀ (v0 : Int → Nat → Int) (v1 : Int),
  (v1 ≤ 1000) →
  (0 ≤ v1 →
  (∀ (v2 : Bool),
  ((¬ (v2 = true) ∨ v1 = 0) →
  (v1 ≤ 9223372036854775807 →
  (v2 = true →
    (0 : Int) = v1 ∧ (∀ (i : Int) (f : Nat), 0 ≤ i → i < v1 → f < 4 → zA i f = v0 i f) ∧ True) ∧
  (¬ (v2 = true) →
    (v1 * 32) ≤ 140737488355328 ∧ ((v1 * 32) ≤ 140737488355328 →
    v1 ≤ 140737488355328 ∧ (v1 ≤ 140737488355328 →
    v1 = v1 ∧ (∀ (i : Int) (f : Nat), 0 ≤ i → i < v1 → f < 4 → v0 i f = v0 i f) ∧ True)))))))
def VC60 : Prop :=
  ∀ (v0 : Int → Nat → Int) (v1 : Int),
  (v1 ≤ 1000) →
  (0 ≤ v1 →
  (∀ (v2 : Bool),
  ((¬ (v2 = true) ∨ v1 = 0) →
  (v1 ≤ 9223372036854775807 →
  (v2 = true →
    (0 : Int) = v1 ∧ (∀ (i : Int) (f : Nat), 0 ≤ i → i < v1 → f < 4 → zA i f = v0 i f) ∧ True) ∧
  (¬ (v2 = true) →
    (v1 * 32) ≤ 140737488355328 ∧ ((v1 * 32) ≤ 140737488355328 →
    v1 ≤ 140737488355328 ∧ (v1 ≤ 140737488355328 →
    v1 = v1 ∧ (∀ (i : Int) (f : Nat), 0 ≤ i → i < v1 → f < 4 → v0 i f = v0 i f) ∧ True)))))))
theorem vh60 (h : VC60) : VH60 := by
  unfold VH60
  exact h
/-! slices.Clone[[]int,int] -/
def sig61 : CSig := ⟨[⟨false, [.slc [.int .i64]]⟩], [⟨false, [.slc [.int .i64]]⟩]⟩
def pre61 : List AV → Prop
  | [.a v0, .i v1] => v1 ≤ 1000
  | _ => False
noncomputable def raw61 : List AV → List AV
  | [.a v0, .i v1] => [.a (v0), .i (v1)]
  | _ => []

def VH61 : Prop :=
  ∀ (v0 : Int → Nat → Int) (v1 : Int),
  (v1 ≤ 1000) →
  (0 ≤ v1 →
  (∀ (v2 : Bool),
  ((¬ (v2 = true) ∨ v1 = 0) →
  (v1 ≤ 9223372036854775807 →
  (v2 = true →
    (0 : Int) = v1 ∧ (∀ (i : Int) (f : Nat), 0 ≤ i → i < v1 → f < 1 → zA i f = v0 i f) ∧ True) ∧
  (¬ (v2 = true) →
    (v1 * 8) ≤ 140737488355328 ∧ ((v1 * 8) ≤ 140737488355328 →
    v1 ≤ 140737488355328 ∧ (v1 ≤ 140737488355328 →
    v1 = v1 ∧ (∀ (i : Int) (f : Nat), 0 ≤ i → i < v1 → f < 1 → v0 i f = v0 i f) ∧ True)))))))
def VC61 : Prop :=
  ∀ (v0 : Int → Nat → Int) (v1 : Int),
  (v1 ≤ 1000) →
  (0 ≤ v1 →
  (∀ (v2 : Bool),
  ((¬ (v2 = true) ∨ v1 = 0) →
  (v1 ≤ 9223372036854775807 →
  (v2 = true →
    (0 : Int) = v1 ∧ (∀ (i : Int) (f : Nat), 0 ≤ i → i < v1 → f < 1 → zA i f = v0 i f) ∧ True) ∧
  (¬ (v2 = true) →
    (v1 * 8) ≤ 140737488355328 ∧ ((v1 * 8) ≤ 140737488355328 →
    v1 ≤ 140737488355328 ∧ (v1 ≤ 140737488355328 →
    v1 = v1 ∧ (∀ (i : Int) (f : Nat), 0 ≤ i → i < v1 → f < 1 → v0 i f = v0 i f) ∧ True)))))))
theorem vh61 (h : VC61) : VH61 := by
  unfold VH61
  exact h
/-! radio.Move -/
def sig17 : CSig := ⟨[⟨true, [.slc [.int .i64, .int .i64, .int .i64, .int .i64], .mat [.int .i64]]⟩, ⟨false, [.int .i64]⟩, ⟨false, [.int .i64]⟩, ⟨false, [.int .i64]⟩], [⟨true, [.slc [.int .i64, .int .i64, .int .i64, .int .i64], .mat [.int .i64]]⟩, ⟨false, [.int .i64]⟩]⟩
def pre17 : List AV → Prop
  | [.a v0, .i v1, .m v2l v2f, .i v3, .i v4, .i v5, .i v6] => True
  | _ => False
noncomputable def raw17 : List AV → List AV
  | [.a v0, .i v1, .m v2l v2f, .i v3, .i v4, .i v5, .i v6] => [.a ((hidF puA) v0 v4 v5 v6 (v0 v4 2) (v0 v4 3)), .i ((hidF mvN) v0 v1 v2l v2f v3 v4 v5 v6 (v0 v4 2) (v0 v4 3) v1), .m (v2l) (v2f), .i ((hidF mvN) v0 v1 v2l v2f v3 v4 v5 v6 (v0 v4 2) (v0 v4 3) v3), .i ((hidF mvE) v0 v1 v2l v2f v3 v4 v5 v6 (v0 v4 2) (v0 v4 3))]
  | _ => []

def VH17 : Prop :=
  ∀ (v0 : Int → Nat → Int) (v1 : Int) (v2l : Int → Int) (v2f : Int → Int → Nat → Int) (v3 : Int) (v4 : Int) (v5 : Int) (v6 : Int),
  (True) →
  (0 ≤ v1 →
  (0 ≤ v3 →
  ((1 : Int) ≤ 4) ∧ (∀ (v7 : Int), v7 = (hidF asW) v0 v1 v2l v2f v3 (setA zA 0 0 v4) (1 : Int) → 
  (v1 ≤ 9223372036854775807 →
  (v3 ≤ 9223372036854775807 →
  (¬ (v7 = 0) →
    (0 : Int) = (hidF mvN) v0 v1 v2l v2f v3 v4 v5 v6 (v0 v4 2) (v0 v4 3) v1 ∧ (∀ (i : Int) (f : Nat), 0 ≤ i → i < (hidF mvN) v0 v1 v2l v2f v3 v4 v5 v6 (v0 v4 2) (v0 v4 3) v1 → f < 4 → zA i f = (hidF puA) v0 v4 v5 v6 (v0 v4 2) (v0 v4 3) i f) ∧ (0 : Int) = (hidF mvN) v0 v1 v2l v2f v3 v4 v5 v6 (v0 v4 2) (v0 v4 3) v3 ∧ (∀ (i : Int), 0 ≤ i → i < (hidF mvN) v0 v1 v2l v2f v3 v4 v5 v6 (v0 v4 2) (v0 v4 3) v3 → zL i = v2l i ∧ ∀ (j : Int) (f : Nat), 0 ≤ j → j < v2l i → f < 1 → zF i j f = v2f i j f) ∧ v7 = (hidF mvE) v0 v1 v2l v2f v3 v4 v5 v6 (v0 v4 2) (v0 v4 3) ∧ True) ∧
  (¬ (¬ (v7 = 0)) →
    (v1 ≤ 1000) ∧ (∀ (v8 : Int → Nat → Int) (v9 : Int), v8 = v0 → v9 = v1 → 
    (0 ≤ v9 →
    (v9 ≤ 9223372036854775807 →
    ∃ (I0 : (Int → Int) → (Int → Int → Nat → Int) → (Int) → (Int) → Prop) (μ0 : (Int → Int) → (Int → Int → Nat → Int) → (Int) → (Int) → Nat), I0 (srL zL (-1) 0) (srF zF (-1) zA) (0 : Int) (0 : Int) ∧ (∀ (v10l : Int → Int) (v10f : Int → Int → Nat → Int) (v11 : Int) (v12 : Int), I0 v10l v10f v11 v12 →
      (0 ≤ v11 →
      (v11 ≤ 9223372036854775807 →
      (v12 < v3 →
        0 ≤ v12 ∧ (0 ≤ v12 →
        ((v2l v12) ≤ 1000) ∧ (∀ (v13 : Int → Nat → Int) (v14 : Int), v13 = (rowA v2f v12) → v14 = (v2l v12) → 
        (0 ≤ v14 →
        (0 ≤ (v2l v12) →
        ((v2l v12) ≤ 9223372036854775807 →
        (v14 ≤ 9223372036854775807 →
        ((v11 + 1) * 24) ≤ 140737488355328 ∧ (((v11 + 1) * 24) ≤ 140737488355328 →
        (v11 + 1) ≤ 140737488355328 ∧ ((v11 + 1) ≤ 140737488355328 →
        (-9223372036854775808 ≤ (v12 + 1) ∧ (v12 + 1) ≤ 9223372036854775807) ∧ ((-9223372036854775808 ≤ (v12 + 1) ∧ (v12 + 1) ≤ 9223372036854775807) →
        I0 (srL v10l v11 v14) (srF v10f v11 v13) (v11 + 1) (v12 + 1) ∧ μ0 (srL v10l v11 v14) (srF v10f v11 v13) (v11 + 1) (v12 + 1) < μ0 v10l v10f v11 v12)))))))))) ∧
      (¬ (v12 < v3) →
        0 ≤ v4 ∧ (0 ≤ v4 →
        v4 < v9 ∧ (v4 < v9 →
        (True) ∧ (∀ (v13 : Bool), v13 = (hidF okW) v5 v6 (v8 v4 2) (v8 v4 3) → 
        (¬ (v13 = true) →
          (0 : Int) = (hidF mvN) v0 v1 v2l v2f v3 v4 v5 v6 (v0 v4 2) (v0 v4 3) v1 ∧ (∀ (i : Int) (f : Nat), 0 ≤ i → i < (hidF mvN) v0 v1 v2l v2f v3 v4 v5 v6 (v0 v4 2) (v0 v4 3) v1 → f < 4 → zA i f = (hidF puA) v0 v4 v5 v6 (v0 v4 2) (v0 v4 3) i f) ∧ (0 : Int) = (hidF mvN) v0 v1 v2l v2f v3 v4 v5 v6 (v0 v4 2) (v0 v4 3) v3 ∧ (∀ (i : Int), 0 ≤ i → i < (hidF mvN) v0 v1 v2l v2f v3 v4 v5 v6 (v0 v4 2) (v0 v4 3) v3 → zL i = v2l i ∧ ∀ (j : Int) (f : Nat), 0 ≤ j → j < v2l i → f < 1 → zF i j f = v2f i j f) ∧ (2 : Int) = (hidF mvE) v0 v1 v2l v2f v3 v4 v5 v6 (v0 v4 2) (v0 v4 3) ∧ True) ∧
        (¬ (¬ (v13 = true)) →
          v9 = (hidF mvN) v0 v1 v2l v2f v3 v4 v5 v6 (v0 v4 2) (v0 v4 3) v1 ∧ (∀ (i : Int) (f : Nat), 0 ≤ i → i < (hidF mvN) v0 v1 v2l v2f v3 v4 v5 v6 (v0 v4 2) (v0 v4 3) v1 → f < 4 → (setA (setA v8 v4 0 v5) v4 1 v6) i f = (hidF puA) v0 v4 v5 v6 (v0 v4 2) (v0 v4 3) i f) ∧ v11 = (hidF mvN) v0 v1 v2l v2f v3 v4 v5 v6 (v0 v4 2) (v0 v4 3) v3 ∧ (∀ (i : Int), 0 ≤ i → i < (hidF mvN) v0 v1 v2l v2f v3 v4 v5 v6 (v0 v4 2) (v0 v4 3) v3 → v10l i = v2l i ∧ ∀ (j : Int) (f : Nat), 0 ≤ j → j < v2l i → f < 1 → v10f i j f = v2f i j f) ∧ (0 : Int) = (hidF mvE) v0 v1 v2l v2f v3 v4 v5 v6 (v0 v4 2) (v0 v4 3) ∧ True)))))))))))))))))
def VC17 : Prop :=
  ∀ (v0 : Int → Nat → Int) (v1 : Int) (v2l : Int → Int) (v2f : Int → Int → Nat → Int) (v3 : Int) (v4 : Int) (v5 : Int) (v6 : Int),
  (True) →
  (0 ≤ v1 →
  (0 ≤ v3 →
  ((1 : Int) ≤ 4) ∧ (∀ (v7 : Int), v7 = asW v0 v1 v2l v2f v3 (setA zA 0 0 v4) (1 : Int) → 
  (v1 ≤ 9223372036854775807 →
  (v3 ≤ 9223372036854775807 →
  (¬ (v7 = 0) →
    (0 : Int) = mvN v0 v1 v2l v2f v3 v4 v5 v6 (v0 v4 2) (v0 v4 3) v1 ∧ (∀ (i : Int) (f : Nat), 0 ≤ i → i < mvN v0 v1 v2l v2f v3 v4 v5 v6 (v0 v4 2) (v0 v4 3) v1 → f < 4 → zA i f = puA v0 v4 v5 v6 (v0 v4 2) (v0 v4 3) i f) ∧ (0 : Int) = mvN v0 v1 v2l v2f v3 v4 v5 v6 (v0 v4 2) (v0 v4 3) v3 ∧ (∀ (i : Int), 0 ≤ i → i < mvN v0 v1 v2l v2f v3 v4 v5 v6 (v0 v4 2) (v0 v4 3) v3 → zL i = v2l i ∧ ∀ (j : Int) (f : Nat), 0 ≤ j → j < v2l i → f < 1 → zF i j f = v2f i j f) ∧ v7 = mvE v0 v1 v2l v2f v3 v4 v5 v6 (v0 v4 2) (v0 v4 3) ∧ True) ∧
  (¬ (¬ (v7 = 0)) →
    (v1 ≤ 1000) ∧ (∀ (v8 : Int → Nat → Int) (v9 : Int), v8 = v0 → v9 = v1 → 
    (0 ≤ v9 →
    (v9 ≤ 9223372036854775807 →
    ∃ (I0 : (Int → Int) → (Int → Int → Nat → Int) → (Int) → (Int) → Prop) (μ0 : (Int → Int) → (Int → Int → Nat → Int) → (Int) → (Int) → Nat), I0 (srL zL (-1) 0) (srF zF (-1) zA) (0 : Int) (0 : Int) ∧ (∀ (v10l : Int → Int) (v10f : Int → Int → Nat → Int) (v11 : Int) (v12 : Int), I0 v10l v10f v11 v12 →
      (0 ≤ v11 →
      (v11 ≤ 9223372036854775807 →
      (v12 < v3 →
        0 ≤ v12 ∧ (0 ≤ v12 →
        ((v2l v12) ≤ 1000) ∧ (∀ (v13 : Int → Nat → Int) (v14 : Int), v13 = (rowA v2f v12) → v14 = (v2l v12) → 
        (0 ≤ v14 →
        (0 ≤ (v2l v12) →
        ((v2l v12) ≤ 9223372036854775807 →
        (v14 ≤ 9223372036854775807 →
        ((v11 + 1) * 24) ≤ 140737488355328 ∧ (((v11 + 1) * 24) ≤ 140737488355328 →
        (v11 + 1) ≤ 140737488355328 ∧ ((v11 + 1) ≤ 140737488355328 →
        (-9223372036854775808 ≤ (v12 + 1) ∧ (v12 + 1) ≤ 9223372036854775807) ∧ ((-9223372036854775808 ≤ (v12 + 1) ∧ (v12 + 1) ≤ 9223372036854775807) →
        I0 (srL v10l v11 v14) (srF v10f v11 v13) (v11 + 1) (v12 + 1) ∧ μ0 (srL v10l v11 v14) (srF v10f v11 v13) (v11 + 1) (v12 + 1) < μ0 v10l v10f v11 v12)))))))))) ∧
      (¬ (v12 < v3) →
        0 ≤ v4 ∧ (0 ≤ v4 →
        v4 < v9 ∧ (v4 < v9 →
        (True) ∧ (∀ (v13 : Bool), v13 = okW v5 v6 (v8 v4 2) (v8 v4 3) → 
        (¬ (v13 = true) →
          (0 : Int) = mvN v0 v1 v2l v2f v3 v4 v5 v6 (v0 v4 2) (v0 v4 3) v1 ∧ (∀ (i : Int) (f : Nat), 0 ≤ i → i < mvN v0 v1 v2l v2f v3 v4 v5 v6 (v0 v4 2) (v0 v4 3) v1 → f < 4 → zA i f = puA v0 v4 v5 v6 (v0 v4 2) (v0 v4 3) i f) ∧ (0 : Int) = mvN v0 v1 v2l v2f v3 v4 v5 v6 (v0 v4 2) (v0 v4 3) v3 ∧ (∀ (i : Int), 0 ≤ i → i < mvN v0 v1 v2l v2f v3 v4 v5 v6 (v0 v4 2) (v0 v4 3) v3 → zL i = v2l i ∧ ∀ (j : Int) (f : Nat), 0 ≤ j → j < v2l i → f < 1 → zF i j f = v2f i j f) ∧ (2 : Int) = mvE v0 v1 v2l v2f v3 v4 v5 v6 (v0 v4 2) (v0 v4 3) ∧ True) ∧
        (¬ (¬ (v13 = true)) →
          v9 = mvN v0 v1 v2l v2f v3 v4 v5 v6 (v0 v4 2) (v0 v4 3) v1 ∧ (∀ (i : Int) (f : Nat), 0 ≤ i → i < mvN v0 v1 v2l v2f v3 v4 v5 v6 (v0 v4 2) (v0 v4 3) v1 → f < 4 → (setA (setA v8 v4 0 v5) v4 1 v6) i f = puA v0 v4 v5 v6 (v0 v4 2) (v0 v4 3) i f) ∧ v11 = mvN v0 v1 v2l v2f v3 v4 v5 v6 (v0 v4 2) (v0 v4 3) v3 ∧ (∀ (i : Int), 0 ≤ i → i < mvN v0 v1 v2l v2f v3 v4 v5 v6 (v0 v4 2) (v0 v4 3) v3 → v10l i = v2l i ∧ ∀ (j : Int) (f : Nat), 0 ≤ j → j < v2l i → f < 1 → v10f i j f = v2f i j f) ∧ (0 : Int) = mvE v0 v1 v2l v2f v3 v4 v5 v6 (v0 v4 2) (v0 v4 3) ∧ True)))))))))))))))))
theorem vh17 (h : VC17) : VH17 := by
  unfold VH17
  rw [hidF_eq asW, hidF_eq mvE, hidF_eq mvN, hidF_eq okW, hidF_eq puA]
  exact h
/-! radio.Tune -/
def sig19 : CSig := ⟨[⟨true, [.slc [.int .i64, .int .i64, .int .i64, .int .i64], .mat [.int .i64]]⟩, ⟨false, [.int .i64]⟩, ⟨false, [.int .i64]⟩], [⟨true, [.slc [.int .i64, .int .i64, .int .i64, .int .i64], .mat [.int .i64]]⟩, ⟨false, [.int .i64]⟩]⟩
def pre19 : List AV → Prop
  | [.a v0, .i v1, .m v2l v2f, .i v3, .i v4, .i v5] => True
  | _ => False
noncomputable def raw19 : List AV → List AV
  | [.a v0, .i v1, .m v2l v2f, .i v3, .i v4, .i v5] => [.a ((hidF puA) v0 v4 (v0 v4 0) (v0 v4 1) (v0 v4 2) v5), .i ((hidF mvN) v0 v1 v2l v2f v3 v4 (v0 v4 0) (v0 v4 1) (v0 v4 2) v5 v1), .m (v2l) (v2f), .i ((hidF mvN) v0 v1 v2l v2f v3 v4 (v0 v4 0) (v0 v4 1) (v0 v4 2) v5 v3), .i ((hidF mvE) v0 v1 v2l v2f v3 v4 (v0 v4 0) (v0 v4 1) (v0 v4 2) v5)]
  | _ => []

def VH19 : Prop :=
  ∀ (v0 : Int → Nat → Int) (v1 : Int) (v2l : Int → Int) (v2f : Int → Int → Nat → Int) (v3 : Int) (v4 : Int) (v5 : Int),
  (True) →
  (0 ≤ v1 →
  (0 ≤ v3 →
  ((1 : Int) ≤ 4) ∧ (∀ (v6 : Int), v6 = (hidF asW) v0 v1 v2l v2f v3 (setA zA 0 0 v4) (1 : Int) → 
  (v1 ≤ 9223372036854775807 →
  (v3 ≤ 9223372036854775807 →
  (¬ (v6 = 0) →
    (0 : Int) = (hidF mvN) v0 v1 v2l v2f v3 v4 (v0 v4 0) (v0 v4 1) (v0 v4 2) v5 v1 ∧ (∀ (i : Int) (f : Nat), 0 ≤ i → i < (hidF mvN) v0 v1 v2l v2f v3 v4 (v0 v4 0) (v0 v4 1) (v0 v4 2) v5 v1 → f < 4 → zA i f = (hidF puA) v0 v4 (v0 v4 0) (v0 v4 1) (v0 v4 2) v5 i f) ∧ (0 : Int) = (hidF mvN) v0 v1 v2l v2f v3 v4 (v0 v4 0) (v0 v4 1) (v0 v4 2) v5 v3 ∧ (∀ (i : Int), 0 ≤ i → i < (hidF mvN) v0 v1 v2l v2f v3 v4 (v0 v4 0) (v0 v4 1) (v0 v4 2) v5 v3 → zL i = v2l i ∧ ∀ (j : Int) (f : Nat), 0 ≤ j → j < v2l i → f < 1 → zF i j f = v2f i j f) ∧ v6 = (hidF mvE) v0 v1 v2l v2f v3 v4 (v0 v4 0) (v0 v4 1) (v0 v4 2) v5 ∧ True) ∧
  (¬ (¬ (v6 = 0)) →
    (v1 ≤ 1000) ∧ (∀ (v7 : Int → Nat → Int) (v8 : Int), v7 = v0 → v8 = v1 → 
    (0 ≤ v8 →
    (v8 ≤ 9223372036854775807 →
    ∃ (I0 : (Int → Int) → (Int → Int → Nat → Int) → (Int) → (Int) → Prop) (μ0 : (Int → Int) → (Int → Int → Nat → Int) → (Int) → (Int) → Nat), I0 (srL zL (-1) 0) (srF zF (-1) zA) (0 : Int) (0 : Int) ∧ (∀ (v9l : Int → Int) (v9f : Int → Int → Nat → Int) (v10 : Int) (v11 : Int), I0 v9l v9f v10 v11 →
      (0 ≤ v10 →
      (v10 ≤ 9223372036854775807 →
      (v11 < v3 →
        0 ≤ v11 ∧ (0 ≤ v11 →
        ((v2l v11) ≤ 1000) ∧ (∀ (v12 : Int → Nat → Int) (v13 : Int), v12 = (rowA v2f v11) → v13 = (v2l v11) → 
        (0 ≤ v13 →
        (0 ≤ (v2l v11) →
        ((v2l v11) ≤ 9223372036854775807 →
        (v13 ≤ 9223372036854775807 →
        ((v10 + 1) * 24) ≤ 140737488355328 ∧ (((v10 + 1) * 24) ≤ 140737488355328 →
        (v10 + 1) ≤ 140737488355328 ∧ ((v10 + 1) ≤ 140737488355328 →
        (-9223372036854775808 ≤ (v11 + 1) ∧ (v11 + 1) ≤ 9223372036854775807) ∧ ((-9223372036854775808 ≤ (v11 + 1) ∧ (v11 + 1) ≤ 9223372036854775807) →
        I0 (srL v9l v10 v13) (srF v9f v10 v12) (v10 + 1) (v11 + 1) ∧ μ0 (srL v9l v10 v13) (srF v9f v10 v12) (v10 + 1) (v11 + 1) < μ0 v9l v9f v10 v11)))))))))) ∧
      (¬ (v11 < v3) →
        0 ≤ v4 ∧ (0 ≤ v4 →
        v4 < v8 ∧ (v4 < v8 →
        (True) ∧ (∀ (v12 : Bool), v12 = (hidF okW) (v7 v4 0) (v7 v4 1) (v7 v4 2) v5 → 
        (¬ (v12 = true) →
          (0 : Int) = (hidF mvN) v0 v1 v2l v2f v3 v4 (v0 v4 0) (v0 v4 1) (v0 v4 2) v5 v1 ∧ (∀ (i : Int) (f : Nat), 0 ≤ i → i < (hidF mvN) v0 v1 v2l v2f v3 v4 (v0 v4 0) (v0 v4 1) (v0 v4 2) v5 v1 → f < 4 → zA i f = (hidF puA) v0 v4 (v0 v4 0) (v0 v4 1) (v0 v4 2) v5 i f) ∧ (0 : Int) = (hidF mvN) v0 v1 v2l v2f v3 v4 (v0 v4 0) (v0 v4 1) (v0 v4 2) v5 v3 ∧ (∀ (i : Int), 0 ≤ i → i < (hidF mvN) v0 v1 v2l v2f v3 v4 (v0 v4 0) (v0 v4 1) (v0 v4 2) v5 v3 → zL i = v2l i ∧ ∀ (j : Int) (f : Nat), 0 ≤ j → j < v2l i → f < 1 → zF i j f = v2f i j f) ∧ (2 : Int) = (hidF mvE) v0 v1 v2l v2f v3 v4 (v0 v4 0) (v0 v4 1) (v0 v4 2) v5 ∧ True) ∧
        (¬ (¬ (v12 = true)) →
          v8 = (hidF mvN) v0 v1 v2l v2f v3 v4 (v0 v4 0) (v0 v4 1) (v0 v4 2) v5 v1 ∧ (∀ (i : Int) (f : Nat), 0 ≤ i → i < (hidF mvN) v0 v1 v2l v2f v3 v4 (v0 v4 0) (v0 v4 1) (v0 v4 2) v5 v1 → f < 4 → (setA v7 v4 3 v5) i f = (hidF puA) v0 v4 (v0 v4 0) (v0 v4 1) (v0 v4 2) v5 i f) ∧ v10 = (hidF mvN) v0 v1 v2l v2f v3 v4 (v0 v4 0) (v0 v4 1) (v0 v4 2) v5 v3 ∧ (∀ (i : Int), 0 ≤ i → i < (hidF mvN) v0 v1 v2l v2f v3 v4 (v0 v4 0) (v0 v4 1) (v0 v4 2) v5 v3 → v9l i = v2l i ∧ ∀ (j : Int) (f : Nat), 0 ≤ j → j < v2l i → f < 1 → v9f i j f = v2f i j f) ∧ (0 : Int) = (hidF mvE) v0 v1 v2l v2f v3 v4 (v0 v4 0) (v0 v4 1) (v0 v4 2) v5 ∧ True)))))))))))))))))
def VC19 : Prop :=
  ∀ (v0 : Int → Nat → Int) (v1 : Int) (v2l : Int → Int) (v2f : Int → Int → Nat → Int) (v3 : Int) (v4 : Int) (v5 : Int),
  (True) →
  (0 ≤ v1 →
  (0 ≤ v3 →
  ((1 : Int) ≤ 4) ∧ (∀ (v6 : Int), v6 = asW v0 v1 v2l v2f v3 (setA zA 0 0 v4) (1 : Int) → 
  (v1 ≤ 9223372036854775807 →
  (v3 ≤ 9223372036854775807 →
  (¬ (v6 = 0) →
    (0 : Int) = mvN v0 v1 v2l v2f v3 v4 (v0 v4 0) (v0 v4 1) (v0 v4 2) v5 v1 ∧ (∀ (i : Int) (f : Nat), 0 ≤ i → i < mvN v0 v1 v2l v2f v3 v4 (v0 v4 0) (v0 v4 1) (v0 v4 2) v5 v1 → f < 4 → zA i f = puA v0 v4 (v0 v4 0) (v0 v4 1) (v0 v4 2) v5 i f) ∧ (0 : Int) = mvN v0 v1 v2l v2f v3 v4 (v0 v4 0) (v0 v4 1) (v0 v4 2) v5 v3 ∧ (∀ (i : Int), 0 ≤ i → i < mvN v0 v1 v2l v2f v3 v4 (v0 v4 0) (v0 v4 1) (v0 v4 2) v5 v3 → zL i = v2l i ∧ ∀ (j : Int) (f : Nat), 0 ≤ j → j < v2l i → f < 1 → zF i j f = v2f i j f) ∧ v6 = mvE v0 v1 v2l v2f v3 v4 (v0 v4 0) (v0 v4 1) (v0 v4 2) v5 ∧ True) ∧
  (¬ (¬ (v6 = 0)) →
    (v1 ≤ 1000) ∧ (∀ (v7 : Int → Nat → Int) (v8 : Int), v7 = v0 → v8 = v1 → 
    (0 ≤ v8 →
    (v8 ≤ 9223372036854775807 →
    ∃ (I0 : (Int → Int) → (Int → Int → Nat → Int) → (Int) → (Int) → Prop) (μ0 : (Int → Int) → (Int → Int → Nat → Int) → (Int) → (Int) → Nat), I0 (srL zL (-1) 0) (srF zF (-1) zA) (0 : Int) (0 : Int) ∧ (∀ (v9l : Int → Int) (v9f : Int → Int → Nat → Int) (v10 : Int) (v11 : Int), I0 v9l v9f v10 v11 →
      (0 ≤ v10 →
      (v10 ≤ 9223372036854775807 →
      (v11 < v3 →
        0 ≤ v11 ∧ (0 ≤ v11 →
        ((v2l v11) ≤ 1000) ∧ (∀ (v12 : Int → Nat → Int) (v13 : Int), v12 = (rowA v2f v11) → v13 = (v2l v11) → 
        (0 ≤ v13 →
        (0 ≤ (v2l v11) →
        ((v2l v11) ≤ 9223372036854775807 →
        (v13 ≤ 9223372036854775807 →
        ((v10 + 1) * 24) ≤ 140737488355328 ∧ (((v10 + 1) * 24) ≤ 140737488355328 →
        (v10 + 1) ≤ 140737488355328 ∧ ((v10 + 1) ≤ 140737488355328 →
        (-9223372036854775808 ≤ (v11 + 1) ∧ (v11 + 1) ≤ 9223372036854775807) ∧ ((-9223372036854775808 ≤ (v11 + 1) ∧ (v11 + 1) ≤ 9223372036854775807) →
        I0 (srL v9l v10 v13) (srF v9f v10 v12) (v10 + 1) (v11 + 1) ∧ μ0 (srL v9l v10 v13) (srF v9f v10 v12) (v10 + 1) (v11 + 1) < μ0 v9l v9f v10 v11)))))))))) ∧
      (¬ (v11 < v3) →
        0 ≤ v4 ∧ (0 ≤ v4 →
        v4 < v8 ∧ (v4 < v8 →
        (True) ∧ (∀ (v12 : Bool), v12 = okW (v7 v4 0) (v7 v4 1) (v7 v4 2) v5 → 
        (¬ (v12 = true) →
          (0 : Int) = mvN v0 v1 v2l v2f v3 v4 (v0 v4 0) (v0 v4 1) (v0 v4 2) v5 v1 ∧ (∀ (i : Int) (f : Nat), 0 ≤ i → i < mvN v0 v1 v2l v2f v3 v4 (v0 v4 0) (v0 v4 1) (v0 v4 2) v5 v1 → f < 4 → zA i f = puA v0 v4 (v0 v4 0) (v0 v4 1) (v0 v4 2) v5 i f) ∧ (0 : Int) = mvN v0 v1 v2l v2f v3 v4 (v0 v4 0) (v0 v4 1) (v0 v4 2) v5 v3 ∧ (∀ (i : Int), 0 ≤ i → i < mvN v0 v1 v2l v2f v3 v4 (v0 v4 0) (v0 v4 1) (v0 v4 2) v5 v3 → zL i = v2l i ∧ ∀ (j : Int) (f : Nat), 0 ≤ j → j < v2l i → f < 1 → zF i j f = v2f i j f) ∧ (2 : Int) = mvE v0 v1 v2l v2f v3 v4 (v0 v4 0) (v0 v4 1) (v0 v4 2) v5 ∧ True) ∧
        (¬ (¬ (v12 = true)) →
          v8 = mvN v0 v1 v2l v2f v3 v4 (v0 v4 0) (v0 v4 1) (v0 v4 2) v5 v1 ∧ (∀ (i : Int) (f : Nat), 0 ≤ i → i < mvN v0 v1 v2l v2f v3 v4 (v0 v4 0) (v0 v4 1) (v0 v4 2) v5 v1 → f < 4 → (setA v7 v4 3 v5) i f = puA v0 v4 (v0 v4 0) (v0 v4 1) (v0 v4 2) v5 i f) ∧ v10 = mvN v0 v1 v2l v2f v3 v4 (v0 v4 0) (v0 v4 1) (v0 v4 2) v5 v3 ∧ (∀ (i : Int), 0 ≤ i → i < mvN v0 v1 v2l v2f v3 v4 (v0 v4 0) (v0 v4 1) (v0 v4 2) v5 v3 → v9l i = v2l i ∧ ∀ (j : Int) (f : Nat), 0 ≤ j → j < v2l i → f < 1 → v9f i j f = v2f i j f) ∧ (0 : Int) = mvE v0 v1 v2l v2f v3 v4 (v0 v4 0) (v0 v4 1) (v0 v4 2) v5 ∧ True)))))))))))))))))
theorem vh19 (h : VC19) : VH19 := by
  unfold VH19
  rw [hidF_eq asW, hidF_eq mvE, hidF_eq mvN, hidF_eq okW, hidF_eq puA]
  exact h
end Go.Proofs.Ytiiebpfifkaleaa
