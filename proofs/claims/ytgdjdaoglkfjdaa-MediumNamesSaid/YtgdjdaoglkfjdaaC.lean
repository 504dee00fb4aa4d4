/- What the functions do, and what is left to show of each. -/
import Derived.Test.YtgdjdaoglkfjdaaW
import Derived.Test.YtgdjdaoglkfjdaaD4
set_option linter.unusedVariables false
namespace Go.Proofs.Ytgdjdaoglkfjdaa
open Go Go.RowKit Go.Proofs.Ytgdjdaoglkfjdaa.Vc
/-- a function that the kernel does not open -/
noncomputable def hideS {α : Type} (x : α) : {y : α // y = x} := Classical.choice ⟨⟨x, rfl⟩⟩
noncomputable def hidF {α : Type} (x : α) : α := (hideS x).1
theorem hidF_eq {α : Type} (x : α) : hidF x = x := (hideS x).2
/-! radio.Distance -/
def sig66 : CSig := ⟨[⟨false, [.int .i64]⟩, ⟨false, [.int .i64]⟩, ⟨false, [.int .i64]⟩, ⟨false, [.int .i64]⟩], [⟨false, [.int .i64]⟩, ⟨false, [.int .i64]⟩]⟩
def pre66 : List AV → Prop
  | [.i v0, .i v1, .i v2, .i v3] => True
  | _ => False
noncomputable def raw66 : List AV → List AV
  | [.i v0, .i v1, .i v2, .i v3] => [.i ((hidF dist) v0 v1 v2 v3), .i ((hidF diste) v0 v1 v2 v3)]
  | _ => []
/-! radio.Loss -/
def sig67 : CSig := ⟨[⟨false, [.int .i64]⟩], [⟨false, [.int .i64]⟩, ⟨false, [.int .i64]⟩]⟩
def pre67 : List AV → Prop
  | [.i v0] => True
  | _ => False
noncomputable def raw67 : List AV → List AV
  | [.i v0] => [.i ((hidF lossv) v0), .i ((hidF losse) v0)]
  | _ => []
/-! radio.within -/
def sig63 : CSig := ⟨[⟨false, [.int .i64]⟩, ⟨false, [.int .i64]⟩, ⟨false, [.int .i64]⟩], [⟨false, [.bool]⟩]⟩
def pre63 : List AV → Prop
  | [.i v0, .i v1, .i v2] => True
  | _ => False
noncomputable def raw63 : List AV → List AV
  | [.i v0, .i v1, .i v2] => [.b ((hidF inB) v0 v1 v2)]
  | _ => []

def VH63 : Prop :=
  ∀ (v0 : Int) (v1 : Int) (v2 : Int),
  (True) →
  ((v1 ≤ v0 ∧ v0 ≤ v2) ↔ (hidF inB) v0 v1 v2 = true) ∧ True
def VC63 : Prop :=
  ∀ (v0 : Int) (v1 : Int) (v2 : Int),
  (True) →
  ((v1 ≤ v0 ∧ v0 ≤ v2) ↔ inB v0 v1 v2 = true) ∧ True
theorem vh63 (h : VC63) : VH63 := by
  unfold VH63
  rw [hidF_eq inB]
  exact h
/-! radio.valid -/
def sig61 : CSig := ⟨[⟨true, [.int .i64, .int .i64, .int .i64, .int .i64]⟩], [⟨false, [.bool]⟩]⟩
def pre61 : List AV → Prop
  | [.i v0, .i v1, .i v2, .i v3] => True
  | _ => False
noncomputable def raw61 : List AV → List AV
  | [.i v0, .i v1, .i v2, .i v3] => [.b ((hidF okW) v0 v1 v2 v3)]
  | _ => []

def VH61 : Prop :=
  ∀ (v0 : Int) (v1 : Int) (v2 : Int) (v3 : Int),
  (True) →
  (True) ∧ (∀ (v4 : Bool), v4 = (hidF inB) v0 (-10000 : Int) (10000 : Int) → 
  ((v4 = true → True)) ∧ (∀ (v5 : Bool), v5 = (hidF inB) v1 (-10000 : Int) (10000 : Int) → 
  (((v4 = true ∧ v5 = true) → True)) ∧ (∀ (v6 : Bool), v6 = (hidF inB) v2 (0 : Int) (300 : Int) → 
  ((((v4 = true ∧ v5 = true) ∧ v6 = true) → True)) ∧ (∀ (v7 : Bool), v7 = (hidF inB) v3 (1 : Int) (64 : Int) → 
  ((((v4 = true ∧ v5 = true) ∧ v6 = true) ∧ v7 = true) ↔ (hidF okW) v0 v1 v2 v3 = true) ∧ True))))
def VC61 : Prop :=
  ∀ (v0 : Int) (v1 : Int) (v2 : Int) (v3 : Int),
  (True) →
  (True) ∧ (∀ (v4 : Bool), v4 = inB v0 (-10000 : Int) (10000 : Int) → 
  ((v4 = true → True)) ∧ (∀ (v5 : Bool), v5 = inB v1 (-10000 : Int) (10000 : Int) → 
  (((v4 = true ∧ v5 = true) → True)) ∧ (∀ (v6 : Bool), v6 = inB v2 (0 : Int) (300 : Int) → 
  ((((v4 = true ∧ v5 = true) ∧ v6 = true) → True)) ∧ (∀ (v7 : Bool), v7 = inB v3 (1 : Int) (64 : Int) → 
  ((((v4 = true ∧ v5 = true) ∧ v6 = true) ∧ v7 = true) ↔ okW v0 v1 v2 v3 = true) ∧ True))))
theorem vh61 (h : VC61) : VH61 := by
  unfold VH61
  rw [hidF_eq inB, hidF_eq okW]
  exact h
/-! radio.Check -/
def sig45 : CSig := ⟨[⟨true, [.slc [.int .i64, .int .i64, .int .i64, .int .i64], .mat [.int .i64]]⟩], [⟨false, [.int .i64]⟩]⟩
def pre45 : List AV → Prop
  | [.a v0, .i v1, .m v2l v2f, .i v3] => True
  | _ => False
noncomputable def raw45 : List AV → List AV
  | [.a v0, .i v1, .m v2l v2f, .i v3] => [.i ((hidF ckW) v0 v1 v2l v2f v3)]
  | _ => []

def VH45 : Prop :=
  ∀ (v0 : Int → Nat → Int) (v1 : Int) (v2l : Int → Int) (v2f : Int → Int → Nat → Int) (v3 : Int),
  (True) →
  (0 ≤ v1 →
  (0 ≤ v3 →
  (v1 ≤ 9223372036854775807 →
  (v3 ≤ 9223372036854775807 →
  (((v1 < 1 ∨ 32 < v1) ∨ (¬ (v3 = 0) ∧ ¬ (v3 = v1))) →
    (8 : Int) = (hidF ckW) v0 v1 v2l v2f v3 ∧ True) ∧
  (¬ (((v1 < 1 ∨ 32 < v1) ∨ (¬ (v3 = 0) ∧ ¬ (v3 = v1)))) →
    ∃ (I0 : (Int) → Prop) (μ0 : (Int) → Nat), I0 (0 : Int) ∧ (∀ (v4 : Int), I0 v4 →
      (v4 < v1 →
        0 ≤ v4 ∧ (0 ≤ v4 →
        (True) ∧ (∀ (v5 : Bool), v5 = (hidF okW) (v0 v4 0) (v0 v4 1) (v0 v4 2) (v0 v4 3) → 
        (¬ (v5 = true) →
          (8 : Int) = (hidF ckW) v0 v1 v2l v2f v3 ∧ True) ∧
        (¬ (¬ (v5 = true)) →
          (-9223372036854775808 ≤ (v4 + 1) ∧ (v4 + 1) ≤ 9223372036854775807) ∧ ((-9223372036854775808 ≤ (v4 + 1) ∧ (v4 + 1) ≤ 9223372036854775807) →
          I0 (v4 + 1) ∧ μ0 (v4 + 1) < μ0 v4))))) ∧
      (¬ (v4 < v1) →
        ∃ (I1 : (Int) → Prop) (μ1 : (Int) → Nat), I1 (0 : Int) ∧ (∀ (v5 : Int), I1 v5 →
          (v5 < v3 →
            0 ≤ v5 ∧ (0 ≤ v5 →
            (¬ ((v2l v5) = v1) ∨ v5 < (v2l v5)) ∧ ((¬ ((v2l v5) = v1) ∨ v5 < (v2l v5)) →
            (¬ ((v2l v5) = v1) ∨ v5 < (v2l v5)) ∧ ((¬ ((v2l v5) = v1) ∨ v5 < (v2l v5)) →
            (¬ ((¬ ((v2l v5) = v1) ∨ ¬ (((rowA v2f v5) v5 0) = 0))) →
              ∃ (I2 : (Int) → Prop) (μ2 : (Int) → Nat), I2 (0 : Int) ∧ (∀ (v6 : Int), I2 v6 →
                (0 ≤ (v2l v5) →
                ((v2l v5) ≤ 9223372036854775807 →
                (v6 < (v2l v5) →
                  0 ≤ v6 ∧ (0 ≤ v6 →
                  (True) ∧ (∀ (v7 : Bool), v7 = (hidF inB) ((rowA v2f v5) v6 0) (0 : Int) (600 : Int) → 
                  (¬ (v7 = true) →
                    (8 : Int) = (hidF ckW) v0 v1 v2l v2f v3 ∧ True) ∧
                  (¬ (¬ (v7 = true)) →
                    (-9223372036854775808 ≤ (v6 + 1) ∧ (v6 + 1) ≤ 9223372036854775807) ∧ ((-9223372036854775808 ≤ (v6 + 1) ∧ (v6 + 1) ≤ 9223372036854775807) →
                    I2 (v6 + 1) ∧ μ2 (v6 + 1) < μ2 v6))))) ∧
                (¬ (v6 < (v2l v5)) →
                  (-9223372036854775808 ≤ (v5 + 1) ∧ (v5 + 1) ≤ 9223372036854775807) ∧ ((-9223372036854775808 ≤ (v5 + 1) ∧ (v5 + 1) ≤ 9223372036854775807) →
                  I1 (v5 + 1) ∧ μ1 (v5 + 1) < μ1 v5)))))) ∧
            (¬ (¬ ((¬ ((v2l v5) = v1) ∨ ¬ (((rowA v2f v5) v5 0) = 0)))) →
              (8 : Int) = (hidF ckW) v0 v1 v2l v2f v3 ∧ True))))) ∧
          (¬ (v5 < v3) →
            (0 : Int) = (hidF ckW) v0 v1 v2l v2f v3 ∧ True)))))))))
def VC45 : Prop :=
  ∀ (v0 : Int → Nat → Int) (v1 : Int) (v2l : Int → Int) (v2f : Int → Int → Nat → Int) (v3 : Int),
  (True) →
  (0 ≤ v1 →
  (0 ≤ v3 →
  (v1 ≤ 9223372036854775807 →
  (v3 ≤ 9223372036854775807 →
  (((v1 < 1 ∨ 32 < v1) ∨ (¬ (v3 = 0) ∧ ¬ (v3 = v1))) →
    (8 : Int) = ckW v0 v1 v2l v2f v3 ∧ True) ∧
  (¬ (((v1 < 1 ∨ 32 < v1) ∨ (¬ (v3 = 0) ∧ ¬ (v3 = v1)))) →
    ∃ (I0 : (Int) → Prop) (μ0 : (Int) → Nat), I0 (0 : Int) ∧ (∀ (v4 : Int), I0 v4 →
      (v4 < v1 →
        0 ≤ v4 ∧ (0 ≤ v4 →
        (True) ∧ (∀ (v5 : Bool), v5 = okW (v0 v4 0) (v0 v4 1) (v0 v4 2) (v0 v4 3) → 
        (¬ (v5 = true) →
          (8 : Int) = ckW v0 v1 v2l v2f v3 ∧ True) ∧
        (¬ (¬ (v5 = true)) →
          (-9223372036854775808 ≤ (v4 + 1) ∧ (v4 + 1) ≤ 9223372036854775807) ∧ ((-9223372036854775808 ≤ (v4 + 1) ∧ (v4 + 1) ≤ 9223372036854775807) →
          I0 (v4 + 1) ∧ μ0 (v4 + 1) < μ0 v4))))) ∧
      (¬ (v4 < v1) →
        ∃ (I1 : (Int) → Prop) (μ1 : (Int) → Nat), I1 (0 : Int) ∧ (∀ (v5 : Int), I1 v5 →
          (v5 < v3 →
            0 ≤ v5 ∧ (0 ≤ v5 →
            (¬ ((v2l v5) = v1) ∨ v5 < (v2l v5)) ∧ ((¬ ((v2l v5) = v1) ∨ v5 < (v2l v5)) →
            (¬ ((v2l v5) = v1) ∨ v5 < (v2l v5)) ∧ ((¬ ((v2l v5) = v1) ∨ v5 < (v2l v5)) →
            (¬ ((¬ ((v2l v5) = v1) ∨ ¬ (((rowA v2f v5) v5 0) = 0))) →
              ∃ (I2 : (Int) → Prop) (μ2 : (Int) → Nat), I2 (0 : Int) ∧ (∀ (v6 : Int), I2 v6 →
                (0 ≤ (v2l v5) →
                ((v2l v5) ≤ 9223372036854775807 →
                (v6 < (v2l v5) →
                  0 ≤ v6 ∧ (0 ≤ v6 →
                  (True) ∧ (∀ (v7 : Bool), v7 = inB ((rowA v2f v5) v6 0) (0 : Int) (600 : Int) → 
                  (¬ (v7 = true) →
                    (8 : Int) = ckW v0 v1 v2l v2f v3 ∧ True) ∧
                  (¬ (¬ (v7 = true)) →
                    (-9223372036854775808 ≤ (v6 + 1) ∧ (v6 + 1) ≤ 9223372036854775807) ∧ ((-9223372036854775808 ≤ (v6 + 1) ∧ (v6 + 1) ≤ 9223372036854775807) →
                    I2 (v6 + 1) ∧ μ2 (v6 + 1) < μ2 v6))))) ∧
                (¬ (v6 < (v2l v5)) →
                  (-9223372036854775808 ≤ (v5 + 1) ∧ (v5 + 1) ≤ 9223372036854775807) ∧ ((-9223372036854775808 ≤ (v5 + 1) ∧ (v5 + 1) ≤ 9223372036854775807) →
                  I1 (v5 + 1) ∧ μ1 (v5 + 1) < μ1 v5)))))) ∧
            (¬ (¬ ((¬ ((v2l v5) = v1) ∨ ¬ (((rowA v2f v5) v5 0) = 0)))) →
              (8 : Int) = ckW v0 v1 v2l v2f v3 ∧ True))))) ∧
          (¬ (v5 < v3) →
            (0 : Int) = ckW v0 v1 v2l v2f v3 ∧ True)))))))))
theorem vh45 (h : VC45) : VH45 := by
  unfold VH45
  rw [hidF_eq ckW, hidF_eq inB, hidF_eq okW]
  exact h
/-! radio.nodes -/
def sig65 : CSig := ⟨[⟨true, [.slc [.int .i64, .int .i64, .int .i64, .int .i64], .mat [.int .i64]]⟩, ⟨false, [.slc [.int .i64]]⟩], [⟨false, [.bool]⟩]⟩
def pre65 : List AV → Prop
  | [.a v0, .i v1, .m v2l v2f, .i v3, .a v4, .i v5] => v5 ≤ 4
  | _ => False
noncomputable def raw65 : List AV → List AV
  | [.a v0, .i v1, .m v2l v2f, .i v3, .a v4, .i v5] => [.b (allI (fun t => decide (0 ≤ v4 t 0 ∧ v4 t 0 < v1)) v5)]
  | _ => []

def VH65 : Prop :=
  ∀ (v0 : Int → Nat → Int) (v1 : Int) (v2l : Int → Int) (v2f : Int → Int → Nat → Int) (v3 : Int) (v4 : Int → Nat → Int) (v5 : Int),
  (v5 ≤ 4) →
  (0 ≤ v1 →
  (0 ≤ v3 →
  (0 ≤ v5 →
  ∃ (I0 : (Int) → Prop) (μ0 : (Int) → Nat), I0 (0 : Int) ∧ (∀ (v6 : Int), I0 v6 →
    (v1 ≤ 9223372036854775807 →
    (v3 ≤ 9223372036854775807 →
    (v5 ≤ 9223372036854775807 →
    (v6 < v5 →
      0 ≤ v6 ∧ (0 ≤ v6 →
      (-9223372036854775808 ≤ (v1 - 1) ∧ (v1 - 1) ≤ 9223372036854775807) ∧ ((-9223372036854775808 ≤ (v1 - 1) ∧ (v1 - 1) ≤ 9223372036854775807) →
      (True) ∧ (∀ (v7 : Bool), v7 = (hidF inB) (v4 v6 0) (0 : Int) (v1 - 1) → 
      (¬ (v7 = true) →
        (¬ (0 ≤ v6) ↔ allI (fun t => decide (0 ≤ v4 t 0 ∧ v4 t 0 < v1)) v5 = true) ∧ True) ∧
      (¬ (¬ (v7 = true)) →
        (-9223372036854775808 ≤ (v6 + 1) ∧ (v6 + 1) ≤ 9223372036854775807) ∧ ((-9223372036854775808 ≤ (v6 + 1) ∧ (v6 + 1) ≤ 9223372036854775807) →
        I0 (v6 + 1) ∧ μ0 (v6 + 1) < μ0 v6)))))) ∧
    (¬ (v6 < v5) →
      (True ↔ allI (fun t => decide (0 ≤ v4 t 0 ∧ v4 t 0 < v1)) v5 = true) ∧ True))))))))
def VC65 : Prop :=
  ∀ (v0 : Int → Nat → Int) (v1 : Int) (v2l : Int → Int) (v2f : Int → Int → Nat → Int) (v3 : Int) (v4 : Int → Nat → Int) (v5 : Int),
  (v5 ≤ 4) →
  (0 ≤ v1 →
  (0 ≤ v3 →
  (0 ≤ v5 →
  ∃ (I0 : (Int) → Prop) (μ0 : (Int) → Nat), I0 (0 : Int) ∧ (∀ (v6 : Int), I0 v6 →
    (v1 ≤ 9223372036854775807 →
    (v3 ≤ 9223372036854775807 →
    (v5 ≤ 9223372036854775807 →
    (v6 < v5 →
      0 ≤ v6 ∧ (0 ≤ v6 →
      (-9223372036854775808 ≤ (v1 - 1) ∧ (v1 - 1) ≤ 9223372036854775807) ∧ ((-9223372036854775808 ≤ (v1 - 1) ∧ (v1 - 1) ≤ 9223372036854775807) →
      (True) ∧ (∀ (v7 : Bool), v7 = inB (v4 v6 0) (0 : Int) (v1 - 1) → 
      (¬ (v7 = true) →
        (¬ (0 ≤ v6) ↔ allI (fun t => decide (0 ≤ v4 t 0 ∧ v4 t 0 < v1)) v5 = true) ∧ True) ∧
      (¬ (¬ (v7 = true)) →
        (-9223372036854775808 ≤ (v6 + 1) ∧ (v6 + 1) ≤ 9223372036854775807) ∧ ((-9223372036854775808 ≤ (v6 + 1) ∧ (v6 + 1) ≤ 9223372036854775807) →
        I0 (v6 + 1) ∧ μ0 (v6 + 1) < μ0 v6)))))) ∧
    (¬ (v6 < v5) →
      (True ↔ allI (fun t => decide (0 ≤ v4 t 0 ∧ v4 t 0 < v1)) v5 = true) ∧ True))))))))
theorem vh65 (h : VC65) : VH65 := by
  unfold VH65
  rw [hidF_eq inB]
  exact h
/-! radio.level -/
def sig51 : CSig := ⟨[⟨true, [.slc [.int .i64, .int .i64, .int .i64, .int .i64], .mat [.int .i64]]⟩, ⟨false, [.int .i64]⟩, ⟨false, [.int .i64]⟩], [⟨false, [.int .i64]⟩]⟩
def pre51 : List AV → Prop
  | [.a v0, .i v1, .m v2l v2f, .i v3, .i v4, .i v5] => ckW v0 v1 v2l v2f v3 = 0 ∧ 0 ≤ v4 ∧ v4 < v1 ∧ 0 ≤ v5 ∧ v5 < v1
  | _ => False
noncomputable def raw51 : List AV → List AV
  | [.a v0, .i v1, .m v2l v2f, .i v3, .i v4, .i v5] => [.i ((hidF lvA) v0 v2f v3 v4 v5)]
  | _ => []

def VH51 : Prop :=
  ∀ (v0 : Int → Nat → Int) (v1 : Int) (v2l : Int → Int) (v2f : Int → Int → Nat → Int) (v3 : Int) (v4 : Int) (v5 : Int),
  (ckW v0 v1 v2l v2f v3 = 0 ∧ 0 ≤ v4 ∧ v4 < v1 ∧ 0 ≤ v5 ∧ v5 < v1) →
  (0 ≤ v1 →
  (0 ≤ v3 →
  0 ≤ v4 ∧ (0 ≤ v4 →
  v4 < v1 ∧ (v4 < v1 →
  0 ≤ v5 ∧ (0 ≤ v5 →
  v5 < v1 ∧ (v5 < v1 →
  (v1 ≤ 9223372036854775807 →
  (v3 ≤ 9223372036854775807 →
  (True) ∧ (∀ (v6 : Int) (v7 : Int), v6 = (hidF dist) (v0 v4 0) (v0 v4 1) (v0 v5 0) (v0 v5 1) → v7 = (hidF diste) (v0 v4 0) (v0 v4 1) (v0 v5 0) (v0 v5 1) → 
  (True) ∧ (∀ (v8 : Int) (v9 : Int), v8 = (hidF lossv) v6 → v9 = (hidF losse) v6 → 
  (0 < v3 →
    v4 < v3 ∧ (v4 < v3 →
    v5 < (v2l v4) ∧ (v5 < (v2l v4) →
    (-9223372036854775808 ≤ (v8 + ((rowA v2f v4) v5 0)) ∧ (v8 + ((rowA v2f v4) v5 0)) ≤ 9223372036854775807) ∧ ((-9223372036854775808 ≤ (v8 + ((rowA v2f v4) v5 0)) ∧ (v8 + ((rowA v2f v4) v5 0)) ≤ 9223372036854775807) →
    (-9223372036854775808 ≤ ((v0 v4 2) - (v8 + ((rowA v2f v4) v5 0))) ∧ ((v0 v4 2) - (v8 + ((rowA v2f v4) v5 0))) ≤ 9223372036854775807) ∧ ((-9223372036854775808 ≤ ((v0 v4 2) - (v8 + ((rowA v2f v4) v5 0))) ∧ ((v0 v4 2) - (v8 + ((rowA v2f v4) v5 0))) ≤ 9223372036854775807) →
    ((v0 v4 2) - (v8 + ((rowA v2f v4) v5 0))) = (hidF lvA) v0 v2f v3 v4 v5 ∧ True))))) ∧
  (¬ (0 < v3) →
    (-9223372036854775808 ≤ ((v0 v4 2) - v8) ∧ ((v0 v4 2) - v8) ≤ 9223372036854775807) ∧ ((-9223372036854775808 ≤ ((v0 v4 2) - v8) ∧ ((v0 v4 2) - v8) ≤ 9223372036854775807) →
    ((v0 v4 2) - v8) = (hidF lvA) v0 v2f v3 v4 v5 ∧ True))))))))))))
def VC51 : Prop :=
  ∀ (v0 : Int → Nat → Int) (v1 : Int) (v2l : Int → Int) (v2f : Int → Int → Nat → Int) (v3 : Int) (v4 : Int) (v5 : Int),
  (ckW v0 v1 v2l v2f v3 = 0 ∧ 0 ≤ v4 ∧ v4 < v1 ∧ 0 ≤ v5 ∧ v5 < v1) →
  (0 ≤ v1 →
  (0 ≤ v3 →
  0 ≤ v4 ∧ (0 ≤ v4 →
  v4 < v1 ∧ (v4 < v1 →
  0 ≤ v5 ∧ (0 ≤ v5 →
  v5 < v1 ∧ (v5 < v1 →
  (v1 ≤ 9223372036854775807 →
  (v3 ≤ 9223372036854775807 →
  (True) ∧ (∀ (v6 : Int) (v7 : Int), v6 = dist (v0 v4 0) (v0 v4 1) (v0 v5 0) (v0 v5 1) → v7 = diste (v0 v4 0) (v0 v4 1) (v0 v5 0) (v0 v5 1) → 
  (True) ∧ (∀ (v8 : Int) (v9 : Int), v8 = lossv v6 → v9 = losse v6 → 
  (0 < v3 →
    v4 < v3 ∧ (v4 < v3 →
    v5 < (v2l v4) ∧ (v5 < (v2l v4) →
    (-9223372036854775808 ≤ (v8 + ((rowA v2f v4) v5 0)) ∧ (v8 + ((rowA v2f v4) v5 0)) ≤ 9223372036854775807) ∧ ((-9223372036854775808 ≤ (v8 + ((rowA v2f v4) v5 0)) ∧ (v8 + ((rowA v2f v4) v5 0)) ≤ 9223372036854775807) →
    (-9223372036854775808 ≤ ((v0 v4 2) - (v8 + ((rowA v2f v4) v5 0))) ∧ ((v0 v4 2) - (v8 + ((rowA v2f v4) v5 0))) ≤ 9223372036854775807) ∧ ((-9223372036854775808 ≤ ((v0 v4 2) - (v8 + ((rowA v2f v4) v5 0))) ∧ ((v0 v4 2) - (v8 + ((rowA v2f v4) v5 0))) ≤ 9223372036854775807) →
    ((v0 v4 2) - (v8 + ((rowA v2f v4) v5 0))) = lvA v0 v2f v3 v4 v5 ∧ True))))) ∧
  (¬ (0 < v3) →
    (-9223372036854775808 ≤ ((v0 v4 2) - v8) ∧ ((v0 v4 2) - v8) ≤ 9223372036854775807) ∧ ((-9223372036854775808 ≤ ((v0 v4 2) - v8) ∧ ((v0 v4 2) - v8) ≤ 9223372036854775807) →
    ((v0 v4 2) - v8) = lvA v0 v2f v3 v4 v5 ∧ True))))))))))))
theorem vh51 (h : VC51) : VH51 := by
  unfold VH51
  rw [hidF_eq dist, hidF_eq diste, hidF_eq losse, hidF_eq lossv, hidF_eq lvA]
  exact h
/-! radio.asked -/
def sig49 : CSig := ⟨[⟨true, [.slc [.int .i64, .int .i64, .int .i64, .int .i64], .mat [.int .i64]]⟩, ⟨false, [.slc [.int .i64]]⟩], [⟨false, [.int .i64]⟩]⟩
def pre49 : List AV → Prop
  | [.a v0, .i v1, .m v2l v2f, .i v3, .a v4, .i v5] => v5 ≤ 4
  | _ => False
noncomputable def raw49 : List AV → List AV
  | [.a v0, .i v1, .m v2l v2f, .i v3, .a v4, .i v5] => [.i ((hidF asW) v0 v1 v2l v2f v3 v4 v5)]
  | _ => []

def VH49 : Prop :=
  ∀ (v0 : Int → Nat → Int) (v1 : Int) (v2l : Int → Int) (v2f : Int → Int → Nat → Int) (v3 : Int) (v4 : Int → Nat → Int) (v5 : Int),
  (v5 ≤ 4) →
  (0 ≤ v1 →
  (0 ≤ v3 →
  (0 ≤ v5 →
  (True) ∧ (∀ (v6 : Int), v6 = (hidF ckW) v0 v1 v2l v2f v3 → 
  (v1 ≤ 9223372036854775807 →
  (v3 ≤ 9223372036854775807 →
  (v5 ≤ 9223372036854775807 →
  (¬ (v6 = 0) →
    v6 = (hidF asW) v0 v1 v2l v2f v3 v4 v5 ∧ True) ∧
  (¬ (¬ (v6 = 0)) →
    (v5 ≤ 4) ∧ (∀ (v7 : Bool), v7 = allI (fun t => decide (0 ≤ v4 t 0 ∧ v4 t 0 < v1)) v5 → 
    (¬ (v7 = true) →
      (2 : Int) = (hidF asW) v0 v1 v2l v2f v3 v4 v5 ∧ True) ∧
    (¬ (¬ (v7 = true)) →
      (0 : Int) = (hidF asW) v0 v1 v2l v2f v3 v4 v5 ∧ True))))))))))
def VC49 : Prop :=
  ∀ (v0 : Int → Nat → Int) (v1 : Int) (v2l : Int → Int) (v2f : Int → Int → Nat → Int) (v3 : Int) (v4 : Int → Nat → Int) (v5 : Int),
  (v5 ≤ 4) →
  (0 ≤ v1 →
  (0 ≤ v3 →
  (0 ≤ v5 →
  (True) ∧ (∀ (v6 : Int), v6 = ckW v0 v1 v2l v2f v3 → 
  (v1 ≤ 9223372036854775807 →
  (v3 ≤ 9223372036854775807 →
  (v5 ≤ 9223372036854775807 →
  (¬ (v6 = 0) →
    v6 = asW v0 v1 v2l v2f v3 v4 v5 ∧ True) ∧
  (¬ (¬ (v6 = 0)) →
    (v5 ≤ 4) ∧ (∀ (v7 : Bool), v7 = allI (fun t => decide (0 ≤ v4 t 0 ∧ v4 t 0 < v1)) v5 → 
    (¬ (v7 = true) →
      (2 : Int) = asW v0 v1 v2l v2f v3 v4 v5 ∧ True) ∧
    (¬ (¬ (v7 = true)) →
      (0 : Int) = asW v0 v1 v2l v2f v3 v4 v5 ∧ True))))))))))
theorem vh49 (h : VC49) : VH49 := by
  unfold VH49
  rw [hidF_eq asW, hidF_eq ckW]
  exact h
/-! radio.Level -/
def sig27 : CSig := ⟨[⟨true, [.slc [.int .i64, .int .i64, .int .i64, .int .i64], .mat [.int .i64]]⟩, ⟨false, [.int .i64]⟩, ⟨false, [.int .i64]⟩], [⟨false, [.int .i64]⟩, ⟨false, [.int .i64]⟩]⟩
def pre27 : List AV → Prop
  | [.a v0, .i v1, .m v2l v2f, .i v3, .i v4, .i v5] => True
  | _ => False
noncomputable def raw27 : List AV → List AV
  | [.a v0, .i v1, .m v2l v2f, .i v3, .i v4, .i v5] => [.i ((hidF lvV) v0 v1 v2l v2f v3 v4 v5), .i ((hidF lvE) v0 v1 v2l v2f v3 v4 v5)]
  | _ => []

def VH27 : Prop :=
  ∀ (v0 : Int → Nat → Int) (v1 : Int) (v2l : Int → Int) (v2f : Int → Int → Nat → Int) (v3 : Int) (v4 : Int) (v5 : Int),
  (True) →
  (0 ≤ v1 →
  (0 ≤ v3 →
  ((2 : Int) ≤ 4) ∧ (∀ (v6 : Int), v6 = (hidF asW) v0 v1 v2l v2f v3 (setA (setA zA 0 0 v4) 1 0 v5) (2 : Int) → 
  (v1 ≤ 9223372036854775807 →
  (v3 ≤ 9223372036854775807 →
  (¬ (v6 = 0) →
    (0 : Int) = (hidF lvV) v0 v1 v2l v2f v3 v4 v5 ∧ v6 = (hidF lvE) v0 v1 v2l v2f v3 v4 v5 ∧ True) ∧
  (¬ (¬ (v6 = 0)) →
    (ckW v0 v1 v2l v2f v3 = 0 ∧ 0 ≤ v4 ∧ v4 < v1 ∧ 0 ≤ v5 ∧ v5 < v1) ∧ (∀ (v7 : Int), v7 = (hidF lvA) v0 v2f v3 v4 v5 → 
    v7 = (hidF lvV) v0 v1 v2l v2f v3 v4 v5 ∧ (0 : Int) = (hidF lvE) v0 v1 v2l v2f v3 v4 v5 ∧ True)))))))
def VC27 : Prop :=
  ∀ (v0 : Int → Nat → Int) (v1 : Int) (v2l : Int → Int) (v2f : Int → Int → Nat → Int) (v3 : Int) (v4 : Int) (v5 : Int),
  (True) →
  (0 ≤ v1 →
  (0 ≤ v3 →
  ((2 : Int) ≤ 4) ∧ (∀ (v6 : Int), v6 = asW v0 v1 v2l v2f v3 (setA (setA zA 0 0 v4) 1 0 v5) (2 : Int) → 
  (v1 ≤ 9223372036854775807 →
  (v3 ≤ 9223372036854775807 →
  (¬ (v6 = 0) →
    (0 : Int) = lvV v0 v1 v2l v2f v3 v4 v5 ∧ v6 = lvE v0 v1 v2l v2f v3 v4 v5 ∧ True) ∧
  (¬ (¬ (v6 = 0)) →
    (ckW v0 v1 v2l v2f v3 = 0 ∧ 0 ≤ v4 ∧ v4 < v1 ∧ 0 ≤ v5 ∧ v5 < v1) ∧ (∀ (v7 : Int), v7 = lvA v0 v2f v3 v4 v5 → 
    v7 = lvV v0 v1 v2l v2f v3 v4 v5 ∧ (0 : Int) = lvE v0 v1 v2l v2f v3 v4 v5 ∧ True)))))))
theorem vh27 (h : VC27) : VH27 := by
  unfold VH27
  rw [hidF_eq asW, hidF_eq lvA, hidF_eq lvE, hidF_eq lvV]
  exact h
/-! radio.hears -/
def sig50 : CSig := ⟨[⟨true, [.slc [.int .i64, .int .i64, .int .i64, .int .i64], .mat [.int .i64]]⟩, ⟨false, [.int .i64]⟩, ⟨false, [.int .i64]⟩], [⟨false, [.bool]⟩]⟩
def pre50 : List AV → Prop
  | [.a v0, .i v1, .m v2l v2f, .i v3, .i v4, .i v5] => ckW v0 v1 v2l v2f v3 = 0 ∧ 0 ≤ v4 ∧ v4 < v1 ∧ 0 ≤ v5 ∧ v5 < v1
  | _ => False
noncomputable def raw50 : List AV → List AV
  | [.a v0, .i v1, .m v2l v2f, .i v3, .i v4, .i v5] => [.b ((hidF hrA) v0 v2f v3 v4 v5)]
  | _ => []

def VH50 : Prop :=
  ∀ (v0 : Int → Nat → Int) (v1 : Int) (v2l : Int → Int) (v2f : Int → Int → Nat → Int) (v3 : Int) (v4 : Int) (v5 : Int),
  (ckW v0 v1 v2l v2f v3 = 0 ∧ 0 ≤ v4 ∧ v4 < v1 ∧ 0 ≤ v5 ∧ v5 < v1) →
  (0 ≤ v1 →
  (0 ≤ v3 →
  (v5 = v4 ∨ 0 ≤ v5) ∧ ((v5 = v4 ∨ 0 ≤ v5) →
  (v5 = v4 ∨ v5 < v1) ∧ ((v5 = v4 ∨ v5 < v1) →
  (v5 = v4 ∨ 0 ≤ v5) ∧ ((v5 = v4 ∨ 0 ≤ v5) →
  (v5 = v4 ∨ v5 < v1) ∧ ((v5 = v4 ∨ v5 < v1) →
  (v5 = v4 ∨ 0 ≤ v4) ∧ ((v5 = v4 ∨ 0 ≤ v4) →
  (v5 = v4 ∨ v4 < v1) ∧ ((v5 = v4 ∨ v4 < v1) →
  (v5 = v4 ∨ 0 ≤ v4) ∧ ((v5 = v4 ∨ 0 ≤ v4) →
  (v5 = v4 ∨ v4 < v1) ∧ ((v5 = v4 ∨ v4 < v1) →
  (((¬ (v5 = v4) ∧ (v0 v5 3) = (v0 v4 3)) → ckW v0 v1 v2l v2f v3 = 0 ∧ 0 ≤ v5 ∧ v5 < v1 ∧ 0 ≤ v4 ∧ v4 < v1)) ∧ (∀ (v6 : Int), v6 = (hidF lvA) v0 v2f v3 v5 v4 → 
  (v1 ≤ 9223372036854775807 →
  (v3 ≤ 9223372036854775807 →
  (((¬ (v5 = v4) ∧ (v0 v5 3) = (v0 v4 3)) ∧ (-820) ≤ v6) ↔ (hidF hrA) v0 v2f v3 v4 v5 = true) ∧ True)))))))))))))
def VC50 : Prop :=
  ∀ (v0 : Int → Nat → Int) (v1 : Int) (v2l : Int → Int) (v2f : Int → Int → Nat → Int) (v3 : Int) (v4 : Int) (v5 : Int),
  (ckW v0 v1 v2l v2f v3 = 0 ∧ 0 ≤ v4 ∧ v4 < v1 ∧ 0 ≤ v5 ∧ v5 < v1) →
  (0 ≤ v1 →
  (0 ≤ v3 →
  (v5 = v4 ∨ 0 ≤ v5) ∧ ((v5 = v4 ∨ 0 ≤ v5) →
  (v5 = v4 ∨ v5 < v1) ∧ ((v5 = v4 ∨ v5 < v1) →
  (v5 = v4 ∨ 0 ≤ v5) ∧ ((v5 = v4 ∨ 0 ≤ v5) →
  (v5 = v4 ∨ v5 < v1) ∧ ((v5 = v4 ∨ v5 < v1) →
  (v5 = v4 ∨ 0 ≤ v4) ∧ ((v5 = v4 ∨ 0 ≤ v4) →
  (v5 = v4 ∨ v4 < v1) ∧ ((v5 = v4 ∨ v4 < v1) →
  (v5 = v4 ∨ 0 ≤ v4) ∧ ((v5 = v4 ∨ 0 ≤ v4) →
  (v5 = v4 ∨ v4 < v1) ∧ ((v5 = v4 ∨ v4 < v1) →
  (((¬ (v5 = v4) ∧ (v0 v5 3) = (v0 v4 3)) → ckW v0 v1 v2l v2f v3 = 0 ∧ 0 ≤ v5 ∧ v5 < v1 ∧ 0 ≤ v4 ∧ v4 < v1)) ∧ (∀ (v6 : Int), v6 = lvA v0 v2f v3 v5 v4 → 
  (v1 ≤ 9223372036854775807 →
  (v3 ≤ 9223372036854775807 →
  (((¬ (v5 = v4) ∧ (v0 v5 3) = (v0 v4 3)) ∧ (-820) ≤ v6) ↔ hrA v0 v2f v3 v4 v5 = true) ∧ True)))))))))))))
theorem vh50 (h : VC50) : VH50 := by
  unfold VH50
  rw [hidF_eq hrA, hidF_eq lvA]
  exact h
/-! radio.Hears -/
def sig26 : CSig := ⟨[⟨true, [.slc [.int .i64, .int .i64, .int .i64, .int .i64], .mat [.int .i64]]⟩, ⟨false, [.int .i64]⟩, ⟨false, [.int .i64]⟩], [⟨false, [.bool]⟩, ⟨false, [.int .i64]⟩]⟩
def pre26 : List AV → Prop
  | [.a v0, .i v1, .m v2l v2f, .i v3, .i v4, .i v5] => True
  | _ => False
noncomputable def raw26 : List AV → List AV
  | [.a v0, .i v1, .m v2l v2f, .i v3, .i v4, .i v5] => [.b (((hidF hrV) v0 v1 v2l v2f v3 v4 v5)), .i ((hidF lvE) v0 v1 v2l v2f v3 v4 v5)]
  | _ => []

def VH26 : Prop :=
  ∀ (v0 : Int → Nat → Int) (v1 : Int) (v2l : Int → Int) (v2f : Int → Int → Nat → Int) (v3 : Int) (v4 : Int) (v5 : Int),
  (True) →
  (0 ≤ v1 →
  (0 ≤ v3 →
  ((2 : Int) ≤ 4) ∧ (∀ (v6 : Int), v6 = (hidF asW) v0 v1 v2l v2f v3 (setA (setA zA 0 0 v5) 1 0 v4) (2 : Int) → 
  (v1 ≤ 9223372036854775807 →
  (v3 ≤ 9223372036854775807 →
  (¬ (v6 = 0) →
    (False ↔ ((hidF hrV) v0 v1 v2l v2f v3 v4 v5) = true) ∧ v6 = (hidF lvE) v0 v1 v2l v2f v3 v4 v5 ∧ True) ∧
  (¬ (¬ (v6 = 0)) →
    (ckW v0 v1 v2l v2f v3 = 0 ∧ 0 ≤ v4 ∧ v4 < v1 ∧ 0 ≤ v5 ∧ v5 < v1) ∧ (∀ (v7 : Bool), v7 = (hidF hrA) v0 v2f v3 v4 v5 → 
    (v7 = true ↔ ((hidF hrV) v0 v1 v2l v2f v3 v4 v5) = true) ∧ (0 : Int) = (hidF lvE) v0 v1 v2l v2f v3 v4 v5 ∧ True)))))))
def VC26 : Prop :=
  ∀ (v0 : Int → Nat → Int) (v1 : Int) (v2l : Int → Int) (v2f : Int → Int → Nat → Int) (v3 : Int) (v4 : Int) (v5 : Int),
  (True) →
  (0 ≤ v1 →
  (0 ≤ v3 →
  ((2 : Int) ≤ 4) ∧ (∀ (v6 : Int), v6 = asW v0 v1 v2l v2f v3 (setA (setA zA 0 0 v5) 1 0 v4) (2 : Int) → 
  (v1 ≤ 9223372036854775807 →
  (v3 ≤ 9223372036854775807 →
  (¬ (v6 = 0) →
    (False ↔ (hrV v0 v1 v2l v2f v3 v4 v5) = true) ∧ v6 = lvE v0 v1 v2l v2f v3 v4 v5 ∧ True) ∧
  (¬ (¬ (v6 = 0)) →
    (ckW v0 v1 v2l v2f v3 = 0 ∧ 0 ≤ v4 ∧ v4 < v1 ∧ 0 ≤ v5 ∧ v5 < v1) ∧ (∀ (v7 : Bool), v7 = hrA v0 v2f v3 v4 v5 → 
    (v7 = true ↔ (hrV v0 v1 v2l v2f v3 v4 v5) = true) ∧ (0 : Int) = lvE v0 v1 v2l v2f v3 v4 v5 ∧ True)))))))
theorem vh26 (h : VC26) : VH26 := by
  unfold VH26
  rw [hidF_eq asW, hidF_eq hrA, hidF_eq hrV, hidF_eq lvE]
  exact h
/-! hotspotref10.Great -/
def sig34 : CSig := ⟨[⟨true, [.slc [.int .i64, .int .i64, .int .i64, .int .i64], .mat [.int .i64]]⟩], [⟨false, [.bool]⟩]⟩
def pre34 : List AV → Prop
  | [.a v0, .i v1, .m v2l v2f, .i v3] => True
  | _ => False
noncomputable def raw34 : List AV → List AV
  | [.a v0, .i v1, .m v2l v2f, .i v3] => [.b ((hidF grW) v1 v2l v3)]
  | _ => []

def VH34 : Prop :=
  ∀ (v0 : Int → Nat → Int) (v1 : Int) (v2l : Int → Int) (v2f : Int → Int → Nat → Int) (v3 : Int),
  (True) →
  (0 ≤ v1 →
  (0 ≤ v3 →
  (v1 ≤ 9223372036854775807 →
  (v3 ≤ 9223372036854775807 →
  ((40 < v1 ∨ 40 < v3) →
    (True ↔ (hidF grW) v1 v2l v3 = true) ∧ True) ∧
  (¬ ((40 < v1 ∨ 40 < v3)) →
    ∃ (I0 : (Int) → Prop) (μ0 : (Int) → Nat), I0 (0 : Int) ∧ (∀ (v4 : Int), I0 v4 →
      (v4 < v3 →
        0 ≤ v4 ∧ (0 ≤ v4 →
        (0 ≤ (v2l v4) →
        ((v2l v4) ≤ 9223372036854775807 →
        (40 < (v2l v4) →
          (True ↔ (hidF grW) v1 v2l v3 = true) ∧ True) ∧
        (¬ (40 < (v2l v4)) →
          (-9223372036854775808 ≤ (v4 + 1) ∧ (v4 + 1) ≤ 9223372036854775807) ∧ ((-9223372036854775808 ≤ (v4 + 1) ∧ (v4 + 1) ≤ 9223372036854775807) →
          I0 (v4 + 1) ∧ μ0 (v4 + 1) < μ0 v4)))))) ∧
      (¬ (v4 < v3) →
        (False ↔ (hidF grW) v1 v2l v3 = true) ∧ True)))))))
def VC34 : Prop :=
  ∀ (v0 : Int → Nat → Int) (v1 : Int) (v2l : Int → Int) (v2f : Int → Int → Nat → Int) (v3 : Int),
  (True) →
  (0 ≤ v1 →
  (0 ≤ v3 →
  (v1 ≤ 9223372036854775807 →
  (v3 ≤ 9223372036854775807 →
  ((40 < v1 ∨ 40 < v3) →
    (True ↔ grW v1 v2l v3 = true) ∧ True) ∧
  (¬ ((40 < v1 ∨ 40 < v3)) →
    ∃ (I0 : (Int) → Prop) (μ0 : (Int) → Nat), I0 (0 : Int) ∧ (∀ (v4 : Int), I0 v4 →
      (v4 < v3 →
        0 ≤ v4 ∧ (0 ≤ v4 →
        (0 ≤ (v2l v4) →
        ((v2l v4) ≤ 9223372036854775807 →
        (40 < (v2l v4) →
          (True ↔ grW v1 v2l v3 = true) ∧ True) ∧
        (¬ (40 < (v2l v4)) →
          (-9223372036854775808 ≤ (v4 + 1) ∧ (v4 + 1) ≤ 9223372036854775807) ∧ ((-9223372036854775808 ≤ (v4 + 1) ∧ (v4 + 1) ≤ 9223372036854775807) →
          I0 (v4 + 1) ∧ μ0 (v4 + 1) < μ0 v4)))))) ∧
      (¬ (v4 < v3) →
        (False ↔ grW v1 v2l v3 = true) ∧ True)))))))
theorem vh34 (h : VC34) : VH34 := by
  unfold VH34
  rw [hidF_eq grW]
  exact h
/-! hotspotref10.Distance -/
def sig70 : CSig := ⟨[⟨false, [.int .i64]⟩, ⟨false, [.int .i64]⟩, ⟨false, [.int .i64]⟩, ⟨false, [.int .i64]⟩], [⟨false, [.int .i64]⟩, ⟨false, [.int .i64]⟩]⟩
def pre70 : List AV → Prop
  | [.i v0, .i v1, .i v2, .i v3] => True
  | _ => False
noncomputable def raw70 : List AV → List AV
  | [.i v0, .i v1, .i v2, .i v3] => [.i ((hidF dist) v0 v1 v2 v3), .i ((hidF diste) v0 v1 v2 v3)]
  | _ => []
/-! hotspotref10.Lost -/
def sig71 : CSig := ⟨[⟨false, [.int .i64]⟩], [⟨false, [.int .i64]⟩]⟩
def pre71 : List AV → Prop
  | [.i v0] => 0 ≤ v0 ∧ v0 ≤ 30000
  | _ => False
noncomputable def raw71 : List AV → List AV
  | [.i v0] => [.i ((hidF loss) v0)]
  | _ => []
/-! hotspotref10.In -/
def sig48 : CSig := ⟨[⟨false, [.int .i64]⟩, ⟨false, [.int .i64]⟩, ⟨false, [.int .i64]⟩], [⟨false, [.bool]⟩]⟩
def pre48 : List AV → Prop
  | [.i v0, .i v1, .i v2] => True
  | _ => False
noncomputable def raw48 : List AV → List AV
  | [.i v0, .i v1, .i v2] => [.b ((hidF inB) v0 v1 v2)]
  | _ => []

def VH48 : Prop :=
  ∀ (v0 : Int) (v1 : Int) (v2 : Int),
  (True) →
  ((v1 ≤ v0 ∧ v0 ≤ v2) ↔ (hidF inB) v0 v1 v2 = true) ∧ True
def VC48 : Prop :=
  ∀ (v0 : Int) (v1 : Int) (v2 : Int),
  (True) →
  ((v1 ≤ v0 ∧ v0 ≤ v2) ↔ inB v0 v1 v2 = true) ∧ True
theorem vh48 (h : VC48) : VH48 := by
  unfold VH48
  rw [hidF_eq inB]
  exact h
/-! hotspotref10.Valid -/
def sig64 : CSig := ⟨[⟨true, [.int .i64, .int .i64, .int .i64, .int .i64]⟩], [⟨false, [.bool]⟩]⟩
def pre64 : List AV → Prop
  | [.i v0, .i v1, .i v2, .i v3] => True
  | _ => False
noncomputable def raw64 : List AV → List AV
  | [.i v0, .i v1, .i v2, .i v3] => [.b ((hidF okW) v0 v1 v2 v3)]
  | _ => []

def VH64 : Prop :=
  ∀ (v0 : Int) (v1 : Int) (v2 : Int) (v3 : Int),
  (True) →
  (True) ∧ (∀ (v4 : Bool), v4 = (hidF inB) v0 (-10000 : Int) (10000 : Int) → 
  ((v4 = true → True)) ∧ (∀ (v5 : Bool), v5 = (hidF inB) v1 (-10000 : Int) (10000 : Int) → 
  (((v4 = true ∧ v5 = true) → True)) ∧ (∀ (v6 : Bool), v6 = (hidF inB) v2 (0 : Int) (300 : Int) → 
  ((((v4 = true ∧ v5 = true) ∧ v6 = true) → True)) ∧ (∀ (v7 : Bool), v7 = (hidF inB) v3 (1 : Int) (64 : Int) → 
  ((((v4 = true ∧ v5 = true) ∧ v6 = true) ∧ v7 = true) ↔ (hidF okW) v0 v1 v2 v3 = true) ∧ True))))
def VC64 : Prop :=
  ∀ (v0 : Int) (v1 : Int) (v2 : Int) (v3 : Int),
  (True) →
  (True) ∧ (∀ (v4 : Bool), v4 = inB v0 (-10000 : Int) (10000 : Int) → 
  ((v4 = true → True)) ∧ (∀ (v5 : Bool), v5 = inB v1 (-10000 : Int) (10000 : Int) → 
  (((v4 = true ∧ v5 = true) → True)) ∧ (∀ (v6 : Bool), v6 = inB v2 (0 : Int) (300 : Int) → 
  ((((v4 = true ∧ v5 = true) ∧ v6 = true) → True)) ∧ (∀ (v7 : Bool), v7 = inB v3 (1 : Int) (64 : Int) → 
  ((((v4 = true ∧ v5 = true) ∧ v6 = true) ∧ v7 = true) ↔ okW v0 v1 v2 v3 = true) ∧ True))))
theorem vh64 (h : VC64) : VH64 := by
  unfold VH64
  rw [hidF_eq inB, hidF_eq okW]
  exact h
/-! hotspotref10.Check -/
def sig47 : CSig := ⟨[⟨true, [.slc [.int .i64, .int .i64, .int .i64, .int .i64], .mat [.int .i64]]⟩], [⟨false, [.int .i64]⟩]⟩
def pre47 : List AV → Prop
  | [.a v0, .i v1, .m v2l v2f, .i v3] => True
  | _ => False
noncomputable def raw47 : List AV → List AV
  | [.a v0, .i v1, .m v2l v2f, .i v3] => [.i ((hidF ckW) v0 v1 v2l v2f v3)]
  | _ => []

def VH47 : Prop :=
  ∀ (v0 : Int → Nat → Int) (v1 : Int) (v2l : Int → Int) (v2f : Int → Int → Nat → Int) (v3 : Int),
  (True) →
  (0 ≤ v1 →
  (0 ≤ v3 →
  (True) ∧ (∀ (v4 : Bool), v4 = (hidF inB) v1 (1 : Int) (32 : Int) → 
  (v1 ≤ 9223372036854775807 →
  (v3 ≤ 9223372036854775807 →
  (¬ (v4 = true) →
    (8 : Int) = (hidF ckW) v0 v1 v2l v2f v3 ∧ True) ∧
  (¬ (¬ (v4 = true)) →
    ∃ (I0 : (Int) → Prop) (μ0 : (Int) → Nat), I0 (0 : Int) ∧ (∀ (v5 : Int), I0 v5 →
      (v5 < v1 →
        0 ≤ v5 ∧ (0 ≤ v5 →
        (True) ∧ (∀ (v6 : Bool), v6 = (hidF okW) (v0 v5 0) (v0 v5 1) (v0 v5 2) (v0 v5 3) → 
        (¬ (v6 = true) →
          (8 : Int) = (hidF ckW) v0 v1 v2l v2f v3 ∧ True) ∧
        (¬ (¬ (v6 = true)) →
          (-9223372036854775808 ≤ (v5 + 1) ∧ (v5 + 1) ≤ 9223372036854775807) ∧ ((-9223372036854775808 ≤ (v5 + 1) ∧ (v5 + 1) ≤ 9223372036854775807) →
          I0 (v5 + 1) ∧ μ0 (v5 + 1) < μ0 v5))))) ∧
      (¬ (v5 < v1) →
        (v3 = 0 →
          (0 : Int) = (hidF ckW) v0 v1 v2l v2f v3 ∧ True) ∧
        (¬ (v3 = 0) →
          (¬ (v3 = v1) →
            (8 : Int) = (hidF ckW) v0 v1 v2l v2f v3 ∧ True) ∧
          (¬ (¬ (v3 = v1)) →
            ∃ (I1 : (Int) → Prop) (μ1 : (Int) → Nat), I1 (0 : Int) ∧ (∀ (v6 : Int), I1 v6 →
              (v6 < v1 →
                0 ≤ v6 ∧ (0 ≤ v6 →
                v6 < v3 ∧ (v6 < v3 →
                (¬ ((v2l v6) = v1) ∨ v6 < (v2l v6)) ∧ ((¬ ((v2l v6) = v1) ∨ v6 < (v2l v6)) →
                (¬ ((v2l v6) = v1) ∨ v6 < (v2l v6)) ∧ ((¬ ((v2l v6) = v1) ∨ v6 < (v2l v6)) →
                (0 ≤ (v2l v6) →
                ((v2l v6) ≤ 9223372036854775807 →
                ((¬ ((v2l v6) = v1) ∨ ¬ (((rowA v2f v6) v6 0) = 0)) →
                  (8 : Int) = (hidF ckW) v0 v1 v2l v2f v3 ∧ True) ∧
                (¬ ((¬ ((v2l v6) = v1) ∨ ¬ (((rowA v2f v6) v6 0) = 0))) →
                  ∃ (I2 : (Int) → Prop) (μ2 : (Int) → Nat), I2 (0 : Int) ∧ (∀ (v7 : Int), I2 v7 →
                    (v7 < v1 →
                      0 ≤ v7 ∧ (0 ≤ v7 →
                      v7 < (v2l v6) ∧ (v7 < (v2l v6) →
                      (True) ∧ (∀ (v8 : Bool), v8 = (hidF inB) ((rowA v2f v6) v7 0) (0 : Int) (600 : Int) → 
                      (¬ (v8 = true) →
                        (8 : Int) = (hidF ckW) v0 v1 v2l v2f v3 ∧ True) ∧
                      (¬ (¬ (v8 = true)) →
                        (-9223372036854775808 ≤ (v7 + 1) ∧ (v7 + 1) ≤ 9223372036854775807) ∧ ((-9223372036854775808 ≤ (v7 + 1) ∧ (v7 + 1) ≤ 9223372036854775807) →
                        I2 (v7 + 1) ∧ μ2 (v7 + 1) < μ2 v7)))))) ∧
                    (¬ (v7 < v1) →
                      (-9223372036854775808 ≤ (v6 + 1) ∧ (v6 + 1) ≤ 9223372036854775807) ∧ ((-9223372036854775808 ≤ (v6 + 1) ∧ (v6 + 1) ≤ 9223372036854775807) →
                      I1 (v6 + 1) ∧ μ1 (v6 + 1) < μ1 v6))))))))))) ∧
              (¬ (v6 < v1) →
                (0 : Int) = (hidF ckW) v0 v1 v2l v2f v3 ∧ True))))))))))))
def VC47 : Prop :=
  ∀ (v0 : Int → Nat → Int) (v1 : Int) (v2l : Int → Int) (v2f : Int → Int → Nat → Int) (v3 : Int),
  (True) →
  (0 ≤ v1 →
  (0 ≤ v3 →
  (True) ∧ (∀ (v4 : Bool), v4 = inB v1 (1 : Int) (32 : Int) → 
  (v1 ≤ 9223372036854775807 →
  (v3 ≤ 9223372036854775807 →
  (¬ (v4 = true) →
    (8 : Int) = ckW v0 v1 v2l v2f v3 ∧ True) ∧
  (¬ (¬ (v4 = true)) →
    ∃ (I0 : (Int) → Prop) (μ0 : (Int) → Nat), I0 (0 : Int) ∧ (∀ (v5 : Int), I0 v5 →
      (v5 < v1 →
        0 ≤ v5 ∧ (0 ≤ v5 →
        (True) ∧ (∀ (v6 : Bool), v6 = okW (v0 v5 0) (v0 v5 1) (v0 v5 2) (v0 v5 3) → 
        (¬ (v6 = true) →
          (8 : Int) = ckW v0 v1 v2l v2f v3 ∧ True) ∧
        (¬ (¬ (v6 = true)) →
          (-9223372036854775808 ≤ (v5 + 1) ∧ (v5 + 1) ≤ 9223372036854775807) ∧ ((-9223372036854775808 ≤ (v5 + 1) ∧ (v5 + 1) ≤ 9223372036854775807) →
          I0 (v5 + 1) ∧ μ0 (v5 + 1) < μ0 v5))))) ∧
      (¬ (v5 < v1) →
        (v3 = 0 →
          (0 : Int) = ckW v0 v1 v2l v2f v3 ∧ True) ∧
        (¬ (v3 = 0) →
          (¬ (v3 = v1) →
            (8 : Int) = ckW v0 v1 v2l v2f v3 ∧ True) ∧
          (¬ (¬ (v3 = v1)) →
            ∃ (I1 : (Int) → Prop) (μ1 : (Int) → Nat), I1 (0 : Int) ∧ (∀ (v6 : Int), I1 v6 →
              (v6 < v1 →
                0 ≤ v6 ∧ (0 ≤ v6 →
                v6 < v3 ∧ (v6 < v3 →
                (¬ ((v2l v6) = v1) ∨ v6 < (v2l v6)) ∧ ((¬ ((v2l v6) = v1) ∨ v6 < (v2l v6)) →
                (¬ ((v2l v6) = v1) ∨ v6 < (v2l v6)) ∧ ((¬ ((v2l v6) = v1) ∨ v6 < (v2l v6)) →
                (0 ≤ (v2l v6) →
                ((v2l v6) ≤ 9223372036854775807 →
                ((¬ ((v2l v6) = v1) ∨ ¬ (((rowA v2f v6) v6 0) = 0)) →
                  (8 : Int) = ckW v0 v1 v2l v2f v3 ∧ True) ∧
                (¬ ((¬ ((v2l v6) = v1) ∨ ¬ (((rowA v2f v6) v6 0) = 0))) →
                  ∃ (I2 : (Int) → Prop) (μ2 : (Int) → Nat), I2 (0 : Int) ∧ (∀ (v7 : Int), I2 v7 →
                    (v7 < v1 →
                      0 ≤ v7 ∧ (0 ≤ v7 →
                      v7 < (v2l v6) ∧ (v7 < (v2l v6) →
                      (True) ∧ (∀ (v8 : Bool), v8 = inB ((rowA v2f v6) v7 0) (0 : Int) (600 : Int) → 
                      (¬ (v8 = true) →
                        (8 : Int) = ckW v0 v1 v2l v2f v3 ∧ True) ∧
                      (¬ (¬ (v8 = true)) →
                        (-9223372036854775808 ≤ (v7 + 1) ∧ (v7 + 1) ≤ 9223372036854775807) ∧ ((-9223372036854775808 ≤ (v7 + 1) ∧ (v7 + 1) ≤ 9223372036854775807) →
                        I2 (v7 + 1) ∧ μ2 (v7 + 1) < μ2 v7)))))) ∧
                    (¬ (v7 < v1) →
                      (-9223372036854775808 ≤ (v6 + 1) ∧ (v6 + 1) ≤ 9223372036854775807) ∧ ((-9223372036854775808 ≤ (v6 + 1) ∧ (v6 + 1) ≤ 9223372036854775807) →
                      I1 (v6 + 1) ∧ μ1 (v6 + 1) < μ1 v6))))))))))) ∧
              (¬ (v6 < v1) →
                (0 : Int) = ckW v0 v1 v2l v2f v3 ∧ True))))))))))))
theorem vh47 (h : VC47) : VH47 := by
  unfold VH47
  rw [hidF_eq ckW, hidF_eq inB, hidF_eq okW]
  exact h
/-! hotspotref10.Leveled -/
def sig58 : CSig := ⟨[⟨true, [.slc [.int .i64, .int .i64, .int .i64, .int .i64], .mat [.int .i64]]⟩, ⟨false, [.int .i64]⟩, ⟨false, [.int .i64]⟩], [⟨false, [.int .i64]⟩]⟩
def pre58 : List AV → Prop
  | [.a v0, .i v1, .m v2l v2f, .i v3, .i v4, .i v5] => ckW v0 v1 v2l v2f v3 = 0 ∧ 0 ≤ v4 ∧ v4 < v1 ∧ 0 ≤ v5 ∧ v5 < v1
  | _ => False
noncomputable def raw58 : List AV → List AV
  | [.a v0, .i v1, .m v2l v2f, .i v3, .i v4, .i v5] => [.i ((hidF lvA) v0 v2f v3 v4 v5)]
  | _ => []

def VH58 : Prop :=
  ∀ (v0 : Int → Nat → Int) (v1 : Int) (v2l : Int → Int) (v2f : Int → Int → Nat → Int) (v3 : Int) (v4 : Int) (v5 : Int),
  (ckW v0 v1 v2l v2f v3 = 0 ∧ 0 ≤ v4 ∧ v4 < v1 ∧ 0 ≤ v5 ∧ v5 < v1) →
  (0 ≤ v1 →
  (0 ≤ v3 →
  0 ≤ v4 ∧ (0 ≤ v4 →
  v4 < v1 ∧ (v4 < v1 →
  0 ≤ v5 ∧ (0 ≤ v5 →
  v5 < v1 ∧ (v5 < v1 →
  (True) ∧ (∀ (v6 : Int) (v7 : Int), v6 = (hidF dist) (v0 v4 0) (v0 v4 1) (v0 v5 0) (v0 v5 1) → v7 = (hidF diste) (v0 v4 0) (v0 v4 1) (v0 v5 0) (v0 v5 1) → 
  (v1 ≤ 9223372036854775807 →
  (v3 ≤ 9223372036854775807 →
  (0 ≤ v6 ∧ v6 ≤ 30000) ∧ (∀ (v8 : Int), v8 = (hidF loss) v6 → 
  (-9223372036854775808 ≤ ((v0 v4 2) - v8) ∧ ((v0 v4 2) - v8) ≤ 9223372036854775807) ∧ ((-9223372036854775808 ≤ ((v0 v4 2) - v8) ∧ ((v0 v4 2) - v8) ≤ 9223372036854775807) →
  (0 < v3 →
    v4 < v3 ∧ (v4 < v3 →
    v5 < (v2l v4) ∧ (v5 < (v2l v4) →
    (-9223372036854775808 ≤ (((v0 v4 2) - v8) - ((rowA v2f v4) v5 0)) ∧ (((v0 v4 2) - v8) - ((rowA v2f v4) v5 0)) ≤ 9223372036854775807) ∧ ((-9223372036854775808 ≤ (((v0 v4 2) - v8) - ((rowA v2f v4) v5 0)) ∧ (((v0 v4 2) - v8) - ((rowA v2f v4) v5 0)) ≤ 9223372036854775807) →
    (((v0 v4 2) - v8) - ((rowA v2f v4) v5 0)) = (hidF lvA) v0 v2f v3 v4 v5 ∧ True)))) ∧
  (¬ (0 < v3) →
    ((v0 v4 2) - v8) = (hidF lvA) v0 v2f v3 v4 v5 ∧ True))))))))))))
def VC58 : Prop :=
  ∀ (v0 : Int → Nat → Int) (v1 : Int) (v2l : Int → Int) (v2f : Int → Int → Nat → Int) (v3 : Int) (v4 : Int) (v5 : Int),
  (ckW v0 v1 v2l v2f v3 = 0 ∧ 0 ≤ v4 ∧ v4 < v1 ∧ 0 ≤ v5 ∧ v5 < v1) →
  (0 ≤ v1 →
  (0 ≤ v3 →
  0 ≤ v4 ∧ (0 ≤ v4 →
  v4 < v1 ∧ (v4 < v1 →
  0 ≤ v5 ∧ (0 ≤ v5 →
  v5 < v1 ∧ (v5 < v1 →
  (True) ∧ (∀ (v6 : Int) (v7 : Int), v6 = dist (v0 v4 0) (v0 v4 1) (v0 v5 0) (v0 v5 1) → v7 = diste (v0 v4 0) (v0 v4 1) (v0 v5 0) (v0 v5 1) → 
  (v1 ≤ 9223372036854775807 →
  (v3 ≤ 9223372036854775807 →
  (0 ≤ v6 ∧ v6 ≤ 30000) ∧ (∀ (v8 : Int), v8 = loss v6 → 
  (-9223372036854775808 ≤ ((v0 v4 2) - v8) ∧ ((v0 v4 2) - v8) ≤ 9223372036854775807) ∧ ((-9223372036854775808 ≤ ((v0 v4 2) - v8) ∧ ((v0 v4 2) - v8) ≤ 9223372036854775807) →
  (0 < v3 →
    v4 < v3 ∧ (v4 < v3 →
    v5 < (v2l v4) ∧ (v5 < (v2l v4) →
    (-9223372036854775808 ≤ (((v0 v4 2) - v8) - ((rowA v2f v4) v5 0)) ∧ (((v0 v4 2) - v8) - ((rowA v2f v4) v5 0)) ≤ 9223372036854775807) ∧ ((-9223372036854775808 ≤ (((v0 v4 2) - v8) - ((rowA v2f v4) v5 0)) ∧ (((v0 v4 2) - v8) - ((rowA v2f v4) v5 0)) ≤ 9223372036854775807) →
    (((v0 v4 2) - v8) - ((rowA v2f v4) v5 0)) = lvA v0 v2f v3 v4 v5 ∧ True)))) ∧
  (¬ (0 < v3) →
    ((v0 v4 2) - v8) = lvA v0 v2f v3 v4 v5 ∧ True))))))))))))
theorem vh58 (h : VC58) : VH58 := by
  unfold VH58
  rw [hidF_eq dist, hidF_eq diste, hidF_eq loss, hidF_eq lvA]
  exact h
/-! hotspotref10.Heard -/
def sig56 : CSig := ⟨[⟨true, [.slc [.int .i64, .int .i64, .int .i64, .int .i64], .mat [.int .i64]]⟩, ⟨false, [.int .i64]⟩, ⟨false, [.int .i64]⟩], [⟨false, [.bool]⟩]⟩
def pre56 : List AV → Prop
  | [.a v0, .i v1, .m v2l v2f, .i v3, .i v4, .i v5] => ckW v0 v1 v2l v2f v3 = 0 ∧ 0 ≤ v4 ∧ v4 < v1 ∧ 0 ≤ v5 ∧ v5 < v1
  | _ => False
noncomputable def raw56 : List AV → List AV
  | [.a v0, .i v1, .m v2l v2f, .i v3, .i v4, .i v5] => [.b ((hidF hrA) v0 v2f v3 v4 v5)]
  | _ => []

def VH56 : Prop :=
  ∀ (v0 : Int → Nat → Int) (v1 : Int) (v2l : Int → Int) (v2f : Int → Int → Nat → Int) (v3 : Int) (v4 : Int) (v5 : Int),
  (ckW v0 v1 v2l v2f v3 = 0 ∧ 0 ≤ v4 ∧ v4 < v1 ∧ 0 ≤ v5 ∧ v5 < v1) →
  (0 ≤ v1 →
  (0 ≤ v3 →
  (v5 = v4 ∨ 0 ≤ v5) ∧ ((v5 = v4 ∨ 0 ≤ v5) →
  (v5 = v4 ∨ v5 < v1) ∧ ((v5 = v4 ∨ v5 < v1) →
  (v5 = v4 ∨ 0 ≤ v5) ∧ ((v5 = v4 ∨ 0 ≤ v5) →
  (v5 = v4 ∨ v5 < v1) ∧ ((v5 = v4 ∨ v5 < v1) →
  (v5 = v4 ∨ 0 ≤ v4) ∧ ((v5 = v4 ∨ 0 ≤ v4) →
  (v5 = v4 ∨ v4 < v1) ∧ ((v5 = v4 ∨ v4 < v1) →
  (v5 = v4 ∨ 0 ≤ v4) ∧ ((v5 = v4 ∨ 0 ≤ v4) →
  (v5 = v4 ∨ v4 < v1) ∧ ((v5 = v4 ∨ v4 < v1) →
  (((¬ (v5 = v4) ∧ (v0 v5 3) = (v0 v4 3)) → ckW v0 v1 v2l v2f v3 = 0 ∧ 0 ≤ v5 ∧ v5 < v1 ∧ 0 ≤ v4 ∧ v4 < v1)) ∧ (∀ (v6 : Int), v6 = (hidF lvA) v0 v2f v3 v5 v4 → 
  (v1 ≤ 9223372036854775807 →
  (v3 ≤ 9223372036854775807 →
  (((¬ (v5 = v4) ∧ (v0 v5 3) = (v0 v4 3)) ∧ (-820) ≤ v6) ↔ (hidF hrA) v0 v2f v3 v4 v5 = true) ∧ True)))))))))))))
def VC56 : Prop :=
  ∀ (v0 : Int → Nat → Int) (v1 : Int) (v2l : Int → Int) (v2f : Int → Int → Nat → Int) (v3 : Int) (v4 : Int) (v5 : Int),
  (ckW v0 v1 v2l v2f v3 = 0 ∧ 0 ≤ v4 ∧ v4 < v1 ∧ 0 ≤ v5 ∧ v5 < v1) →
  (0 ≤ v1 →
  (0 ≤ v3 →
  (v5 = v4 ∨ 0 ≤ v5) ∧ ((v5 = v4 ∨ 0 ≤ v5) →
  (v5 = v4 ∨ v5 < v1) ∧ ((v5 = v4 ∨ v5 < v1) →
  (v5 = v4 ∨ 0 ≤ v5) ∧ ((v5 = v4 ∨ 0 ≤ v5) →
  (v5 = v4 ∨ v5 < v1) ∧ ((v5 = v4 ∨ v5 < v1) →
  (v5 = v4 ∨ 0 ≤ v4) ∧ ((v5 = v4 ∨ 0 ≤ v4) →
  (v5 = v4 ∨ v4 < v1) ∧ ((v5 = v4 ∨ v4 < v1) →
  (v5 = v4 ∨ 0 ≤ v4) ∧ ((v5 = v4 ∨ 0 ≤ v4) →
  (v5 = v4 ∨ v4 < v1) ∧ ((v5 = v4 ∨ v4 < v1) →
  (((¬ (v5 = v4) ∧ (v0 v5 3) = (v0 v4 3)) → ckW v0 v1 v2l v2f v3 = 0 ∧ 0 ≤ v5 ∧ v5 < v1 ∧ 0 ≤ v4 ∧ v4 < v1)) ∧ (∀ (v6 : Int), v6 = lvA v0 v2f v3 v5 v4 → 
  (v1 ≤ 9223372036854775807 →
  (v3 ≤ 9223372036854775807 →
  (((¬ (v5 = v4) ∧ (v0 v5 3) = (v0 v4 3)) ∧ (-820) ≤ v6) ↔ hrA v0 v2f v3 v4 v5 = true) ∧ True)))))))))))))
theorem vh56 (h : VC56) : VH56 := by
  unfold VH56
  rw [hidF_eq hrA, hidF_eq lvA]
  exact h
/-! hotspotref10.SameInts -/
def sig29 : CSig := ⟨[⟨false, [.slc [.int .i64]]⟩, ⟨false, [.slc [.int .i64]]⟩], [⟨false, [.bool]⟩]⟩
def pre29 : List AV → Prop
  | [.a v0, .i v1, .a v2, .i v3] => True
  | _ => False
noncomputable def raw29 : List AV → List AV
  | [.a v0, .i v1, .a v2, .i v3] => [.b ((hidF saI) v0 v1 v2 v3)]
  | _ => []

def VH29 : Prop :=
  ∀ (v0 : Int → Nat → Int) (v1 : Int) (v2 : Int → Nat → Int) (v3 : Int),
  (True) →
  (0 ≤ v1 →
  (0 ≤ v3 →
  (v1 ≤ 9223372036854775807 →
  (v3 ≤ 9223372036854775807 →
  (¬ (v1 = v3) →
    (False ↔ (hidF saI) v0 v1 v2 v3 = true) ∧ True) ∧
  (¬ (¬ (v1 = v3)) →
    ∃ (I0 : (Int) → Prop) (μ0 : (Int) → Nat), I0 (0 : Int) ∧ (∀ (v4 : Int), I0 v4 →
      (v4 < v1 →
        0 ≤ v4 ∧ (0 ≤ v4 →
        v4 < v3 ∧ (v4 < v3 →
        (¬ ((v0 v4 0) = (v2 v4 0)) →
          (False ↔ (hidF saI) v0 v1 v2 v3 = true) ∧ True) ∧
        (¬ (¬ ((v0 v4 0) = (v2 v4 0))) →
          (-9223372036854775808 ≤ (v4 + 1) ∧ (v4 + 1) ≤ 9223372036854775807) ∧ ((-9223372036854775808 ≤ (v4 + 1) ∧ (v4 + 1) ≤ 9223372036854775807) →
          I0 (v4 + 1) ∧ μ0 (v4 + 1) < μ0 v4))))) ∧
      (¬ (v4 < v1) →
        (True ↔ (hidF saI) v0 v1 v2 v3 = true) ∧ True)))))))
def VC29 : Prop :=
  ∀ (v0 : Int → Nat → Int) (v1 : Int) (v2 : Int → Nat → Int) (v3 : Int),
  (True) →
  (0 ≤ v1 →
  (0 ≤ v3 →
  (v1 ≤ 9223372036854775807 →
  (v3 ≤ 9223372036854775807 →
  (¬ (v1 = v3) →
    (False ↔ saI v0 v1 v2 v3 = true) ∧ True) ∧
  (¬ (¬ (v1 = v3)) →
    ∃ (I0 : (Int) → Prop) (μ0 : (Int) → Nat), I0 (0 : Int) ∧ (∀ (v4 : Int), I0 v4 →
      (v4 < v1 →
        0 ≤ v4 ∧ (0 ≤ v4 →
        v4 < v3 ∧ (v4 < v3 →
        (¬ ((v0 v4 0) = (v2 v4 0)) →
          (False ↔ saI v0 v1 v2 v3 = true) ∧ True) ∧
        (¬ (¬ ((v0 v4 0) = (v2 v4 0))) →
          (-9223372036854775808 ≤ (v4 + 1) ∧ (v4 + 1) ≤ 9223372036854775807) ∧ ((-9223372036854775808 ≤ (v4 + 1) ∧ (v4 + 1) ≤ 9223372036854775807) →
          I0 (v4 + 1) ∧ μ0 (v4 + 1) < μ0 v4))))) ∧
      (¬ (v4 < v1) →
        (True ↔ saI v0 v1 v2 v3 = true) ∧ True)))))))
theorem vh29 (h : VC29) : VH29 := by
  unfold VH29
  rw [hidF_eq saI]
  exact h
/-! medium.Overlap -/
def sig18 : CSig := ⟨[⟨true, [.int .i64, .int .i64, .int .i64, .int .i64]⟩, ⟨true, [.int .i64, .int .i64, .int .i64, .int .i64]⟩], [⟨false, [.bool]⟩]⟩
def pre18 : List AV → Prop
  | [.i v0, .i v1, .i v2, .i v3, .i v4, .i v5, .i v6, .i v7] => True
  | _ => False
noncomputable def raw18 : List AV → List AV
  | [.i v0, .i v1, .i v2, .i v3, .i v4, .i v5, .i v6, .i v7] => [.b ((hidF ovl) v1 v2 v5 v6)]
  | _ => []

def VH18 : Prop :=
  ∀ (v0 : Int) (v1 : Int) (v2 : Int) (v3 : Int) (v4 : Int) (v5 : Int) (v6 : Int) (v7 : Int),
  (True) →
  ((v1 < v6 ∧ v5 < v2) ↔ (hidF ovl) v1 v2 v5 v6 = true) ∧ True
def VC18 : Prop :=
  ∀ (v0 : Int) (v1 : Int) (v2 : Int) (v3 : Int) (v4 : Int) (v5 : Int) (v6 : Int) (v7 : Int),
  (True) →
  ((v1 < v6 ∧ v5 < v2) ↔ ovl v1 v2 v5 v6 = true) ∧ True
theorem vh18 (h : VC18) : VH18 := by
  unfold VH18
  rw [hidF_eq ovl]
  exact h
/-! hotspotref11.Overlap -/
def sig19 : CSig := ⟨[⟨true, [.int .i64, .int .i64, .int .i64, .int .i64]⟩, ⟨true, [.int .i64, .int .i64, .int .i64, .int .i64]⟩], [⟨false, [.bool]⟩]⟩
def pre19 : List AV → Prop
  | [.i v0, .i v1, .i v2, .i v3, .i v4, .i v5, .i v6, .i v7] => True
  | _ => False
noncomputable def raw19 : List AV → List AV
  | [.i v0, .i v1, .i v2, .i v3, .i v4, .i v5, .i v6, .i v7] => [.b ((hidF ovl) v1 v2 v5 v6)]
  | _ => []

def VH19 : Prop :=
  ∀ (v0 : Int) (v1 : Int) (v2 : Int) (v3 : Int) (v4 : Int) (v5 : Int) (v6 : Int) (v7 : Int),
  (True) →
  ((v1 < v6 ∧ v5 < v2) ↔ (hidF ovl) v1 v2 v5 v6 = true) ∧ True
def VC19 : Prop :=
  ∀ (v0 : Int) (v1 : Int) (v2 : Int) (v3 : Int) (v4 : Int) (v5 : Int) (v6 : Int) (v7 : Int),
  (True) →
  ((v1 < v6 ∧ v5 < v2) ↔ ovl v1 v2 v5 v6 = true) ∧ True
theorem vh19 (h : VC19) : VH19 := by
  unfold VH19
  rw [hidF_eq ovl]
  exact h
/-! medium.Check -/
def sig22 : CSig := ⟨[⟨true, [.slc [.int .i64, .int .i64, .int .i64, .int .i64], .mat [.int .i64]]⟩, ⟨false, [.slc [.int .i64, .int .i64, .int .i64, .int .i64]]⟩], [⟨false, [.int .i64]⟩]⟩
def pre22 : List AV → Prop
  | [.a v0, .i v1, .m v2l v2f, .i v3, .a v4, .i v5] => True
  | _ => False
noncomputable def raw22 : List AV → List AV
  | [.a v0, .i v1, .m v2l v2f, .i v3, .a v4, .i v5] => [.i ((hidF mcE) v0 v1 v2l v2f v3 v4 v5)]
  | _ => []

def VH22 : Prop :=
  ∀ (v0 : Int → Nat → Int) (v1 : Int) (v2l : Int → Int) (v2f : Int → Int → Nat → Int) (v3 : Int) (v4 : Int → Nat → Int) (v5 : Int),
  (True) →
  (0 ≤ v1 →
  (0 ≤ v3 →
  (0 ≤ v5 →
  (True) ∧ (∀ (v6 : Int), v6 = (hidF ckW) v0 v1 v2l v2f v3 → 
  (v1 ≤ 9223372036854775807 →
  (v3 ≤ 9223372036854775807 →
  (v5 ≤ 9223372036854775807 →
  (¬ (v6 = 0) →
    v6 = (hidF mcE) v0 v1 v2l v2f v3 v4 v5 ∧ True) ∧
  (¬ (¬ (v6 = 0)) →
    (64 < v5 →
      (8 : Int) = (hidF mcE) v0 v1 v2l v2f v3 v4 v5 ∧ True) ∧
    (¬ (64 < v5) →
      ∃ (I0 : (Int) → Prop) (μ0 : (Int) → Nat), I0 (0 : Int) ∧ (∀ (v7 : Int), I0 v7 →
        (v7 < v5 →
          0 ≤ v7 ∧ (0 ≤ v7 →
          ((((((((v4 v7 0) < 0 ∨ v1 ≤ (v4 v7 0)) ∨ (v4 v7 1) < 0) ∨ (v4 v7 2) ≤ (v4 v7 1)) ∨ 1099511627776 < (v4 v7 2)) ∨ (v4 v7 3) < (-2000)) ∨ 2000 < (v4 v7 3)) →
            (8 : Int) = (hidF mcE) v0 v1 v2l v2f v3 v4 v5 ∧ True) ∧
          (¬ ((((((((v4 v7 0) < 0 ∨ v1 ≤ (v4 v7 0)) ∨ (v4 v7 1) < 0) ∨ (v4 v7 2) ≤ (v4 v7 1)) ∨ 1099511627776 < (v4 v7 2)) ∨ (v4 v7 3) < (-2000)) ∨ 2000 < (v4 v7 3))) →
            v7 ≤ v5 ∧ (v7 ≤ v5 →
            ∃ (I1 : (Int) → Prop) (μ1 : (Int) → Nat), I1 (0 : Int) ∧ (∀ (v8 : Int), I1 v8 →
              (v7 ≤ 9223372036854775807 →
              (v8 < v7 →
                0 ≤ v8 ∧ (0 ≤ v8 →
                v8 < v5 ∧ (v8 < v5 →
                (((v4 v8 0) = (v4 v7 0) → True)) ∧ (∀ (v9 : Bool), v9 = (hidF ovl) (v4 v8 1) (v4 v8 2) (v4 v7 1) (v4 v7 2) → 
                (((v4 v8 0) = (v4 v7 0) ∧ v9 = true) →
                  (8 : Int) = (hidF mcE) v0 v1 v2l v2f v3 v4 v5 ∧ True) ∧
                (¬ (((v4 v8 0) = (v4 v7 0) ∧ v9 = true)) →
                  (-9223372036854775808 ≤ (v8 + 1) ∧ (v8 + 1) ≤ 9223372036854775807) ∧ ((-9223372036854775808 ≤ (v8 + 1) ∧ (v8 + 1) ≤ 9223372036854775807) →
                  I1 (v8 + 1) ∧ μ1 (v8 + 1) < μ1 v8)))))) ∧
              (¬ (v8 < v7) →
                (-9223372036854775808 ≤ (v7 + 1) ∧ (v7 + 1) ≤ 9223372036854775807) ∧ ((-9223372036854775808 ≤ (v7 + 1) ∧ (v7 + 1) ≤ 9223372036854775807) →
                I0 (v7 + 1) ∧ μ0 (v7 + 1) < μ0 v7)))))))) ∧
        (¬ (v7 < v5) →
          (0 : Int) = (hidF mcE) v0 v1 v2l v2f v3 v4 v5 ∧ True)))))))))))
def VC22 : Prop :=
  ∀ (v0 : Int → Nat → Int) (v1 : Int) (v2l : Int → Int) (v2f : Int → Int → Nat → Int) (v3 : Int) (v4 : Int → Nat → Int) (v5 : Int),
  (True) →
  (0 ≤ v1 →
  (0 ≤ v3 →
  (0 ≤ v5 →
  (True) ∧ (∀ (v6 : Int), v6 = ckW v0 v1 v2l v2f v3 → 
  (v1 ≤ 9223372036854775807 →
  (v3 ≤ 9223372036854775807 →
  (v5 ≤ 9223372036854775807 →
  (¬ (v6 = 0) →
    v6 = mcE v0 v1 v2l v2f v3 v4 v5 ∧ True) ∧
  (¬ (¬ (v6 = 0)) →
    (64 < v5 →
      (8 : Int) = mcE v0 v1 v2l v2f v3 v4 v5 ∧ True) ∧
    (¬ (64 < v5) →
      ∃ (I0 : (Int) → Prop) (μ0 : (Int) → Nat), I0 (0 : Int) ∧ (∀ (v7 : Int), I0 v7 →
        (v7 < v5 →
          0 ≤ v7 ∧ (0 ≤ v7 →
          ((((((((v4 v7 0) < 0 ∨ v1 ≤ (v4 v7 0)) ∨ (v4 v7 1) < 0) ∨ (v4 v7 2) ≤ (v4 v7 1)) ∨ 1099511627776 < (v4 v7 2)) ∨ (v4 v7 3) < (-2000)) ∨ 2000 < (v4 v7 3)) →
            (8 : Int) = mcE v0 v1 v2l v2f v3 v4 v5 ∧ True) ∧
          (¬ ((((((((v4 v7 0) < 0 ∨ v1 ≤ (v4 v7 0)) ∨ (v4 v7 1) < 0) ∨ (v4 v7 2) ≤ (v4 v7 1)) ∨ 1099511627776 < (v4 v7 2)) ∨ (v4 v7 3) < (-2000)) ∨ 2000 < (v4 v7 3))) →
            v7 ≤ v5 ∧ (v7 ≤ v5 →
            ∃ (I1 : (Int) → Prop) (μ1 : (Int) → Nat), I1 (0 : Int) ∧ (∀ (v8 : Int), I1 v8 →
              (v7 ≤ 9223372036854775807 →
              (v8 < v7 →
                0 ≤ v8 ∧ (0 ≤ v8 →
                v8 < v5 ∧ (v8 < v5 →
                (((v4 v8 0) = (v4 v7 0) → True)) ∧ (∀ (v9 : Bool), v9 = ovl (v4 v8 1) (v4 v8 2) (v4 v7 1) (v4 v7 2) → 
                (((v4 v8 0) = (v4 v7 0) ∧ v9 = true) →
                  (8 : Int) = mcE v0 v1 v2l v2f v3 v4 v5 ∧ True) ∧
                (¬ (((v4 v8 0) = (v4 v7 0) ∧ v9 = true)) →
                  (-9223372036854775808 ≤ (v8 + 1) ∧ (v8 + 1) ≤ 9223372036854775807) ∧ ((-9223372036854775808 ≤ (v8 + 1) ∧ (v8 + 1) ≤ 9223372036854775807) →
                  I1 (v8 + 1) ∧ μ1 (v8 + 1) < μ1 v8)))))) ∧
              (¬ (v8 < v7) →
                (-9223372036854775808 ≤ (v7 + 1) ∧ (v7 + 1) ≤ 9223372036854775807) ∧ ((-9223372036854775808 ≤ (v7 + 1) ∧ (v7 + 1) ≤ 9223372036854775807) →
                I0 (v7 + 1) ∧ μ0 (v7 + 1) < μ0 v7)))))))) ∧
        (¬ (v7 < v5) →
          (0 : Int) = mcE v0 v1 v2l v2f v3 v4 v5 ∧ True)))))))))))
theorem vh22 (h : VC22) : VH22 := by
  unfold VH22
  rw [hidF_eq ckW, hidF_eq mcE, hidF_eq ovl]
  exact h
/-! hotspotref11.Check -/
def sig23 : CSig := ⟨[⟨true, [.slc [.int .i64, .int .i64, .int .i64, .int .i64], .mat [.int .i64]]⟩, ⟨false, [.slc [.int .i64, .int .i64, .int .i64, .int .i64]]⟩], [⟨false, [.int .i64]⟩]⟩
def pre23 : List AV → Prop
  | [.a v0, .i v1, .m v2l v2f, .i v3, .a v4, .i v5] => True
  | _ => False
noncomputable def raw23 : List AV → List AV
  | [.a v0, .i v1, .m v2l v2f, .i v3, .a v4, .i v5] => [.i ((hidF mcE) v0 v1 v2l v2f v3 v4 v5)]
  | _ => []

def VH23 : Prop :=
  ∀ (v0 : Int → Nat → Int) (v1 : Int) (v2l : Int → Int) (v2f : Int → Int → Nat → Int) (v3 : Int) (v4 : Int → Nat → Int) (v5 : Int),
  (True) →
  (0 ≤ v1 →
  (0 ≤ v3 →
  (0 ≤ v5 →
  (True) ∧ (∀ (v6 : Int), v6 = (hidF ckW) v0 v1 v2l v2f v3 → 
  (v1 ≤ 9223372036854775807 →
  (v3 ≤ 9223372036854775807 →
  (v5 ≤ 9223372036854775807 →
  (¬ (v6 = 0) →
    v6 = (hidF mcE) v0 v1 v2l v2f v3 v4 v5 ∧ True) ∧
  (¬ (¬ (v6 = 0)) →
    (64 < v5 →
      (8 : Int) = (hidF mcE) v0 v1 v2l v2f v3 v4 v5 ∧ True) ∧
    (¬ (64 < v5) →
      ∃ (I0 : (Int) → Prop) (μ0 : (Int) → Nat), I0 (0 : Int) ∧ (∀ (v7 : Int), I0 v7 →
        (v7 < v5 →
          0 ≤ v7 ∧ (0 ≤ v7 →
          (-9223372036854775808 ≤ (v1 - 1) ∧ (v1 - 1) ≤ 9223372036854775807) ∧ ((-9223372036854775808 ≤ (v1 - 1) ∧ (v1 - 1) ≤ 9223372036854775807) →
          (True) ∧ (∀ (v8 : Bool), v8 = (hidF inB) (v4 v7 0) (0 : Int) (v1 - 1) → 
          ((¬ ((((¬ (v8 = true) ∨ (v4 v7 1) < 0) ∨ (v4 v7 2) ≤ (v4 v7 1)) ∨ 1099511627776 < (v4 v7 2))) → True)) ∧ (∀ (v9 : Bool), v9 = (hidF inB) (v4 v7 3) (-2000 : Int) (2000 : Int) → 
          (((((¬ (v8 = true) ∨ (v4 v7 1) < 0) ∨ (v4 v7 2) ≤ (v4 v7 1)) ∨ 1099511627776 < (v4 v7 2)) ∨ ¬ (v9 = true)) →
            (8 : Int) = (hidF mcE) v0 v1 v2l v2f v3 v4 v5 ∧ True) ∧
          (¬ (((((¬ (v8 = true) ∨ (v4 v7 1) < 0) ∨ (v4 v7 2) ≤ (v4 v7 1)) ∨ 1099511627776 < (v4 v7 2)) ∨ ¬ (v9 = true))) →
            ∃ (I1 : (Int) → Prop) (μ1 : (Int) → Nat), I1 (0 : Int) ∧ (∀ (v10 : Int), I1 v10 →
              (v10 < v7 →
                0 ≤ v10 ∧ (0 ≤ v10 →
                v10 < v5 ∧ (v10 < v5 →
                (((v4 v10 0) = (v4 v7 0) → True)) ∧ (∀ (v11 : Bool), v11 = (hidF ovl) (v4 v10 1) (v4 v10 2) (v4 v7 1) (v4 v7 2) → 
                (((v4 v10 0) = (v4 v7 0) ∧ v11 = true) →
                  (8 : Int) = (hidF mcE) v0 v1 v2l v2f v3 v4 v5 ∧ True) ∧
                (¬ (((v4 v10 0) = (v4 v7 0) ∧ v11 = true)) →
                  (-9223372036854775808 ≤ (v10 + 1) ∧ (v10 + 1) ≤ 9223372036854775807) ∧ ((-9223372036854775808 ≤ (v10 + 1) ∧ (v10 + 1) ≤ 9223372036854775807) →
                  I1 (v10 + 1) ∧ μ1 (v10 + 1) < μ1 v10)))))) ∧
              (¬ (v10 < v7) →
                (-9223372036854775808 ≤ (v7 + 1) ∧ (v7 + 1) ≤ 9223372036854775807) ∧ ((-9223372036854775808 ≤ (v7 + 1) ∧ (v7 + 1) ≤ 9223372036854775807) →
                I0 (v7 + 1) ∧ μ0 (v7 + 1) < μ0 v7))))))))) ∧
        (¬ (v7 < v5) →
          (0 : Int) = (hidF mcE) v0 v1 v2l v2f v3 v4 v5 ∧ True)))))))))))
def VC23 : Prop :=
  ∀ (v0 : Int → Nat → Int) (v1 : Int) (v2l : Int → Int) (v2f : Int → Int → Nat → Int) (v3 : Int) (v4 : Int → Nat → Int) (v5 : Int),
  (True) →
  (0 ≤ v1 →
  (0 ≤ v3 →
  (0 ≤ v5 →
  (True) ∧ (∀ (v6 : Int), v6 = ckW v0 v1 v2l v2f v3 → 
  (v1 ≤ 9223372036854775807 →
  (v3 ≤ 9223372036854775807 →
  (v5 ≤ 9223372036854775807 →
  (¬ (v6 = 0) →
    v6 = mcE v0 v1 v2l v2f v3 v4 v5 ∧ True) ∧
  (¬ (¬ (v6 = 0)) →
    (64 < v5 →
      (8 : Int) = mcE v0 v1 v2l v2f v3 v4 v5 ∧ True) ∧
    (¬ (64 < v5) →
      ∃ (I0 : (Int) → Prop) (μ0 : (Int) → Nat), I0 (0 : Int) ∧ (∀ (v7 : Int), I0 v7 →
        (v7 < v5 →
          0 ≤ v7 ∧ (0 ≤ v7 →
          (-9223372036854775808 ≤ (v1 - 1) ∧ (v1 - 1) ≤ 9223372036854775807) ∧ ((-9223372036854775808 ≤ (v1 - 1) ∧ (v1 - 1) ≤ 9223372036854775807) →
          (True) ∧ (∀ (v8 : Bool), v8 = inB (v4 v7 0) (0 : Int) (v1 - 1) → 
          ((¬ ((((¬ (v8 = true) ∨ (v4 v7 1) < 0) ∨ (v4 v7 2) ≤ (v4 v7 1)) ∨ 1099511627776 < (v4 v7 2))) → True)) ∧ (∀ (v9 : Bool), v9 = inB (v4 v7 3) (-2000 : Int) (2000 : Int) → 
          (((((¬ (v8 = true) ∨ (v4 v7 1) < 0) ∨ (v4 v7 2) ≤ (v4 v7 1)) ∨ 1099511627776 < (v4 v7 2)) ∨ ¬ (v9 = true)) →
            (8 : Int) = mcE v0 v1 v2l v2f v3 v4 v5 ∧ True) ∧
          (¬ (((((¬ (v8 = true) ∨ (v4 v7 1) < 0) ∨ (v4 v7 2) ≤ (v4 v7 1)) ∨ 1099511627776 < (v4 v7 2)) ∨ ¬ (v9 = true))) →
            ∃ (I1 : (Int) → Prop) (μ1 : (Int) → Nat), I1 (0 : Int) ∧ (∀ (v10 : Int), I1 v10 →
              (v10 < v7 →
                0 ≤ v10 ∧ (0 ≤ v10 →
                v10 < v5 ∧ (v10 < v5 →
                (((v4 v10 0) = (v4 v7 0) → True)) ∧ (∀ (v11 : Bool), v11 = ovl (v4 v10 1) (v4 v10 2) (v4 v7 1) (v4 v7 2) → 
                (((v4 v10 0) = (v4 v7 0) ∧ v11 = true) →
                  (8 : Int) = mcE v0 v1 v2l v2f v3 v4 v5 ∧ True) ∧
                (¬ (((v4 v10 0) = (v4 v7 0) ∧ v11 = true)) →
                  (-9223372036854775808 ≤ (v10 + 1) ∧ (v10 + 1) ≤ 9223372036854775807) ∧ ((-9223372036854775808 ≤ (v10 + 1) ∧ (v10 + 1) ≤ 9223372036854775807) →
                  I1 (v10 + 1) ∧ μ1 (v10 + 1) < μ1 v10)))))) ∧
              (¬ (v10 < v7) →
                (-9223372036854775808 ≤ (v7 + 1) ∧ (v7 + 1) ≤ 9223372036854775807) ∧ ((-9223372036854775808 ≤ (v7 + 1) ∧ (v7 + 1) ≤ 9223372036854775807) →
                I0 (v7 + 1) ∧ μ0 (v7 + 1) < μ0 v7))))))))) ∧
        (¬ (v7 < v5) →
          (0 : Int) = mcE v0 v1 v2l v2f v3 v4 v5 ∧ True)))))))))))
theorem vh23 (h : VC23) : VH23 := by
  unfold VH23
  rw [hidF_eq ckW, hidF_eq inB, hidF_eq mcE, hidF_eq ovl]
  exact h
/-! medium.asked -/
def sig35 : CSig := ⟨[⟨true, [.slc [.int .i64, .int .i64, .int .i64, .int .i64], .mat [.int .i64]]⟩, ⟨false, [.slc [.int .i64, .int .i64, .int .i64, .int .i64]]⟩, ⟨false, [.int .i64]⟩, ⟨false, [.slc [.int .i64]]⟩], [⟨false, [.int .i64]⟩]⟩
def pre35 : List AV → Prop
  | [.a v0, .i v1, .m v2l v2f, .i v3, .a v4, .i v5, .i v6, .a v7, .i v8] => v8 ≤ 4
  | _ => False
noncomputable def raw35 : List AV → List AV
  | [.a v0, .i v1, .m v2l v2f, .i v3, .a v4, .i v5, .i v6, .a v7, .i v8] => [.i ((hidF maT) v0 v1 v2l v2f v3 v4 v5 v6 v7 v8)]
  | _ => []

def VH35 : Prop :=
  ∀ (v0 : Int → Nat → Int) (v1 : Int) (v2l : Int → Int) (v2f : Int → Int → Nat → Int) (v3 : Int) (v4 : Int → Nat → Int) (v5 : Int) (v6 : Int) (v7 : Int → Nat → Int) (v8 : Int),
  (v8 ≤ 4) →
  (0 ≤ v1 →
  (0 ≤ v3 →
  (0 ≤ v5 →
  (0 ≤ v8 →
  (True) ∧ (∀ (v9 : Int), v9 = (hidF mcE) v0 v1 v2l v2f v3 v4 v5 → 
  (v1 ≤ 9223372036854775807 →
  (v3 ≤ 9223372036854775807 →
  (v5 ≤ 9223372036854775807 →
  (v8 ≤ 9223372036854775807 →
  (¬ (v9 = 0) →
    v9 = (hidF maT) v0 v1 v2l v2f v3 v4 v5 v6 v7 v8 ∧ True) ∧
  (¬ (¬ (v9 = 0)) →
    (¬ ((v6 < 0 ∨ v1 ≤ v6)) →
      ∃ (I0 : (Int) → Prop) (μ0 : (Int) → Nat), I0 (0 : Int) ∧ (∀ (v10 : Int), I0 v10 →
        (v10 < v8 →
          0 ≤ v10 ∧ (0 ≤ v10 →
          (((v7 v10 0) < 0 ∨ 1099511627776 < (v7 v10 0)) →
            (2 : Int) = (hidF maT) v0 v1 v2l v2f v3 v4 v5 v6 v7 v8 ∧ True) ∧
          (¬ (((v7 v10 0) < 0 ∨ 1099511627776 < (v7 v10 0))) →
            (-9223372036854775808 ≤ (v10 + 1) ∧ (v10 + 1) ≤ 9223372036854775807) ∧ ((-9223372036854775808 ≤ (v10 + 1) ∧ (v10 + 1) ≤ 9223372036854775807) →
            I0 (v10 + 1) ∧ μ0 (v10 + 1) < μ0 v10)))) ∧
        (¬ (v10 < v8) →
          (0 : Int) = (hidF maT) v0 v1 v2l v2f v3 v4 v5 v6 v7 v8 ∧ True))) ∧
    (¬ (¬ ((v6 < 0 ∨ v1 ≤ v6))) →
      (2 : Int) = (hidF maT) v0 v1 v2l v2f v3 v4 v5 v6 v7 v8 ∧ True)))))))))))
def VC35 : Prop :=
  ∀ (v0 : Int → Nat → Int) (v1 : Int) (v2l : Int → Int) (v2f : Int → Int → Nat → Int) (v3 : Int) (v4 : Int → Nat → Int) (v5 : Int) (v6 : Int) (v7 : Int → Nat → Int) (v8 : Int),
  (v8 ≤ 4) →
  (0 ≤ v1 →
  (0 ≤ v3 →
  (0 ≤ v5 →
  (0 ≤ v8 →
  (True) ∧ (∀ (v9 : Int), v9 = mcE v0 v1 v2l v2f v3 v4 v5 → 
  (v1 ≤ 9223372036854775807 →
  (v3 ≤ 9223372036854775807 →
  (v5 ≤ 9223372036854775807 →
  (v8 ≤ 9223372036854775807 →
  (¬ (v9 = 0) →
    v9 = maT v0 v1 v2l v2f v3 v4 v5 v6 v7 v8 ∧ True) ∧
  (¬ (¬ (v9 = 0)) →
    (¬ ((v6 < 0 ∨ v1 ≤ v6)) →
      ∃ (I0 : (Int) → Prop) (μ0 : (Int) → Nat), I0 (0 : Int) ∧ (∀ (v10 : Int), I0 v10 →
        (v10 < v8 →
          0 ≤ v10 ∧ (0 ≤ v10 →
          (((v7 v10 0) < 0 ∨ 1099511627776 < (v7 v10 0)) →
            (2 : Int) = maT v0 v1 v2l v2f v3 v4 v5 v6 v7 v8 ∧ True) ∧
          (¬ (((v7 v10 0) < 0 ∨ 1099511627776 < (v7 v10 0))) →
            (-9223372036854775808 ≤ (v10 + 1) ∧ (v10 + 1) ≤ 9223372036854775807) ∧ ((-9223372036854775808 ≤ (v10 + 1) ∧ (v10 + 1) ≤ 9223372036854775807) →
            I0 (v10 + 1) ∧ μ0 (v10 + 1) < μ0 v10)))) ∧
        (¬ (v10 < v8) →
          (0 : Int) = maT v0 v1 v2l v2f v3 v4 v5 v6 v7 v8 ∧ True))) ∧
    (¬ (¬ ((v6 < 0 ∨ v1 ≤ v6))) →
      (2 : Int) = maT v0 v1 v2l v2f v3 v4 v5 v6 v7 v8 ∧ True)))))))))))
theorem vh35 (h : VC35) : VH35 := by
  unfold VH35
  rw [hidF_eq maT, hidF_eq mcE]
  exact h
/-! hotspotref11.Asked -/
def sig39 : CSig := ⟨[⟨true, [.slc [.int .i64, .int .i64, .int .i64, .int .i64], .mat [.int .i64]]⟩, ⟨false, [.slc [.int .i64, .int .i64, .int .i64, .int .i64]]⟩, ⟨false, [.int .i64]⟩, ⟨false, [.int .i64]⟩, ⟨false, [.int .i64]⟩], [⟨false, [.int .i64]⟩]⟩
def pre39 : List AV → Prop
  | [.a v0, .i v1, .m v2l v2f, .i v3, .a v4, .i v5, .i v6, .i v7, .i v8] => True
  | _ => False
noncomputable def raw39 : List AV → List AV
  | [.a v0, .i v1, .m v2l v2f, .i v3, .a v4, .i v5, .i v6, .i v7, .i v8] => [.i ((hidF maE) v0 v1 v2l v2f v3 v4 v5 v6 v7 v8)]
  | _ => []

def VH39 : Prop :=
  ∀ (v0 : Int → Nat → Int) (v1 : Int) (v2l : Int → Int) (v2f : Int → Int → Nat → Int) (v3 : Int) (v4 : Int → Nat → Int) (v5 : Int) (v6 : Int) (v7 : Int) (v8 : Int),
  (True) →
  (0 ≤ v1 →
  (0 ≤ v3 →
  (0 ≤ v5 →
  (True) ∧ (∀ (v9 : Int), v9 = (hidF mcE) v0 v1 v2l v2f v3 v4 v5 → 
  (v1 ≤ 9223372036854775807 →
  (v3 ≤ 9223372036854775807 →
  (v5 ≤ 9223372036854775807 →
  (¬ (v9 = 0) →
    v9 = (hidF maE) v0 v1 v2l v2f v3 v4 v5 v6 v7 v8 ∧ True) ∧
  (¬ (¬ (v9 = 0)) →
    (-9223372036854775808 ≤ (v1 - 1) ∧ (v1 - 1) ≤ 9223372036854775807) ∧ ((-9223372036854775808 ≤ (v1 - 1) ∧ (v1 - 1) ≤ 9223372036854775807) →
    (True) ∧ (∀ (v10 : Bool), v10 = (hidF inB) v6 (0 : Int) (v1 - 1) → 
    ((v10 = true → True)) ∧ (∀ (v11 : Bool), v11 = (hidF inB) v7 (0 : Int) (1099511627776 : Int) → 
    ((¬ ((¬ (v10 = true) ∨ ¬ (v11 = true))) → True)) ∧ (∀ (v12 : Bool), v12 = (hidF inB) v8 (0 : Int) (1099511627776 : Int) → 
    (((¬ (v10 = true) ∨ ¬ (v11 = true)) ∨ ¬ (v12 = true)) →
      (2 : Int) = (hidF maE) v0 v1 v2l v2f v3 v4 v5 v6 v7 v8 ∧ True) ∧
    (¬ (((¬ (v10 = true) ∨ ¬ (v11 = true)) ∨ ¬ (v12 = true))) →
      (0 : Int) = (hidF maE) v0 v1 v2l v2f v3 v4 v5 v6 v7 v8 ∧ True)))))))))))))
def VC39 : Prop :=
  ∀ (v0 : Int → Nat → Int) (v1 : Int) (v2l : Int → Int) (v2f : Int → Int → Nat → Int) (v3 : Int) (v4 : Int → Nat → Int) (v5 : Int) (v6 : Int) (v7 : Int) (v8 : Int),
  (True) →
  (0 ≤ v1 →
  (0 ≤ v3 →
  (0 ≤ v5 →
  (True) ∧ (∀ (v9 : Int), v9 = mcE v0 v1 v2l v2f v3 v4 v5 → 
  (v1 ≤ 9223372036854775807 →
  (v3 ≤ 9223372036854775807 →
  (v5 ≤ 9223372036854775807 →
  (¬ (v9 = 0) →
    v9 = maE v0 v1 v2l v2f v3 v4 v5 v6 v7 v8 ∧ True) ∧
  (¬ (¬ (v9 = 0)) →
    (-9223372036854775808 ≤ (v1 - 1) ∧ (v1 - 1) ≤ 9223372036854775807) ∧ ((-9223372036854775808 ≤ (v1 - 1) ∧ (v1 - 1) ≤ 9223372036854775807) →
    (True) ∧ (∀ (v10 : Bool), v10 = inB v6 (0 : Int) (v1 - 1) → 
    ((v10 = true → True)) ∧ (∀ (v11 : Bool), v11 = inB v7 (0 : Int) (1099511627776 : Int) → 
    ((¬ ((¬ (v10 = true) ∨ ¬ (v11 = true))) → True)) ∧ (∀ (v12 : Bool), v12 = inB v8 (0 : Int) (1099511627776 : Int) → 
    (((¬ (v10 = true) ∨ ¬ (v11 = true)) ∨ ¬ (v12 = true)) →
      (2 : Int) = maE v0 v1 v2l v2f v3 v4 v5 v6 v7 v8 ∧ True) ∧
    (¬ (((¬ (v10 = true) ∨ ¬ (v11 = true)) ∨ ¬ (v12 = true))) →
      (0 : Int) = maE v0 v1 v2l v2f v3 v4 v5 v6 v7 v8 ∧ True)))))))))))))
theorem vh39 (h : VC39) : VH39 := by
  unfold VH39
  rw [hidF_eq inB, hidF_eq maE, hidF_eq mcE]
  exact h
/-! medium.sensed -/
def sig37 : CSig := ⟨[⟨true, [.slc [.int .i64, .int .i64, .int .i64, .int .i64], .mat [.int .i64]]⟩, ⟨false, [.slc [.int .i64, .int .i64, .int .i64, .int .i64]]⟩, ⟨false, [.int .i64]⟩], [⟨false, [.slc [.int .i64, .int .i64, .int .i64, .int .i64]]⟩]⟩
def pre37 : List AV → Prop
  | [.a v0, .i v1, .m v2l v2f, .i v3, .a v4, .i v5, .i v6] => mcE v0 v1 v2l v2f v3 v4 v5 = 0 ∧ 0 ≤ v6 ∧ v6 < v1
  | _ => False
noncomputable def raw37 : List AV → List AV
  | [.a v0, .i v1, .m v2l v2f, .i v3, .a v4, .i v5, .i v6] => [.a ((hidF snA) v0 v2f v3 v4 v5 v6), .i ((hidF snN) v0 v2f v3 v4 v5 v6)]
  | _ => []

def VH37 : Prop :=
  ∀ (v0 : Int → Nat → Int) (v1 : Int) (v2l : Int → Int) (v2f : Int → Int → Nat → Int) (v3 : Int) (v4 : Int → Nat → Int) (v5 : Int) (v6 : Int),
  (mcE v0 v1 v2l v2f v3 v4 v5 = 0 ∧ 0 ≤ v6 ∧ v6 < v1) →
  (0 ≤ v1 →
  (0 ≤ v3 →
  (0 ≤ v5 →
  ∃ (I0 : (Int → Nat → Int) → (Int) → (Int) → Prop) (μ0 : (Int → Nat → Int) → (Int) → (Int) → Nat), I0 zA (0 : Int) (0 : Int) ∧ (∀ (v7 : Int → Nat → Int) (v8 : Int) (v9 : Int), I0 v7 v8 v9 →
    (v1 ≤ 9223372036854775807 →
    (v3 ≤ 9223372036854775807 →
    (0 ≤ v8 →
    (v5 ≤ 9223372036854775807 →
    (v8 ≤ 9223372036854775807 →
    (v9 < v5 →
      0 ≤ v9 ∧ (0 ≤ v9 →
      (True) ∧ (∀ (v10 : Bool) (v11 : Int), v10 = ((hidF hrV) v0 v1 v2l v2f v3 v6 (v4 v9 0)) → v11 = (hidF lvE) v0 v1 v2l v2f v3 v6 (v4 v9 0) → 
      ((v10 = true ∨ (v4 v9 0) = v6) →
        ((v8 + 1) * 32) ≤ 140737488355328 ∧ (((v8 + 1) * 32) ≤ 140737488355328 →
        (v8 + 1) ≤ 140737488355328 ∧ ((v8 + 1) ≤ 140737488355328 →
        (-9223372036854775808 ≤ (v9 + 1) ∧ (v9 + 1) ≤ 9223372036854775807) ∧ ((-9223372036854775808 ≤ (v9 + 1) ∧ (v9 + 1) ≤ 9223372036854775807) →
        I0 (appA v7 v8 (setA (setA (setA (setA zA 0 0 (v4 v9 0)) 0 1 (v4 v9 1)) 0 2 (v4 v9 2)) 0 3 (v4 v9 3))) (v8 + 1) (v9 + 1) ∧ μ0 (appA v7 v8 (setA (setA (setA (setA zA 0 0 (v4 v9 0)) 0 1 (v4 v9 1)) 0 2 (v4 v9 2)) 0 3 (v4 v9 3))) (v8 + 1) (v9 + 1) < μ0 v7 v8 v9)))) ∧
      (¬ ((v10 = true ∨ (v4 v9 0) = v6)) →
        (-9223372036854775808 ≤ (v9 + 1) ∧ (v9 + 1) ≤ 9223372036854775807) ∧ ((-9223372036854775808 ≤ (v9 + 1) ∧ (v9 + 1) ≤ 9223372036854775807) →
        I0 v7 v8 (v9 + 1) ∧ μ0 v7 v8 (v9 + 1) < μ0 v7 v8 v9))))) ∧
    (¬ (v9 < v5) →
      v8 = (hidF snN) v0 v2f v3 v4 v5 v6 ∧ (∀ (i : Int) (f : Nat), 0 ≤ i → i < (hidF snN) v0 v2f v3 v4 v5 v6 → f < 4 → v7 i f = (hidF snA) v0 v2f v3 v4 v5 v6 i f) ∧ True))))))))))
def VC37 : Prop :=
  ∀ (v0 : Int → Nat → Int) (v1 : Int) (v2l : Int → Int) (v2f : Int → Int → Nat → Int) (v3 : Int) (v4 : Int → Nat → Int) (v5 : Int) (v6 : Int),
  (mcE v0 v1 v2l v2f v3 v4 v5 = 0 ∧ 0 ≤ v6 ∧ v6 < v1) →
  (0 ≤ v1 →
  (0 ≤ v3 →
  (0 ≤ v5 →
  ∃ (I0 : (Int → Nat → Int) → (Int) → (Int) → Prop) (μ0 : (Int → Nat → Int) → (Int) → (Int) → Nat), I0 zA (0 : Int) (0 : Int) ∧ (∀ (v7 : Int → Nat → Int) (v8 : Int) (v9 : Int), I0 v7 v8 v9 →
    (v1 ≤ 9223372036854775807 →
    (v3 ≤ 9223372036854775807 →
    (0 ≤ v8 →
    (v5 ≤ 9223372036854775807 →
    (v8 ≤ 9223372036854775807 →
    (v9 < v5 →
      0 ≤ v9 ∧ (0 ≤ v9 →
      (True) ∧ (∀ (v10 : Bool) (v11 : Int), v10 = (hrV v0 v1 v2l v2f v3 v6 (v4 v9 0)) → v11 = lvE v0 v1 v2l v2f v3 v6 (v4 v9 0) → 
      ((v10 = true ∨ (v4 v9 0) = v6) →
        ((v8 + 1) * 32) ≤ 140737488355328 ∧ (((v8 + 1) * 32) ≤ 140737488355328 →
        (v8 + 1) ≤ 140737488355328 ∧ ((v8 + 1) ≤ 140737488355328 →
        (-9223372036854775808 ≤ (v9 + 1) ∧ (v9 + 1) ≤ 9223372036854775807) ∧ ((-9223372036854775808 ≤ (v9 + 1) ∧ (v9 + 1) ≤ 9223372036854775807) →
        I0 (appA v7 v8 (setA (setA (setA (setA zA 0 0 (v4 v9 0)) 0 1 (v4 v9 1)) 0 2 (v4 v9 2)) 0 3 (v4 v9 3))) (v8 + 1) (v9 + 1) ∧ μ0 (appA v7 v8 (setA (setA (setA (setA zA 0 0 (v4 v9 0)) 0 1 (v4 v9 1)) 0 2 (v4 v9 2)) 0 3 (v4 v9 3))) (v8 + 1) (v9 + 1) < μ0 v7 v8 v9)))) ∧
      (¬ ((v10 = true ∨ (v4 v9 0) = v6)) →
        (-9223372036854775808 ≤ (v9 + 1) ∧ (v9 + 1) ≤ 9223372036854775807) ∧ ((-9223372036854775808 ≤ (v9 + 1) ∧ (v9 + 1) ≤ 9223372036854775807) →
        I0 v7 v8 (v9 + 1) ∧ μ0 v7 v8 (v9 + 1) < μ0 v7 v8 v9))))) ∧
    (¬ (v9 < v5) →
      v8 = snN v0 v2f v3 v4 v5 v6 ∧ (∀ (i : Int) (f : Nat), 0 ≤ i → i < snN v0 v2f v3 v4 v5 v6 → f < 4 → v7 i f = snA v0 v2f v3 v4 v5 v6 i f) ∧ True))))))))))
theorem vh37 (h : VC37) : VH37 := by
  unfold VH37
  rw [hidF_eq hrV, hidF_eq lvE, hidF_eq snA, hidF_eq snN]
  exact h
/-! hotspotref11.busy -/
def sig40 : CSig := ⟨[⟨true, [.slc [.int .i64, .int .i64, .int .i64, .int .i64], .mat [.int .i64]]⟩, ⟨false, [.slc [.int .i64, .int .i64, .int .i64, .int .i64]]⟩, ⟨false, [.int .i64]⟩, ⟨false, [.int .i64]⟩, ⟨false, [.int .i64]⟩], [⟨false, [.bool]⟩]⟩
def pre40 : List AV → Prop
  | [.a v0, .i v1, .m v2l v2f, .i v3, .a v4, .i v5, .i v6, .i v7, .i v8] => mcE v0 v1 v2l v2f v3 v4 v5 = 0 ∧ 0 ≤ v6 ∧ v6 < v1
  | _ => False
noncomputable def raw40 : List AV → List AV
  | [.a v0, .i v1, .m v2l v2f, .i v3, .a v4, .i v5, .i v6, .i v7, .i v8] => [.b ((hidF bzB) v0 v2f v3 v4 v5 v6 v7 v8)]
  | _ => []

def VH40 : Prop :=
  ∀ (v0 : Int → Nat → Int) (v1 : Int) (v2l : Int → Int) (v2f : Int → Int → Nat → Int) (v3 : Int) (v4 : Int → Nat → Int) (v5 : Int) (v6 : Int) (v7 : Int) (v8 : Int),
  (mcE v0 v1 v2l v2f v3 v4 v5 = 0 ∧ 0 ≤ v6 ∧ v6 < v1) →
  (0 ≤ v1 →
  (0 ≤ v3 →
  (0 ≤ v5 →
  ∃ (I0 : (Int) → Prop) (μ0 : (Int) → Nat), I0 (0 : Int) ∧ (∀ (v9 : Int), I0 v9 →
    (v1 ≤ 9223372036854775807 →
    (v3 ≤ 9223372036854775807 →
    (v5 ≤ 9223372036854775807 →
    (v9 < v5 →
      0 ≤ v9 ∧ (0 ≤ v9 →
      ((¬ ((v4 v9 0) = v6) → ckW v0 v1 v2l v2f v3 = 0 ∧ 0 ≤ v6 ∧ v6 < v1 ∧ 0 ≤ (v4 v9 0) ∧ (v4 v9 0) < v1)) ∧ (∀ (v10 : Bool), v10 = (hidF hrA) v0 v2f v3 v6 (v4 v9 0) → 
      (((((v4 v9 0) = v6 ∨ v10 = true) ∧ (v4 v9 1) < v8) ∧ v7 < (v4 v9 2)) →
        (True ↔ (hidF bzB) v0 v2f v3 v4 v5 v6 v7 v8 = true) ∧ True) ∧
      (¬ (((((v4 v9 0) = v6 ∨ v10 = true) ∧ (v4 v9 1) < v8) ∧ v7 < (v4 v9 2))) →
        (-9223372036854775808 ≤ (v9 + 1) ∧ (v9 + 1) ≤ 9223372036854775807) ∧ ((-9223372036854775808 ≤ (v9 + 1) ∧ (v9 + 1) ≤ 9223372036854775807) →
        I0 (v9 + 1) ∧ μ0 (v9 + 1) < μ0 v9))))) ∧
    (¬ (v9 < v5) →
      (False ↔ (hidF bzB) v0 v2f v3 v4 v5 v6 v7 v8 = true) ∧ True))))))))
def VC40 : Prop :=
  ∀ (v0 : Int → Nat → Int) (v1 : Int) (v2l : Int → Int) (v2f : Int → Int → Nat → Int) (v3 : Int) (v4 : Int → Nat → Int) (v5 : Int) (v6 : Int) (v7 : Int) (v8 : Int),
  (mcE v0 v1 v2l v2f v3 v4 v5 = 0 ∧ 0 ≤ v6 ∧ v6 < v1) →
  (0 ≤ v1 →
  (0 ≤ v3 →
  (0 ≤ v5 →
  ∃ (I0 : (Int) → Prop) (μ0 : (Int) → Nat), I0 (0 : Int) ∧ (∀ (v9 : Int), I0 v9 →
    (v1 ≤ 9223372036854775807 →
    (v3 ≤ 9223372036854775807 →
    (v5 ≤ 9223372036854775807 →
    (v9 < v5 →
      0 ≤ v9 ∧ (0 ≤ v9 →
      ((¬ ((v4 v9 0) = v6) → ckW v0 v1 v2l v2f v3 = 0 ∧ 0 ≤ v6 ∧ v6 < v1 ∧ 0 ≤ (v4 v9 0) ∧ (v4 v9 0) < v1)) ∧ (∀ (v10 : Bool), v10 = hrA v0 v2f v3 v6 (v4 v9 0) → 
      (((((v4 v9 0) = v6 ∨ v10 = true) ∧ (v4 v9 1) < v8) ∧ v7 < (v4 v9 2)) →
        (True ↔ bzB v0 v2f v3 v4 v5 v6 v7 v8 = true) ∧ True) ∧
      (¬ (((((v4 v9 0) = v6 ∨ v10 = true) ∧ (v4 v9 1) < v8) ∧ v7 < (v4 v9 2))) →
        (-9223372036854775808 ≤ (v9 + 1) ∧ (v9 + 1) ≤ 9223372036854775807) ∧ ((-9223372036854775808 ≤ (v9 + 1) ∧ (v9 + 1) ≤ 9223372036854775807) →
        I0 (v9 + 1) ∧ μ0 (v9 + 1) < μ0 v9))))) ∧
    (¬ (v9 < v5) →
      (False ↔ bzB v0 v2f v3 v4 v5 v6 v7 v8 = true) ∧ True))))))))
theorem vh40 (h : VC40) : VH40 := by
  unfold VH40
  rw [hidF_eq bzB, hidF_eq hrA]
  exact h
/-! medium.Busy -/
def sig11 : CSig := ⟨[⟨true, [.slc [.int .i64, .int .i64, .int .i64, .int .i64], .mat [.int .i64]]⟩, ⟨false, [.slc [.int .i64, .int .i64, .int .i64, .int .i64]]⟩, ⟨false, [.int .i64]⟩, ⟨false, [.int .i64]⟩], [⟨false, [.bool]⟩, ⟨false, [.int .i64]⟩]⟩
def pre11 : List AV → Prop
  | [.a v0, .i v1, .m v2l v2f, .i v3, .a v4, .i v5, .i v6, .i v7] => True
  | _ => False
noncomputable def raw11 : List AV → List AV
  | [.a v0, .i v1, .m v2l v2f, .i v3, .a v4, .i v5, .i v6, .i v7] => [.b ((hidF buV) v0 v1 v2l v2f v3 v4 v5 v6 v7), .i ((hidF maE) v0 v1 v2l v2f v3 v4 v5 v6 v7 0)]
  | _ => []

def VH11 : Prop :=
  ∀ (v0 : Int → Nat → Int) (v1 : Int) (v2l : Int → Int) (v2f : Int → Int → Nat → Int) (v3 : Int) (v4 : Int → Nat → Int) (v5 : Int) (v6 : Int) (v7 : Int),
  (True) →
  (0 ≤ v1 →
  (0 ≤ v3 →
  (0 ≤ v5 →
  ((1 : Int) ≤ 4) ∧ (∀ (v8 : Int), v8 = (hidF maT) v0 v1 v2l v2f v3 v4 v5 v6 (setA zA 0 0 v7) (1 : Int) → 
  (v1 ≤ 9223372036854775807 →
  (v3 ≤ 9223372036854775807 →
  (v5 ≤ 9223372036854775807 →
  (¬ (v8 = 0) →
    (False ↔ (hidF buV) v0 v1 v2l v2f v3 v4 v5 v6 v7 = true) ∧ v8 = (hidF maE) v0 v1 v2l v2f v3 v4 v5 v6 v7 0 ∧ True) ∧
  (¬ (¬ (v8 = 0)) →
    (mcE v0 v1 v2l v2f v3 v4 v5 = 0 ∧ 0 ≤ v6 ∧ v6 < v1) ∧ (∀ (v9 : Int → Nat → Int) (v10 : Int), v9 = (hidF snA) v0 v2f v3 v4 v5 v6 → v10 = (hidF snN) v0 v2f v3 v4 v5 v6 → 
    (0 ≤ v10 →
    (v10 ≤ 9223372036854775807 →
    ∃ (I0 : (Int) → Prop) (μ0 : (Int) → Nat), I0 (0 : Int) ∧ (∀ (v11 : Int), I0 v11 →
      (v11 < v10 →
        0 ≤ v11 ∧ (0 ≤ v11 →
        (((v9 v11 1) ≤ v7 ∧ v7 < (v9 v11 2)) →
          (0 ≤ v11 ↔ (hidF buV) v0 v1 v2l v2f v3 v4 v5 v6 v7 = true) ∧ (0 : Int) = (hidF maE) v0 v1 v2l v2f v3 v4 v5 v6 v7 0 ∧ True) ∧
        (¬ (((v9 v11 1) ≤ v7 ∧ v7 < (v9 v11 2))) →
          (-9223372036854775808 ≤ (v11 + 1) ∧ (v11 + 1) ≤ 9223372036854775807) ∧ ((-9223372036854775808 ≤ (v11 + 1) ∧ (v11 + 1) ≤ 9223372036854775807) →
          I0 (v11 + 1) ∧ μ0 (v11 + 1) < μ0 v11)))) ∧
      (¬ (v11 < v10) →
        (False ↔ (hidF buV) v0 v1 v2l v2f v3 v4 v5 v6 v7 = true) ∧ (0 : Int) = (hidF maE) v0 v1 v2l v2f v3 v4 v5 v6 v7 0 ∧ True)))))))))))))
def VC11 : Prop :=
  ∀ (v0 : Int → Nat → Int) (v1 : Int) (v2l : Int → Int) (v2f : Int → Int → Nat → Int) (v3 : Int) (v4 : Int → Nat → Int) (v5 : Int) (v6 : Int) (v7 : Int),
  (True) →
  (0 ≤ v1 →
  (0 ≤ v3 →
  (0 ≤ v5 →
  ((1 : Int) ≤ 4) ∧ (∀ (v8 : Int), v8 = maT v0 v1 v2l v2f v3 v4 v5 v6 (setA zA 0 0 v7) (1 : Int) → 
  (v1 ≤ 9223372036854775807 →
  (v3 ≤ 9223372036854775807 →
  (v5 ≤ 9223372036854775807 →
  (¬ (v8 = 0) →
    (False ↔ buV v0 v1 v2l v2f v3 v4 v5 v6 v7 = true) ∧ v8 = maE v0 v1 v2l v2f v3 v4 v5 v6 v7 0 ∧ True) ∧
  (¬ (¬ (v8 = 0)) →
    (mcE v0 v1 v2l v2f v3 v4 v5 = 0 ∧ 0 ≤ v6 ∧ v6 < v1) ∧ (∀ (v9 : Int → Nat → Int) (v10 : Int), v9 = snA v0 v2f v3 v4 v5 v6 → v10 = snN v0 v2f v3 v4 v5 v6 → 
    (0 ≤ v10 →
    (v10 ≤ 9223372036854775807 →
    ∃ (I0 : (Int) → Prop) (μ0 : (Int) → Nat), I0 (0 : Int) ∧ (∀ (v11 : Int), I0 v11 →
      (v11 < v10 →
        0 ≤ v11 ∧ (0 ≤ v11 →
        (((v9 v11 1) ≤ v7 ∧ v7 < (v9 v11 2)) →
          (0 ≤ v11 ↔ buV v0 v1 v2l v2f v3 v4 v5 v6 v7 = true) ∧ (0 : Int) = maE v0 v1 v2l v2f v3 v4 v5 v6 v7 0 ∧ True) ∧
        (¬ (((v9 v11 1) ≤ v7 ∧ v7 < (v9 v11 2))) →
          (-9223372036854775808 ≤ (v11 + 1) ∧ (v11 + 1) ≤ 9223372036854775807) ∧ ((-9223372036854775808 ≤ (v11 + 1) ∧ (v11 + 1) ≤ 9223372036854775807) →
          I0 (v11 + 1) ∧ μ0 (v11 + 1) < μ0 v11)))) ∧
      (¬ (v11 < v10) →
        (False ↔ buV v0 v1 v2l v2f v3 v4 v5 v6 v7 = true) ∧ (0 : Int) = maE v0 v1 v2l v2f v3 v4 v5 v6 v7 0 ∧ True)))))))))))))
theorem vh11 (h : VC11) : VH11 := by
  unfold VH11
  rw [hidF_eq buV, hidF_eq maE, hidF_eq maT, hidF_eq snA, hidF_eq snN]
  exact h
/-! hotspotref11.Busy -/
def sig12 : CSig := ⟨[⟨true, [.slc [.int .i64, .int .i64, .int .i64, .int .i64], .mat [.int .i64]]⟩, ⟨false, [.slc [.int .i64, .int .i64, .int .i64, .int .i64]]⟩, ⟨false, [.int .i64]⟩, ⟨false, [.int .i64]⟩], [⟨false, [.bool]⟩, ⟨false, [.int .i64]⟩]⟩
def pre12 : List AV → Prop
  | [.a v0, .i v1, .m v2l v2f, .i v3, .a v4, .i v5, .i v6, .i v7] => True
  | _ => False
noncomputable def raw12 : List AV → List AV
  | [.a v0, .i v1, .m v2l v2f, .i v3, .a v4, .i v5, .i v6, .i v7] => [.b ((hidF buV) v0 v1 v2l v2f v3 v4 v5 v6 v7), .i ((hidF maE) v0 v1 v2l v2f v3 v4 v5 v6 v7 0)]
  | _ => []

def VH12 : Prop :=
  ∀ (v0 : Int → Nat → Int) (v1 : Int) (v2l : Int → Int) (v2f : Int → Int → Nat → Int) (v3 : Int) (v4 : Int → Nat → Int) (v5 : Int) (v6 : Int) (v7 : Int),
  (True) →
  (0 ≤ v1 →
  (0 ≤ v3 →
  (0 ≤ v5 →
  (True) ∧ (∀ (v8 : Int), v8 = (hidF maE) v0 v1 v2l v2f v3 v4 v5 v6 v7 (0 : Int) → 
  (v1 ≤ 9223372036854775807 →
  (v3 ≤ 9223372036854775807 →
  (v5 ≤ 9223372036854775807 →
  (¬ (v8 = 0) →
    (False ↔ (hidF buV) v0 v1 v2l v2f v3 v4 v5 v6 v7 = true) ∧ v8 = (hidF maE) v0 v1 v2l v2f v3 v4 v5 v6 v7 0 ∧ True) ∧
  (¬ (¬ (v8 = 0)) →
    (-9223372036854775808 ≤ (v7 + 1) ∧ (v7 + 1) ≤ 9223372036854775807) ∧ ((-9223372036854775808 ≤ (v7 + 1) ∧ (v7 + 1) ≤ 9223372036854775807) →
    (mcE v0 v1 v2l v2f v3 v4 v5 = 0 ∧ 0 ≤ v6 ∧ v6 < v1) ∧ (∀ (v9 : Bool), v9 = (hidF bzB) v0 v2f v3 v4 v5 v6 v7 (v7 + 1) → 
    (v9 = true ↔ (hidF buV) v0 v1 v2l v2f v3 v4 v5 v6 v7 = true) ∧ (0 : Int) = (hidF maE) v0 v1 v2l v2f v3 v4 v5 v6 v7 0 ∧ True))))))))))
def VC12 : Prop :=
  ∀ (v0 : Int → Nat → Int) (v1 : Int) (v2l : Int → Int) (v2f : Int → Int → Nat → Int) (v3 : Int) (v4 : Int → Nat → Int) (v5 : Int) (v6 : Int) (v7 : Int),
  (True) →
  (0 ≤ v1 →
  (0 ≤ v3 →
  (0 ≤ v5 →
  (True) ∧ (∀ (v8 : Int), v8 = maE v0 v1 v2l v2f v3 v4 v5 v6 v7 (0 : Int) → 
  (v1 ≤ 9223372036854775807 →
  (v3 ≤ 9223372036854775807 →
  (v5 ≤ 9223372036854775807 →
  (¬ (v8 = 0) →
    (False ↔ buV v0 v1 v2l v2f v3 v4 v5 v6 v7 = true) ∧ v8 = maE v0 v1 v2l v2f v3 v4 v5 v6 v7 0 ∧ True) ∧
  (¬ (¬ (v8 = 0)) →
    (-9223372036854775808 ≤ (v7 + 1) ∧ (v7 + 1) ≤ 9223372036854775807) ∧ ((-9223372036854775808 ≤ (v7 + 1) ∧ (v7 + 1) ≤ 9223372036854775807) →
    (mcE v0 v1 v2l v2f v3 v4 v5 = 0 ∧ 0 ≤ v6 ∧ v6 < v1) ∧ (∀ (v9 : Bool), v9 = bzB v0 v2f v3 v4 v5 v6 v7 (v7 + 1) → 
    (v9 = true ↔ buV v0 v1 v2l v2f v3 v4 v5 v6 v7 = true) ∧ (0 : Int) = maE v0 v1 v2l v2f v3 v4 v5 v6 v7 0 ∧ True))))))))))
theorem vh12 (h : VC12) : VH12 := by
  unfold VH12
  rw [hidF_eq buV, hidF_eq bzB, hidF_eq maE]
  exact h
/-! medium.Idle -/
def sig13 : CSig := ⟨[⟨true, [.slc [.int .i64, .int .i64, .int .i64, .int .i64], .mat [.int .i64]]⟩, ⟨false, [.slc [.int .i64, .int .i64, .int .i64, .int .i64]]⟩, ⟨false, [.int .i64]⟩, ⟨false, [.int .i64]⟩, ⟨false, [.int .i64]⟩], [⟨false, [.int .i64]⟩, ⟨false, [.int .i64]⟩]⟩
def pre13 : List AV → Prop
  | [.a v0, .i v1, .m v2l v2f, .i v3, .a v4, .i v5, .i v6, .i v7, .i v8] => True
  | _ => False
noncomputable def raw13 : List AV → List AV
  | [.a v0, .i v1, .m v2l v2f, .i v3, .a v4, .i v5, .i v6, .i v7, .i v8] => [.i ((hidF idV) v0 v1 v2l v2f v3 v4 v5 v6 v7 v8), .i ((hidF maE) v0 v1 v2l v2f v3 v4 v5 v6 v7 v8)]
  | _ => []

def VH13 : Prop :=
  ∀ (v0 : Int → Nat → Int) (v1 : Int) (v2l : Int → Int) (v2f : Int → Int → Nat → Int) (v3 : Int) (v4 : Int → Nat → Int) (v5 : Int) (v6 : Int) (v7 : Int) (v8 : Int),
  (True) →
  (0 ≤ v1 →
  (0 ≤ v3 →
  (0 ≤ v5 →
  ((2 : Int) ≤ 4) ∧ (∀ (v9 : Int), v9 = (hidF maT) v0 v1 v2l v2f v3 v4 v5 v6 (setA (setA zA 0 0 v7) 1 0 v8) (2 : Int) → 
  (v1 ≤ 9223372036854775807 →
  (v3 ≤ 9223372036854775807 →
  (v5 ≤ 9223372036854775807 →
  (¬ (v9 = 0) →
    (0 : Int) = (hidF idV) v0 v1 v2l v2f v3 v4 v5 v6 v7 v8 ∧ v9 = (hidF maE) v0 v1 v2l v2f v3 v4 v5 v6 v7 v8 ∧ True) ∧
  (¬ (¬ (v9 = 0)) →
    (v8 = 0 →
      v7 = (hidF idV) v0 v1 v2l v2f v3 v4 v5 v6 v7 v8 ∧ (0 : Int) = (hidF maE) v0 v1 v2l v2f v3 v4 v5 v6 v7 v8 ∧ True) ∧
    (¬ (v8 = 0) →
      ∃ (I0 : (Int) → (Bool) → Prop) (μ0 : (Int) → (Bool) → Nat), I0 v7 true ∧ (∀ (v10 : Int) (v11 : Bool), I0 v10 v11 →
        (v11 = true →
          (mcE v0 v1 v2l v2f v3 v4 v5 = 0 ∧ 0 ≤ v6 ∧ v6 < v1) ∧ (∀ (v12 : Int → Nat → Int) (v13 : Int), v12 = (hidF snA) v0 v2f v3 v4 v5 v6 → v13 = (hidF snN) v0 v2f v3 v4 v5 v6 → 
          (0 ≤ v13 →
          (v13 ≤ 9223372036854775807 →
          ∃ (I1 : (Int) → (Bool) → (Int) → Prop) (μ1 : (Int) → (Bool) → (Int) → Nat), I1 v10 false (0 : Int) ∧ (∀ (v14 : Int) (v15 : Bool) (v16 : Int), I1 v14 v15 v16 →
            (v16 < v13 →
              0 ≤ v16 ∧ (0 ≤ v16 →
              (¬ ((v12 v16 1) < v14) ∨ (-9223372036854775808 ≤ (v14 - v8) ∧ (v14 - v8) ≤ 9223372036854775807)) ∧ ((¬ ((v12 v16 1) < v14) ∨ (-9223372036854775808 ≤ (v14 - v8) ∧ (v14 - v8) ≤ 9223372036854775807)) →
              (((v12 v16 1) < v14 ∧ (v14 - v8) < (v12 v16 2)) →
                (-9223372036854775808 ≤ ((v12 v16 2) + v8) ∧ ((v12 v16 2) + v8) ≤ 9223372036854775807) ∧ ((-9223372036854775808 ≤ ((v12 v16 2) + v8) ∧ ((v12 v16 2) + v8) ≤ 9223372036854775807) →
                (-9223372036854775808 ≤ (v16 + 1) ∧ (v16 + 1) ≤ 9223372036854775807) ∧ ((-9223372036854775808 ≤ (v16 + 1) ∧ (v16 + 1) ≤ 9223372036854775807) →
                I1 ((v12 v16 2) + v8) true (v16 + 1) ∧ μ1 ((v12 v16 2) + v8) true (v16 + 1) < μ1 v14 v15 v16))) ∧
              (¬ (((v12 v16 1) < v14 ∧ (v14 - v8) < (v12 v16 2))) →
                (-9223372036854775808 ≤ (v16 + 1) ∧ (v16 + 1) ≤ 9223372036854775807) ∧ ((-9223372036854775808 ≤ (v16 + 1) ∧ (v16 + 1) ≤ 9223372036854775807) →
                I1 v14 v15 (v16 + 1) ∧ μ1 v14 v15 (v16 + 1) < μ1 v14 v15 v16))))) ∧
            (¬ (v16 < v13) →
              I0 v14 v15 ∧ μ0 v14 v15 < μ0 v10 v11)))))) ∧
        (¬ (v11 = true) →
          v10 = (hidF idV) v0 v1 v2l v2f v3 v4 v5 v6 v7 v8 ∧ (0 : Int) = (hidF maE) v0 v1 v2l v2f v3 v4 v5 v6 v7 v8 ∧ True)))))))))))
def VC13 : Prop :=
  ∀ (v0 : Int → Nat → Int) (v1 : Int) (v2l : Int → Int) (v2f : Int → Int → Nat → Int) (v3 : Int) (v4 : Int → Nat → Int) (v5 : Int) (v6 : Int) (v7 : Int) (v8 : Int),
  (True) →
  (0 ≤ v1 →
  (0 ≤ v3 →
  (0 ≤ v5 →
  ((2 : Int) ≤ 4) ∧ (∀ (v9 : Int), v9 = maT v0 v1 v2l v2f v3 v4 v5 v6 (setA (setA zA 0 0 v7) 1 0 v8) (2 : Int) → 
  (v1 ≤ 9223372036854775807 →
  (v3 ≤ 9223372036854775807 →
  (v5 ≤ 9223372036854775807 →
  (¬ (v9 = 0) →
    (0 : Int) = idV v0 v1 v2l v2f v3 v4 v5 v6 v7 v8 ∧ v9 = maE v0 v1 v2l v2f v3 v4 v5 v6 v7 v8 ∧ True) ∧
  (¬ (¬ (v9 = 0)) →
    (v8 = 0 →
      v7 = idV v0 v1 v2l v2f v3 v4 v5 v6 v7 v8 ∧ (0 : Int) = maE v0 v1 v2l v2f v3 v4 v5 v6 v7 v8 ∧ True) ∧
    (¬ (v8 = 0) →
      ∃ (I0 : (Int) → (Bool) → Prop) (μ0 : (Int) → (Bool) → Nat), I0 v7 true ∧ (∀ (v10 : Int) (v11 : Bool), I0 v10 v11 →
        (v11 = true →
          (mcE v0 v1 v2l v2f v3 v4 v5 = 0 ∧ 0 ≤ v6 ∧ v6 < v1) ∧ (∀ (v12 : Int → Nat → Int) (v13 : Int), v12 = snA v0 v2f v3 v4 v5 v6 → v13 = snN v0 v2f v3 v4 v5 v6 → 
          (0 ≤ v13 →
          (v13 ≤ 9223372036854775807 →
          ∃ (I1 : (Int) → (Bool) → (Int) → Prop) (μ1 : (Int) → (Bool) → (Int) → Nat), I1 v10 false (0 : Int) ∧ (∀ (v14 : Int) (v15 : Bool) (v16 : Int), I1 v14 v15 v16 →
            (v16 < v13 →
              0 ≤ v16 ∧ (0 ≤ v16 →
              (¬ ((v12 v16 1) < v14) ∨ (-9223372036854775808 ≤ (v14 - v8) ∧ (v14 - v8) ≤ 9223372036854775807)) ∧ ((¬ ((v12 v16 1) < v14) ∨ (-9223372036854775808 ≤ (v14 - v8) ∧ (v14 - v8) ≤ 9223372036854775807)) →
              (((v12 v16 1) < v14 ∧ (v14 - v8) < (v12 v16 2)) →
                (-9223372036854775808 ≤ ((v12 v16 2) + v8) ∧ ((v12 v16 2) + v8) ≤ 9223372036854775807) ∧ ((-9223372036854775808 ≤ ((v12 v16 2) + v8) ∧ ((v12 v16 2) + v8) ≤ 9223372036854775807) →
                (-9223372036854775808 ≤ (v16 + 1) ∧ (v16 + 1) ≤ 9223372036854775807) ∧ ((-9223372036854775808 ≤ (v16 + 1) ∧ (v16 + 1) ≤ 9223372036854775807) →
                I1 ((v12 v16 2) + v8) true (v16 + 1) ∧ μ1 ((v12 v16 2) + v8) true (v16 + 1) < μ1 v14 v15 v16))) ∧
              (¬ (((v12 v16 1) < v14 ∧ (v14 - v8) < (v12 v16 2))) →
                (-9223372036854775808 ≤ (v16 + 1) ∧ (v16 + 1) ≤ 9223372036854775807) ∧ ((-9223372036854775808 ≤ (v16 + 1) ∧ (v16 + 1) ≤ 9223372036854775807) →
                I1 v14 v15 (v16 + 1) ∧ μ1 v14 v15 (v16 + 1) < μ1 v14 v15 v16))))) ∧
            (¬ (v16 < v13) →
              I0 v14 v15 ∧ μ0 v14 v15 < μ0 v10 v11)))))) ∧
        (¬ (v11 = true) →
          v10 = idV v0 v1 v2l v2f v3 v4 v5 v6 v7 v8 ∧ (0 : Int) = maE v0 v1 v2l v2f v3 v4 v5 v6 v7 v8 ∧ True)))))))))))
theorem vh13 (h : VC13) : VH13 := by
  unfold VH13
  rw [hidF_eq idV, hidF_eq maE, hidF_eq maT, hidF_eq snA, hidF_eq snN]
  exact h
/-! hotspotref11.Idle -/
def sig14 : CSig := ⟨[⟨true, [.slc [.int .i64, .int .i64, .int .i64, .int .i64], .mat [.int .i64]]⟩, ⟨false, [.slc [.int .i64, .int .i64, .int .i64, .int .i64]]⟩, ⟨false, [.int .i64]⟩, ⟨false, [.int .i64]⟩, ⟨false, [.int .i64]⟩], [⟨false, [.int .i64]⟩, ⟨false, [.int .i64]⟩]⟩
def pre14 : List AV → Prop
  | [.a v0, .i v1, .m v2l v2f, .i v3, .a v4, .i v5, .i v6, .i v7, .i v8] => True
  | _ => False
noncomputable def raw14 : List AV → List AV
  | [.a v0, .i v1, .m v2l v2f, .i v3, .a v4, .i v5, .i v6, .i v7, .i v8] => [.i ((hidF idV) v0 v1 v2l v2f v3 v4 v5 v6 v7 v8), .i ((hidF maE) v0 v1 v2l v2f v3 v4 v5 v6 v7 v8)]
  | _ => []

def VH14 : Prop :=
  ∀ (v0 : Int → Nat → Int) (v1 : Int) (v2l : Int → Int) (v2f : Int → Int → Nat → Int) (v3 : Int) (v4 : Int → Nat → Int) (v5 : Int) (v6 : Int) (v7 : Int) (v8 : Int),
  (True) →
  (0 ≤ v1 →
  (0 ≤ v3 →
  (0 ≤ v5 →
  (True) ∧ (∀ (v9 : Int), v9 = (hidF maE) v0 v1 v2l v2f v3 v4 v5 v6 v7 v8 → 
  (v1 ≤ 9223372036854775807 →
  (v3 ≤ 9223372036854775807 →
  (v5 ≤ 9223372036854775807 →
  (¬ (v9 = 0) →
    (0 : Int) = (hidF idV) v0 v1 v2l v2f v3 v4 v5 v6 v7 v8 ∧ v9 = (hidF maE) v0 v1 v2l v2f v3 v4 v5 v6 v7 v8 ∧ True) ∧
  (¬ (¬ (v9 = 0)) →
    (v8 = 0 →
      v7 = (hidF idV) v0 v1 v2l v2f v3 v4 v5 v6 v7 v8 ∧ (0 : Int) = (hidF maE) v0 v1 v2l v2f v3 v4 v5 v6 v7 v8 ∧ True) ∧
    (¬ (v8 = 0) →
      ∃ (I0 : (Int) → (Int) → Prop) (μ0 : (Int) → (Int) → Nat), I0 (-1 : Int) (-1 : Int) ∧ (∀ (v10 : Int) (v11 : Int), I0 v10 v11 →
        (v11 < v5 →
          (0 ≤ v11 →
            (-9223372036854775808 ≤ ((v4 v11 2) + v8) ∧ ((v4 v11 2) + v8) ≤ 9223372036854775807) ∧ ((-9223372036854775808 ≤ ((v4 v11 2) + v8) ∧ ((v4 v11 2) + v8) ≤ 9223372036854775807) →
            (¬ (v7 ≤ ((v4 v11 2) + v8)) ∨ (-9223372036854775808 ≤ (((v4 v11 2) + v8) - v8) ∧ (((v4 v11 2) + v8) - v8) ≤ 9223372036854775807)) ∧ ((¬ (v7 ≤ ((v4 v11 2) + v8)) ∨ (-9223372036854775808 ≤ (((v4 v11 2) + v8) - v8) ∧ (((v4 v11 2) + v8) - v8) ≤ 9223372036854775807)) →
            ((v7 ≤ ((v4 v11 2) + v8) → mcE v0 v1 v2l v2f v3 v4 v5 = 0 ∧ 0 ≤ v6 ∧ v6 < v1)) ∧ (∀ (v12 : Bool), v12 = (hidF bzB) v0 v2f v3 v4 v5 v6 (((v4 v11 2) + v8) - v8) ((v4 v11 2) + v8) → 
            (((v7 ≤ ((v4 v11 2) + v8) ∧ ¬ (v12 = true)) ∧ (v10 < 0 ∨ ((v4 v11 2) + v8) < v10)) →
              (-9223372036854775808 ≤ (v11 + 1) ∧ (v11 + 1) ≤ 9223372036854775807) ∧ ((-9223372036854775808 ≤ (v11 + 1) ∧ (v11 + 1) ≤ 9223372036854775807) →
              I0 ((v4 v11 2) + v8) (v11 + 1) ∧ μ0 ((v4 v11 2) + v8) (v11 + 1) < μ0 v10 v11)) ∧
            (¬ (((v7 ≤ ((v4 v11 2) + v8) ∧ ¬ (v12 = true)) ∧ (v10 < 0 ∨ ((v4 v11 2) + v8) < v10))) →
              (-9223372036854775808 ≤ (v11 + 1) ∧ (v11 + 1) ≤ 9223372036854775807) ∧ ((-9223372036854775808 ≤ (v11 + 1) ∧ (v11 + 1) ≤ 9223372036854775807) →
              I0 v10 (v11 + 1) ∧ μ0 v10 (v11 + 1) < μ0 v10 v11)))))) ∧
          (¬ (0 ≤ v11) →
            (¬ (v7 ≤ v7) ∨ (-9223372036854775808 ≤ (v7 - v8) ∧ (v7 - v8) ≤ 9223372036854775807)) ∧ ((¬ (v7 ≤ v7) ∨ (-9223372036854775808 ≤ (v7 - v8) ∧ (v7 - v8) ≤ 9223372036854775807)) →
            ((v7 ≤ v7 → mcE v0 v1 v2l v2f v3 v4 v5 = 0 ∧ 0 ≤ v6 ∧ v6 < v1)) ∧ (∀ (v12 : Bool), v12 = (hidF bzB) v0 v2f v3 v4 v5 v6 (v7 - v8) v7 → 
            (((v7 ≤ v7 ∧ ¬ (v12 = true)) ∧ (v10 < 0 ∨ v7 < v10)) →
              (-9223372036854775808 ≤ (v11 + 1) ∧ (v11 + 1) ≤ 9223372036854775807) ∧ ((-9223372036854775808 ≤ (v11 + 1) ∧ (v11 + 1) ≤ 9223372036854775807) →
              I0 v7 (v11 + 1) ∧ μ0 v7 (v11 + 1) < μ0 v10 v11)) ∧
            (¬ (((v7 ≤ v7 ∧ ¬ (v12 = true)) ∧ (v10 < 0 ∨ v7 < v10))) →
              (-9223372036854775808 ≤ (v11 + 1) ∧ (v11 + 1) ≤ 9223372036854775807) ∧ ((-9223372036854775808 ≤ (v11 + 1) ∧ (v11 + 1) ≤ 9223372036854775807) →
              I0 v10 (v11 + 1) ∧ μ0 v10 (v11 + 1) < μ0 v10 v11)))))) ∧
        (¬ (v11 < v5) →
          v10 = (hidF idV) v0 v1 v2l v2f v3 v4 v5 v6 v7 v8 ∧ (0 : Int) = (hidF maE) v0 v1 v2l v2f v3 v4 v5 v6 v7 v8 ∧ True)))))))))))
def VC14 : Prop :=
  ∀ (v0 : Int → Nat → Int) (v1 : Int) (v2l : Int → Int) (v2f : Int → Int → Nat → Int) (v3 : Int) (v4 : Int → Nat → Int) (v5 : Int) (v6 : Int) (v7 : Int) (v8 : Int),
  (True) →
  (0 ≤ v1 →
  (0 ≤ v3 →
  (0 ≤ v5 →
  (True) ∧ (∀ (v9 : Int), v9 = maE v0 v1 v2l v2f v3 v4 v5 v6 v7 v8 → 
  (v1 ≤ 9223372036854775807 →
  (v3 ≤ 9223372036854775807 →
  (v5 ≤ 9223372036854775807 →
  (¬ (v9 = 0) →
    (0 : Int) = idV v0 v1 v2l v2f v3 v4 v5 v6 v7 v8 ∧ v9 = maE v0 v1 v2l v2f v3 v4 v5 v6 v7 v8 ∧ True) ∧
  (¬ (¬ (v9 = 0)) →
    (v8 = 0 →
      v7 = idV v0 v1 v2l v2f v3 v4 v5 v6 v7 v8 ∧ (0 : Int) = maE v0 v1 v2l v2f v3 v4 v5 v6 v7 v8 ∧ True) ∧
    (¬ (v8 = 0) →
      ∃ (I0 : (Int) → (Int) → Prop) (μ0 : (Int) → (Int) → Nat), I0 (-1 : Int) (-1 : Int) ∧ (∀ (v10 : Int) (v11 : Int), I0 v10 v11 →
        (v11 < v5 →
          (0 ≤ v11 →
            (-9223372036854775808 ≤ ((v4 v11 2) + v8) ∧ ((v4 v11 2) + v8) ≤ 9223372036854775807) ∧ ((-9223372036854775808 ≤ ((v4 v11 2) + v8) ∧ ((v4 v11 2) + v8) ≤ 9223372036854775807) →
            (¬ (v7 ≤ ((v4 v11 2) + v8)) ∨ (-9223372036854775808 ≤ (((v4 v11 2) + v8) - v8) ∧ (((v4 v11 2) + v8) - v8) ≤ 9223372036854775807)) ∧ ((¬ (v7 ≤ ((v4 v11 2) + v8)) ∨ (-9223372036854775808 ≤ (((v4 v11 2) + v8) - v8) ∧ (((v4 v11 2) + v8) - v8) ≤ 9223372036854775807)) →
            ((v7 ≤ ((v4 v11 2) + v8) → mcE v0 v1 v2l v2f v3 v4 v5 = 0 ∧ 0 ≤ v6 ∧ v6 < v1)) ∧ (∀ (v12 : Bool), v12 = bzB v0 v2f v3 v4 v5 v6 (((v4 v11 2) + v8) - v8) ((v4 v11 2) + v8) → 
            (((v7 ≤ ((v4 v11 2) + v8) ∧ ¬ (v12 = true)) ∧ (v10 < 0 ∨ ((v4 v11 2) + v8) < v10)) →
              (-9223372036854775808 ≤ (v11 + 1) ∧ (v11 + 1) ≤ 9223372036854775807) ∧ ((-9223372036854775808 ≤ (v11 + 1) ∧ (v11 + 1) ≤ 9223372036854775807) →
              I0 ((v4 v11 2) + v8) (v11 + 1) ∧ μ0 ((v4 v11 2) + v8) (v11 + 1) < μ0 v10 v11)) ∧
            (¬ (((v7 ≤ ((v4 v11 2) + v8) ∧ ¬ (v12 = true)) ∧ (v10 < 0 ∨ ((v4 v11 2) + v8) < v10))) →
              (-9223372036854775808 ≤ (v11 + 1) ∧ (v11 + 1) ≤ 9223372036854775807) ∧ ((-9223372036854775808 ≤ (v11 + 1) ∧ (v11 + 1) ≤ 9223372036854775807) →
              I0 v10 (v11 + 1) ∧ μ0 v10 (v11 + 1) < μ0 v10 v11)))))) ∧
          (¬ (0 ≤ v11) →
            (¬ (v7 ≤ v7) ∨ (-9223372036854775808 ≤ (v7 - v8) ∧ (v7 - v8) ≤ 9223372036854775807)) ∧ ((¬ (v7 ≤ v7) ∨ (-9223372036854775808 ≤ (v7 - v8) ∧ (v7 - v8) ≤ 9223372036854775807)) →
            ((v7 ≤ v7 → mcE v0 v1 v2l v2f v3 v4 v5 = 0 ∧ 0 ≤ v6 ∧ v6 < v1)) ∧ (∀ (v12 : Bool), v12 = bzB v0 v2f v3 v4 v5 v6 (v7 - v8) v7 → 
            (((v7 ≤ v7 ∧ ¬ (v12 = true)) ∧ (v10 < 0 ∨ v7 < v10)) →
              (-9223372036854775808 ≤ (v11 + 1) ∧ (v11 + 1) ≤ 9223372036854775807) ∧ ((-9223372036854775808 ≤ (v11 + 1) ∧ (v11 + 1) ≤ 9223372036854775807) →
              I0 v7 (v11 + 1) ∧ μ0 v7 (v11 + 1) < μ0 v10 v11)) ∧
            (¬ (((v7 ≤ v7 ∧ ¬ (v12 = true)) ∧ (v10 < 0 ∨ v7 < v10))) →
              (-9223372036854775808 ≤ (v11 + 1) ∧ (v11 + 1) ≤ 9223372036854775807) ∧ ((-9223372036854775808 ≤ (v11 + 1) ∧ (v11 + 1) ≤ 9223372036854775807) →
              I0 v10 (v11 + 1) ∧ μ0 v10 (v11 + 1) < μ0 v10 v11)))))) ∧
        (¬ (v11 < v5) →
          v10 = idV v0 v1 v2l v2f v3 v4 v5 v6 v7 v8 ∧ (0 : Int) = maE v0 v1 v2l v2f v3 v4 v5 v6 v7 v8 ∧ True)))))))))))
theorem vh14 (h : VC14) : VH14 := by
  unfold VH14
  rw [hidF_eq bzB, hidF_eq idV, hidF_eq maE]
  exact h
/-! medium.Drop -/
def sig16 : CSig := ⟨[⟨false, [.slc [.int .i64, .int .i64, .int .i64, .int .i64]]⟩, ⟨false, [.int .i64]⟩], [⟨false, [.slc [.int .i64, .int .i64, .int .i64, .int .i64]]⟩]⟩
def pre16 : List AV → Prop
  | [.a v0, .i v1, .i v2] => v1 ≤ 80
  | _ => False
noncomputable def raw16 : List AV → List AV
  | [.a v0, .i v1, .i v2] => [.a ((hidF drA) v0 v1 v2), .i ((hidF drN) v0 v1 v2)]
  | _ => []

def VH16 : Prop :=
  ∀ (v0 : Int → Nat → Int) (v1 : Int) (v2 : Int),
  (v1 ≤ 80) →
  (0 ≤ v1 →
  ∃ (I0 : (Int → Nat → Int) → (Int) → (Int) → Prop) (μ0 : (Int → Nat → Int) → (Int) → (Int) → Nat), I0 zA (0 : Int) (0 : Int) ∧ (∀ (v3 : Int → Nat → Int) (v4 : Int) (v5 : Int), I0 v3 v4 v5 →
    (0 ≤ v4 →
    (v1 ≤ 9223372036854775807 →
    (v4 ≤ 9223372036854775807 →
    (v5 < v1 →
      0 ≤ v5 ∧ (0 ≤ v5 →
      (v2 < (v0 v5 2) →
        ((v4 + 1) * 32) ≤ 140737488355328 ∧ (((v4 + 1) * 32) ≤ 140737488355328 →
        (v4 + 1) ≤ 140737488355328 ∧ ((v4 + 1) ≤ 140737488355328 →
        (-9223372036854775808 ≤ (v5 + 1) ∧ (v5 + 1) ≤ 9223372036854775807) ∧ ((-9223372036854775808 ≤ (v5 + 1) ∧ (v5 + 1) ≤ 9223372036854775807) →
        I0 (appA v3 v4 (setA (setA (setA (setA zA 0 0 (v0 v5 0)) 0 1 (v0 v5 1)) 0 2 (v0 v5 2)) 0 3 (v0 v5 3))) (v4 + 1) (v5 + 1) ∧ μ0 (appA v3 v4 (setA (setA (setA (setA zA 0 0 (v0 v5 0)) 0 1 (v0 v5 1)) 0 2 (v0 v5 2)) 0 3 (v0 v5 3))) (v4 + 1) (v5 + 1) < μ0 v3 v4 v5)))) ∧
      (¬ (v2 < (v0 v5 2)) →
        (-9223372036854775808 ≤ (v5 + 1) ∧ (v5 + 1) ≤ 9223372036854775807) ∧ ((-9223372036854775808 ≤ (v5 + 1) ∧ (v5 + 1) ≤ 9223372036854775807) →
        I0 v3 v4 (v5 + 1) ∧ μ0 v3 v4 (v5 + 1) < μ0 v3 v4 v5)))) ∧
    (¬ (v5 < v1) →
      v4 = (hidF drN) v0 v1 v2 ∧ (∀ (i : Int) (f : Nat), 0 ≤ i → i < (hidF drN) v0 v1 v2 → f < 4 → v3 i f = (hidF drA) v0 v1 v2 i f) ∧ True))))))
def VC16 : Prop :=
  ∀ (v0 : Int → Nat → Int) (v1 : Int) (v2 : Int),
  (v1 ≤ 80) →
  (0 ≤ v1 →
  ∃ (I0 : (Int → Nat → Int) → (Int) → (Int) → Prop) (μ0 : (Int → Nat → Int) → (Int) → (Int) → Nat), I0 zA (0 : Int) (0 : Int) ∧ (∀ (v3 : Int → Nat → Int) (v4 : Int) (v5 : Int), I0 v3 v4 v5 →
    (0 ≤ v4 →
    (v1 ≤ 9223372036854775807 →
    (v4 ≤ 9223372036854775807 →
    (v5 < v1 →
      0 ≤ v5 ∧ (0 ≤ v5 →
      (v2 < (v0 v5 2) →
        ((v4 + 1) * 32) ≤ 140737488355328 ∧ (((v4 + 1) * 32) ≤ 140737488355328 →
        (v4 + 1) ≤ 140737488355328 ∧ ((v4 + 1) ≤ 140737488355328 →
        (-9223372036854775808 ≤ (v5 + 1) ∧ (v5 + 1) ≤ 9223372036854775807) ∧ ((-9223372036854775808 ≤ (v5 + 1) ∧ (v5 + 1) ≤ 9223372036854775807) →
        I0 (appA v3 v4 (setA (setA (setA (setA zA 0 0 (v0 v5 0)) 0 1 (v0 v5 1)) 0 2 (v0 v5 2)) 0 3 (v0 v5 3))) (v4 + 1) (v5 + 1) ∧ μ0 (appA v3 v4 (setA (setA (setA (setA zA 0 0 (v0 v5 0)) 0 1 (v0 v5 1)) 0 2 (v0 v5 2)) 0 3 (v0 v5 3))) (v4 + 1) (v5 + 1) < μ0 v3 v4 v5)))) ∧
      (¬ (v2 < (v0 v5 2)) →
        (-9223372036854775808 ≤ (v5 + 1) ∧ (v5 + 1) ≤ 9223372036854775807) ∧ ((-9223372036854775808 ≤ (v5 + 1) ∧ (v5 + 1) ≤ 9223372036854775807) →
        I0 v3 v4 (v5 + 1) ∧ μ0 v3 v4 (v5 + 1) < μ0 v3 v4 v5)))) ∧
    (¬ (v5 < v1) →
      v4 = drN v0 v1 v2 ∧ (∀ (i : Int) (f : Nat), 0 ≤ i → i < drN v0 v1 v2 → f < 4 → v3 i f = drA v0 v1 v2 i f) ∧ True))))))
theorem vh16 (h : VC16) : VH16 := by
  unfold VH16
  rw [hidF_eq drA, hidF_eq drN]
  exact h
/-! hotspotref11.Drop -/
def sig17 : CSig := ⟨[⟨false, [.slc [.int .i64, .int .i64, .int .i64, .int .i64]]⟩, ⟨false, [.int .i64]⟩], [⟨false, [.slc [.int .i64, .int .i64, .int .i64, .int .i64]]⟩]⟩
def pre17 : List AV → Prop
  | [.a v0, .i v1, .i v2] => v1 ≤ 80
  | _ => False
noncomputable def raw17 : List AV → List AV
  | [.a v0, .i v1, .i v2] => [.a ((hidF drA) v0 v1 v2), .i ((hidF drN) v0 v1 v2)]
  | _ => []

def VH17 : Prop :=
  ∀ (v0 : Int → Nat → Int) (v1 : Int) (v2 : Int),
  (v1 ≤ 80) →
  (0 ≤ v1 →
  ∃ (I0 : (Int → Nat → Int) → (Int) → (Int) → Prop) (μ0 : (Int → Nat → Int) → (Int) → (Int) → Nat), I0 zA (0 : Int) (0 : Int) ∧ (∀ (v3 : Int → Nat → Int) (v4 : Int) (v5 : Int), I0 v3 v4 v5 →
    (0 ≤ v4 →
    (v1 ≤ 9223372036854775807 →
    (v4 ≤ 9223372036854775807 →
    (v5 < v1 →
      0 ≤ v5 ∧ (0 ≤ v5 →
      (v2 < (v0 v5 2) →
        ((v4 + 1) * 32) ≤ 140737488355328 ∧ (((v4 + 1) * 32) ≤ 140737488355328 →
        (v4 + 1) ≤ 140737488355328 ∧ ((v4 + 1) ≤ 140737488355328 →
        (-9223372036854775808 ≤ (v5 + 1) ∧ (v5 + 1) ≤ 9223372036854775807) ∧ ((-9223372036854775808 ≤ (v5 + 1) ∧ (v5 + 1) ≤ 9223372036854775807) →
        I0 (appA v3 v4 (setA (setA (setA (setA zA 0 0 (v0 v5 0)) 0 1 (v0 v5 1)) 0 2 (v0 v5 2)) 0 3 (v0 v5 3))) (v4 + 1) (v5 + 1) ∧ μ0 (appA v3 v4 (setA (setA (setA (setA zA 0 0 (v0 v5 0)) 0 1 (v0 v5 1)) 0 2 (v0 v5 2)) 0 3 (v0 v5 3))) (v4 + 1) (v5 + 1) < μ0 v3 v4 v5)))) ∧
      (¬ (v2 < (v0 v5 2)) →
        (-9223372036854775808 ≤ (v5 + 1) ∧ (v5 + 1) ≤ 9223372036854775807) ∧ ((-9223372036854775808 ≤ (v5 + 1) ∧ (v5 + 1) ≤ 9223372036854775807) →
        I0 v3 v4 (v5 + 1) ∧ μ0 v3 v4 (v5 + 1) < μ0 v3 v4 v5)))) ∧
    (¬ (v5 < v1) →
      v4 = (hidF drN) v0 v1 v2 ∧ (∀ (i : Int) (f : Nat), 0 ≤ i → i < (hidF drN) v0 v1 v2 → f < 4 → v3 i f = (hidF drA) v0 v1 v2 i f) ∧ True))))))
def VC17 : Prop :=
  ∀ (v0 : Int → Nat → Int) (v1 : Int) (v2 : Int),
  (v1 ≤ 80) →
  (0 ≤ v1 →
  ∃ (I0 : (Int → Nat → Int) → (Int) → (Int) → Prop) (μ0 : (Int → Nat → Int) → (Int) → (Int) → Nat), I0 zA (0 : Int) (0 : Int) ∧ (∀ (v3 : Int → Nat → Int) (v4 : Int) (v5 : Int), I0 v3 v4 v5 →
    (0 ≤ v4 →
    (v1 ≤ 9223372036854775807 →
    (v4 ≤ 9223372036854775807 →
    (v5 < v1 →
      0 ≤ v5 ∧ (0 ≤ v5 →
      (v2 < (v0 v5 2) →
        ((v4 + 1) * 32) ≤ 140737488355328 ∧ (((v4 + 1) * 32) ≤ 140737488355328 →
        (v4 + 1) ≤ 140737488355328 ∧ ((v4 + 1) ≤ 140737488355328 →
        (-9223372036854775808 ≤ (v5 + 1) ∧ (v5 + 1) ≤ 9223372036854775807) ∧ ((-9223372036854775808 ≤ (v5 + 1) ∧ (v5 + 1) ≤ 9223372036854775807) →
        I0 (appA v3 v4 (setA (setA (setA (setA zA 0 0 (v0 v5 0)) 0 1 (v0 v5 1)) 0 2 (v0 v5 2)) 0 3 (v0 v5 3))) (v4 + 1) (v5 + 1) ∧ μ0 (appA v3 v4 (setA (setA (setA (setA zA 0 0 (v0 v5 0)) 0 1 (v0 v5 1)) 0 2 (v0 v5 2)) 0 3 (v0 v5 3))) (v4 + 1) (v5 + 1) < μ0 v3 v4 v5)))) ∧
      (¬ (v2 < (v0 v5 2)) →
        (-9223372036854775808 ≤ (v5 + 1) ∧ (v5 + 1) ≤ 9223372036854775807) ∧ ((-9223372036854775808 ≤ (v5 + 1) ∧ (v5 + 1) ≤ 9223372036854775807) →
        I0 v3 v4 (v5 + 1) ∧ μ0 v3 v4 (v5 + 1) < μ0 v3 v4 v5)))) ∧
    (¬ (v5 < v1) →
      v4 = drN v0 v1 v2 ∧ (∀ (i : Int) (f : Nat), 0 ≤ i → i < drN v0 v1 v2 → f < 4 → v3 i f = drA v0 v1 v2 i f) ∧ True))))))
theorem vh17 (h : VC17) : VH17 := by
  unfold VH17
  rw [hidF_eq drA, hidF_eq drN]
  exact h
/-! hotspotref11.Same -/
def sig15 : CSig := ⟨[⟨false, [.slc [.int .i64, .int .i64, .int .i64, .int .i64]]⟩, ⟨false, [.slc [.int .i64, .int .i64, .int .i64, .int .i64]]⟩], [⟨false, [.bool]⟩]⟩
def pre15 : List AV → Prop
  | [.a v0, .i v1, .a v2, .i v3] => True
  | _ => False
noncomputable def raw15 : List AV → List AV
  | [.a v0, .i v1, .a v2, .i v3] => [.b ((hidF smL) v0 v1 v2 v3)]
  | _ => []

def VH15 : Prop :=
  ∀ (v0 : Int → Nat → Int) (v1 : Int) (v2 : Int → Nat → Int) (v3 : Int),
  (True) →
  (0 ≤ v1 →
  (0 ≤ v3 →
  (v1 ≤ 9223372036854775807 →
  (v3 ≤ 9223372036854775807 →
  (¬ (v1 = v3) →
    (False ↔ (hidF smL) v0 v1 v2 v3 = true) ∧ True) ∧
  (¬ (¬ (v1 = v3)) →
    ∃ (I0 : (Int) → Prop) (μ0 : (Int) → Nat), I0 (0 : Int) ∧ (∀ (v4 : Int), I0 v4 →
      (v4 < v1 →
        0 ≤ v4 ∧ (0 ≤ v4 →
        v4 < v3 ∧ (v4 < v3 →
        (¬ (((v0 v4 0) = (v2 v4 0) ∧ ((v0 v4 1) = (v2 v4 1) ∧ ((v0 v4 2) = (v2 v4 2) ∧ (v0 v4 3) = (v2 v4 3))))) →
          (False ↔ (hidF smL) v0 v1 v2 v3 = true) ∧ True) ∧
        (¬ (¬ (((v0 v4 0) = (v2 v4 0) ∧ ((v0 v4 1) = (v2 v4 1) ∧ ((v0 v4 2) = (v2 v4 2) ∧ (v0 v4 3) = (v2 v4 3)))))) →
          (-9223372036854775808 ≤ (v4 + 1) ∧ (v4 + 1) ≤ 9223372036854775807) ∧ ((-9223372036854775808 ≤ (v4 + 1) ∧ (v4 + 1) ≤ 9223372036854775807) →
          I0 (v4 + 1) ∧ μ0 (v4 + 1) < μ0 v4))))) ∧
      (¬ (v4 < v1) →
        (True ↔ (hidF smL) v0 v1 v2 v3 = true) ∧ True)))))))
def VC15 : Prop :=
  ∀ (v0 : Int → Nat → Int) (v1 : Int) (v2 : Int → Nat → Int) (v3 : Int),
  (True) →
  (0 ≤ v1 →
  (0 ≤ v3 →
  (v1 ≤ 9223372036854775807 →
  (v3 ≤ 9223372036854775807 →
  (¬ (v1 = v3) →
    (False ↔ smL v0 v1 v2 v3 = true) ∧ True) ∧
  (¬ (¬ (v1 = v3)) →
    ∃ (I0 : (Int) → Prop) (μ0 : (Int) → Nat), I0 (0 : Int) ∧ (∀ (v4 : Int), I0 v4 →
      (v4 < v1 →
        0 ≤ v4 ∧ (0 ≤ v4 →
        v4 < v3 ∧ (v4 < v3 →
        (¬ (((v0 v4 0) = (v2 v4 0) ∧ ((v0 v4 1) = (v2 v4 1) ∧ ((v0 v4 2) = (v2 v4 2) ∧ (v0 v4 3) = (v2 v4 3))))) →
          (False ↔ smL v0 v1 v2 v3 = true) ∧ True) ∧
        (¬ (¬ (((v0 v4 0) = (v2 v4 0) ∧ ((v0 v4 1) = (v2 v4 1) ∧ ((v0 v4 2) = (v2 v4 2) ∧ (v0 v4 3) = (v2 v4 3)))))) →
          (-9223372036854775808 ≤ (v4 + 1) ∧ (v4 + 1) ≤ 9223372036854775807) ∧ ((-9223372036854775808 ≤ (v4 + 1) ∧ (v4 + 1) ≤ 9223372036854775807) →
          I0 (v4 + 1) ∧ μ0 (v4 + 1) < μ0 v4))))) ∧
      (¬ (v4 < v1) →
        (True ↔ smL v0 v1 v2 v3 = true) ∧ True)))))))
theorem vh15 (h : VC15) : VH15 := by
  unfold VH15
  rw [hidF_eq smL]
  exact h
/-! hotspotref11.Great -/
def sig10 : CSig := ⟨[⟨true, [.slc [.int .i64, .int .i64, .int .i64, .int .i64], .mat [.int .i64]]⟩, ⟨false, [.slc [.int .i64, .int .i64, .int .i64, .int .i64]]⟩], [⟨false, [.bool]⟩]⟩
def pre10 : List AV → Prop
  | [.a v0, .i v1, .m v2l v2f, .i v3, .a v4, .i v5] => True
  | _ => False
noncomputable def raw10 : List AV → List AV
  | [.a v0, .i v1, .m v2l v2f, .i v3, .a v4, .i v5] => [.b ((hidF gr1) v1 v2l v3 v5)]
  | _ => []

def VH10 : Prop :=
  ∀ (v0 : Int → Nat → Int) (v1 : Int) (v2l : Int → Int) (v2f : Int → Int → Nat → Int) (v3 : Int) (v4 : Int → Nat → Int) (v5 : Int),
  (True) →
  (0 ≤ v1 →
  (0 ≤ v3 →
  (0 ≤ v5 →
  (True) ∧ (∀ (v6 : Bool), v6 = (hidF grW) v1 v2l v3 → 
  (v1 ≤ 9223372036854775807 →
  (v3 ≤ 9223372036854775807 →
  (v5 ≤ 9223372036854775807 →
  ((v6 = true ∨ 80 < v5) ↔ (hidF gr1) v1 v2l v3 v5 = true) ∧ True)))))))
def VC10 : Prop :=
  ∀ (v0 : Int → Nat → Int) (v1 : Int) (v2l : Int → Int) (v2f : Int → Int → Nat → Int) (v3 : Int) (v4 : Int → Nat → Int) (v5 : Int),
  (True) →
  (0 ≤ v1 →
  (0 ≤ v3 →
  (0 ≤ v5 →
  (True) ∧ (∀ (v6 : Bool), v6 = grW v1 v2l v3 → 
  (v1 ≤ 9223372036854775807 →
  (v3 ≤ 9223372036854775807 →
  (v5 ≤ 9223372036854775807 →
  ((v6 = true ∨ 80 < v5) ↔ gr1 v1 v2l v3 v5 = true) ∧ True)))))))
theorem vh10 (h : VC10) : VH10 := by
  unfold VH10
  rw [hidF_eq gr1, hidF_eq grW]
  exact h
end Go.Proofs.Ytgdjdaoglkfjdaa
