/- What the functions do, and what is left to show of each. -/
import Derived.Test.YtiiebpfifkaleaaW
import Derived.Test.YtiiebpfifkaleaaD3
set_option linter.unusedVariables false
namespace Go.Proofs.Ytiiebpfifkaleaa
open Go Go.RowKit Go.Proofs.Ytiiebpfifkaleaa.Vc
/-- a function that the kernel does not open -/
noncomputable def hideS {α : Type} (x : α) : {y : α // y = x} := Classical.choice ⟨⟨x, rfl⟩⟩
noncomputable def hidF {α : Type} (x : α) : α := (hideS x).1
theorem hidF_eq {α : Type} (x : α) : hidF x = x := (hideS x).2
/-! radio.Distance -/
def sig11 : CSig := ⟨[⟨false, [.int .i64]⟩, ⟨false, [.int .i64]⟩, ⟨false, [.int .i64]⟩, ⟨false, [.int .i64]⟩], [⟨false, [.int .i64]⟩, ⟨false, [.int .i64]⟩]⟩
def pre11 : List AV → Prop
  | [.i v0, .i v1, .i v2, .i v3] => True
  | _ => False
noncomputable def raw11 : List AV → List AV
  | [.i v0, .i v1, .i v2, .i v3] => [.i ((hidF dist) v0 v1 v2 v3), .i ((hidF diste) v0 v1 v2 v3)]
  | _ => []
/-! radio.Loss -/
def sig13 : CSig := ⟨[⟨false, [.int .i64]⟩], [⟨false, [.int .i64]⟩, ⟨false, [.int .i64]⟩]⟩
def pre13 : List AV → Prop
  | [.i v0] => True
  | _ => False
noncomputable def raw13 : List AV → List AV
  | [.i v0] => [.i ((hidF lossv) v0), .i ((hidF losse) v0)]
  | _ => []
/-! radio.within -/
def sig36 : CSig := ⟨[⟨false, [.int .i64]⟩, ⟨false, [.int .i64]⟩, ⟨false, [.int .i64]⟩], [⟨false, [.bool]⟩]⟩
def pre36 : List AV → Prop
  | [.i v0, .i v1, .i v2] => True
  | _ => False
noncomputable def raw36 : List AV → List AV
  | [.i v0, .i v1, .i v2] => [.b ((hidF inB) v0 v1 v2)]
  | _ => []

def VH36 : Prop :=
  ∀ (v0 : Int) (v1 : Int) (v2 : Int),
  (True) →
  ((v1 ≤ v0 ∧ v0 ≤ v2) ↔ (hidF inB) v0 v1 v2 = true) ∧ True
def VC36 : Prop :=
  ∀ (v0 : Int) (v1 : Int) (v2 : Int),
  (True) →
  ((v1 ≤ v0 ∧ v0 ≤ v2) ↔ inB v0 v1 v2 = true) ∧ True
theorem vh36 (h : VC36) : VH36 := by
  unfold VH36
  rw [hidF_eq inB]
  exact h
/-! radio.valid -/
def sig54 : CSig := ⟨[⟨true, [.int .i64, .int .i64, .int .i64, .int .i64]⟩], [⟨false, [.bool]⟩]⟩
def pre54 : List AV → Prop
  | [.i v0, .i v1, .i v2, .i v3] => True
  | _ => False
noncomputable def raw54 : List AV → List AV
  | [.i v0, .i v1, .i v2, .i v3] => [.b ((hidF okW) v0 v1 v2 v3)]
  | _ => []

def VH54 : Prop :=
  ∀ (v0 : Int) (v1 : Int) (v2 : Int) (v3 : Int),
  (True) →
  (True) ∧ (∀ (v4 : Bool), v4 = (hidF inB) v0 (-10000 : Int) (10000 : Int) → 
  ((v4 = true → True)) ∧ (∀ (v5 : Bool), v5 = (hidF inB) v1 (-10000 : Int) (10000 : Int) → 
  (((v4 = true ∧ v5 = true) → True)) ∧ (∀ (v6 : Bool), v6 = (hidF inB) v2 (0 : Int) (300 : Int) → 
  ((((v4 = true ∧ v5 = true) ∧ v6 = true) → True)) ∧ (∀ (v7 : Bool), v7 = (hidF inB) v3 (1 : Int) (64 : Int) → 
  ((((v4 = true ∧ v5 = true) ∧ v6 = true) ∧ v7 = true) ↔ (hidF okW) v0 v1 v2 v3 = true) ∧ True))))
def VC54 : Prop :=
  ∀ (v0 : Int) (v1 : Int) (v2 : Int) (v3 : Int),
  (True) →
  (True) ∧ (∀ (v4 : Bool), v4 = inB v0 (-10000 : Int) (10000 : Int) → 
  ((v4 = true → True)) ∧ (∀ (v5 : Bool), v5 = inB v1 (-10000 : Int) (10000 : Int) → 
  (((v4 = true ∧ v5 = true) → True)) ∧ (∀ (v6 : Bool), v6 = inB v2 (0 : Int) (300 : Int) → 
  ((((v4 = true ∧ v5 = true) ∧ v6 = true) → True)) ∧ (∀ (v7 : Bool), v7 = inB v3 (1 : Int) (64 : Int) → 
  ((((v4 = true ∧ v5 = true) ∧ v6 = true) ∧ v7 = true) ↔ okW v0 v1 v2 v3 = true) ∧ True))))
theorem vh54 (h : VC54) : VH54 := by
  unfold VH54
  rw [hidF_eq inB, hidF_eq okW]
  exact h
/-! radio.Check -/
def sig30 : CSig := ⟨[⟨true, [.slc [.int .i64, .int .i64, .int .i64, .int .i64], .mat [.int .i64]]⟩], [⟨false, [.int .i64]⟩]⟩
def pre30 : List AV → Prop
  | [.a v0, .i v1, .m v2l v2f, .i v3] => True
  | _ => False
noncomputable def raw30 : List AV → List AV
  | [.a v0, .i v1, .m v2l v2f, .i v3] => [.i ((hidF ckW) v0 v1 v2l v2f v3)]
  | _ => []

def VH30 : Prop :=
  ∀ (v0 : Int → Nat → Int) (v1 : Int) (v2l : Int → Int) (v2f : Int → Int → Nat → Int) (v3 : Int),
  (True) →
  (0 ≤ v1 →
  (0 ≤ v3 →
  (v1 ≤ 9223372036854775807 →
  (v3 ≤ 9223372036854775807 →
  (((v1 < 1 ∨ 32 < v1) ∨ (¬ (v3 = 0) ∧ ¬ (v3 = v1))) →
    (8 : Int) = (hidF ckW) v0 v1 v2l v2f v3 ∧ True) ∧
  (¬ (((v1 < 1 ∨ 32 < v1) ∨ (¬ (v3 = 0) ∧ ¬ (v3 = v1)))) →
    ∃ (I0 : (Int) → Prop) (μ0 : (Int) → Nat), I0 (0 : Int) ∧ (∀ (v4 : Int), I0 v4 →
      (v4 < v1 →
        0 ≤ v4 ∧ (0 ≤ v4 →
        (True) ∧ (∀ (v5 : Bool), v5 = (hidF okW) (v0 v4 0) (v0 v4 1) (v0 v4 2) (v0 v4 3) → 
        (¬ (v5 = true) →
          (8 : Int) = (hidF ckW) v0 v1 v2l v2f v3 ∧ True) ∧
        (¬ (¬ (v5 = true)) →
          (-9223372036854775808 ≤ (v4 + 1) ∧ (v4 + 1) ≤ 9223372036854775807) ∧ ((-9223372036854775808 ≤ (v4 + 1) ∧ (v4 + 1) ≤ 9223372036854775807) →
          I0 (v4 + 1) ∧ μ0 (v4 + 1) < μ0 v4))))) ∧
      (¬ (v4 < v1) →
        ∃ (I1 : (Int) → Prop) (μ1 : (Int) → Nat), I1 (0 : Int) ∧ (∀ (v5 : Int), I1 v5 →
          (v5 < v3 →
            0 ≤ v5 ∧ (0 ≤ v5 →
            (¬ ((v2l v5) = v1) ∨ v5 < (v2l v5)) ∧ ((¬ ((v2l v5) = v1) ∨ v5 < (v2l v5)) →
            (¬ ((v2l v5) = v1) ∨ v5 < (v2l v5)) ∧ ((¬ ((v2l v5) = v1) ∨ v5 < (v2l v5)) →
            (¬ ((¬ ((v2l v5) = v1) ∨ ¬ (((rowA v2f v5) v5 0) = 0))) →
              ∃ (I2 : (Int) → Prop) (μ2 : (Int) → Nat), I2 (0 : Int) ∧ (∀ (v6 : Int), I2 v6 →
                (0 ≤ (v2l v5) →
                ((v2l v5) ≤ 9223372036854775807 →
                (v6 < (v2l v5) →
                  0 ≤ v6 ∧ (0 ≤ v6 →
                  (True) ∧ (∀ (v7 : Bool), v7 = (hidF inB) ((rowA v2f v5) v6 0) (0 : Int) (600 : Int) → 
                  (¬ (v7 = true) →
                    (8 : Int) = (hidF ckW) v0 v1 v2l v2f v3 ∧ True) ∧
                  (¬ (¬ (v7 = true)) →
                    (-9223372036854775808 ≤ (v6 + 1) ∧ (v6 + 1) ≤ 9223372036854775807) ∧ ((-9223372036854775808 ≤ (v6 + 1) ∧ (v6 + 1) ≤ 9223372036854775807) →
                    I2 (v6 + 1) ∧ μ2 (v6 + 1) < μ2 v6))))) ∧
                (¬ (v6 < (v2l v5)) →
                  (-9223372036854775808 ≤ (v5 + 1) ∧ (v5 + 1) ≤ 9223372036854775807) ∧ ((-9223372036854775808 ≤ (v5 + 1) ∧ (v5 + 1) ≤ 9223372036854775807) →
                  I1 (v5 + 1) ∧ μ1 (v5 + 1) < μ1 v5)))))) ∧
            (¬ (¬ ((¬ ((v2l v5) = v1) ∨ ¬ (((rowA v2f v5) v5 0) = 0)))) →
              (8 : Int) = (hidF ckW) v0 v1 v2l v2f v3 ∧ True))))) ∧
          (¬ (v5 < v3) →
            (0 : Int) = (hidF ckW) v0 v1 v2l v2f v3 ∧ True)))))))))
def VC30 : Prop :=
  ∀ (v0 : Int → Nat → Int) (v1 : Int) (v2l : Int → Int) (v2f : Int → Int → Nat → Int) (v3 : Int),
  (True) →
  (0 ≤ v1 →
  (0 ≤ v3 →
  (v1 ≤ 9223372036854775807 →
  (v3 ≤ 9223372036854775807 →
  (((v1 < 1 ∨ 32 < v1) ∨ (¬ (v3 = 0) ∧ ¬ (v3 = v1))) →
    (8 : Int) = ckW v0 v1 v2l v2f v3 ∧ True) ∧
  (¬ (((v1 < 1 ∨ 32 < v1) ∨ (¬ (v3 = 0) ∧ ¬ (v3 = v1)))) →
    ∃ (I0 : (Int) → Prop) (μ0 : (Int) → Nat), I0 (0 : Int) ∧ (∀ (v4 : Int), I0 v4 →
      (v4 < v1 →
        0 ≤ v4 ∧ (0 ≤ v4 →
        (True) ∧ (∀ (v5 : Bool), v5 = okW (v0 v4 0) (v0 v4 1) (v0 v4 2) (v0 v4 3) → 
        (¬ (v5 = true) →
          (8 : Int) = ckW v0 v1 v2l v2f v3 ∧ True) ∧
        (¬ (¬ (v5 = true)) →
          (-9223372036854775808 ≤ (v4 + 1) ∧ (v4 + 1) ≤ 9223372036854775807) ∧ ((-9223372036854775808 ≤ (v4 + 1) ∧ (v4 + 1) ≤ 9223372036854775807) →
          I0 (v4 + 1) ∧ μ0 (v4 + 1) < μ0 v4))))) ∧
      (¬ (v4 < v1) →
        ∃ (I1 : (Int) → Prop) (μ1 : (Int) → Nat), I1 (0 : Int) ∧ (∀ (v5 : Int), I1 v5 →
          (v5 < v3 →
            0 ≤ v5 ∧ (0 ≤ v5 →
            (¬ ((v2l v5) = v1) ∨ v5 < (v2l v5)) ∧ ((¬ ((v2l v5) = v1) ∨ v5 < (v2l v5)) →
            (¬ ((v2l v5) = v1) ∨ v5 < (v2l v5)) ∧ ((¬ ((v2l v5) = v1) ∨ v5 < (v2l v5)) →
            (¬ ((¬ ((v2l v5) = v1) ∨ ¬ (((rowA v2f v5) v5 0) = 0))) →
              ∃ (I2 : (Int) → Prop) (μ2 : (Int) → Nat), I2 (0 : Int) ∧ (∀ (v6 : Int), I2 v6 →
                (0 ≤ (v2l v5) →
                ((v2l v5) ≤ 9223372036854775807 →
                (v6 < (v2l v5) →
                  0 ≤ v6 ∧ (0 ≤ v6 →
                  (True) ∧ (∀ (v7 : Bool), v7 = inB ((rowA v2f v5) v6 0) (0 : Int) (600 : Int) → 
                  (¬ (v7 = true) →
                    (8 : Int) = ckW v0 v1 v2l v2f v3 ∧ True) ∧
                  (¬ (¬ (v7 = true)) →
                    (-9223372036854775808 ≤ (v6 + 1) ∧ (v6 + 1) ≤ 9223372036854775807) ∧ ((-9223372036854775808 ≤ (v6 + 1) ∧ (v6 + 1) ≤ 9223372036854775807) →
                    I2 (v6 + 1) ∧ μ2 (v6 + 1) < μ2 v6))))) ∧
                (¬ (v6 < (v2l v5)) →
                  (-9223372036854775808 ≤ (v5 + 1) ∧ (v5 + 1) ≤ 9223372036854775807) ∧ ((-9223372036854775808 ≤ (v5 + 1) ∧ (v5 + 1) ≤ 9223372036854775807) →
                  I1 (v5 + 1) ∧ μ1 (v5 + 1) < μ1 v5)))))) ∧
            (¬ (¬ ((¬ ((v2l v5) = v1) ∨ ¬ (((rowA v2f v5) v5 0) = 0)))) →
              (8 : Int) = ckW v0 v1 v2l v2f v3 ∧ True))))) ∧
          (¬ (v5 < v3) →
            (0 : Int) = ckW v0 v1 v2l v2f v3 ∧ True)))))))))
theorem vh30 (h : VC30) : VH30 := by
  unfold VH30
  rw [hidF_eq ckW, hidF_eq inB, hidF_eq okW]
  exact h
/-! radio.nodes -/
def sig62 : CSig := ⟨[⟨true, [.slc [.int .i64, .int .i64, .int .i64, .int .i64], .mat [.int .i64]]⟩, ⟨false, [.slc [.int .i64]]⟩], [⟨false, [.bool]⟩]⟩
def pre62 : List AV → Prop
  | [.a v0, .i v1, .m v2l v2f, .i v3, .a v4, .i v5] => v5 ≤ 4
  | _ => False
noncomputable def raw62 : List AV → List AV
  | [.a v0, .i v1, .m v2l v2f, .i v3, .a v4, .i v5] => [.b (allI (fun t => decide (0 ≤ v4 t 0 ∧ v4 t 0 < v1)) v5)]
  | _ => []

def VH62 : Prop :=
  ∀ (v0 : Int → Nat → Int) (v1 : Int) (v2l : Int → Int) (v2f : Int → Int → Nat → Int) (v3 : Int) (v4 : Int → Nat → Int) (v5 : Int),
  (v5 ≤ 4) →
  (0 ≤ v1 →
  (0 ≤ v3 →
  (0 ≤ v5 →
  ∃ (I0 : (Int) → Prop) (μ0 : (Int) → Nat), I0 (0 : Int) ∧ (∀ (v6 : Int), I0 v6 →
    (v1 ≤ 9223372036854775807 →
    (v3 ≤ 9223372036854775807 →
    (v5 ≤ 9223372036854775807 →
    (v6 < v5 →
      0 ≤ v6 ∧ (0 ≤ v6 →
      (-9223372036854775808 ≤ (v1 - 1) ∧ (v1 - 1) ≤ 9223372036854775807) ∧ ((-9223372036854775808 ≤ (v1 - 1) ∧ (v1 - 1) ≤ 9223372036854775807) →
      (True) ∧ (∀ (v7 : Bool), v7 = (hidF inB) (v4 v6 0) (0 : Int) (v1 - 1) → 
      (¬ (v7 = true) →
        (¬ (0 ≤ v6) ↔ allI (fun t => decide (0 ≤ v4 t 0 ∧ v4 t 0 < v1)) v5 = true) ∧ True) ∧
      (¬ (¬ (v7 = true)) →
        (-9223372036854775808 ≤ (v6 + 1) ∧ (v6 + 1) ≤ 9223372036854775807) ∧ ((-9223372036854775808 ≤ (v6 + 1) ∧ (v6 + 1) ≤ 9223372036854775807) →
        I0 (v6 + 1) ∧ μ0 (v6 + 1) < μ0 v6)))))) ∧
    (¬ (v6 < v5) →
      (True ↔ allI (fun t => decide (0 ≤ v4 t 0 ∧ v4 t 0 < v1)) v5 = true) ∧ True))))))))
def VC62 : Prop :=
  ∀ (v0 : Int → Nat → Int) (v1 : Int) (v2l : Int → Int) (v2f : Int → Int → Nat → Int) (v3 : Int) (v4 : Int → Nat → Int) (v5 : Int),
  (v5 ≤ 4) →
  (0 ≤ v1 →
  (0 ≤ v3 →
  (0 ≤ v5 →
  ∃ (I0 : (Int) → Prop) (μ0 : (Int) → Nat), I0 (0 : Int) ∧ (∀ (v6 : Int), I0 v6 →
    (v1 ≤ 9223372036854775807 →
    (v3 ≤ 9223372036854775807 →
    (v5 ≤ 9223372036854775807 →
    (v6 < v5 →
      0 ≤ v6 ∧ (0 ≤ v6 →
      (-9223372036854775808 ≤ (v1 - 1) ∧ (v1 - 1) ≤ 9223372036854775807) ∧ ((-9223372036854775808 ≤ (v1 - 1) ∧ (v1 - 1) ≤ 9223372036854775807) →
      (True) ∧ (∀ (v7 : Bool), v7 = inB (v4 v6 0) (0 : Int) (v1 - 1) → 
      (¬ (v7 = true) →
        (¬ (0 ≤ v6) ↔ allI (fun t => decide (0 ≤ v4 t 0 ∧ v4 t 0 < v1)) v5 = true) ∧ True) ∧
      (¬ (¬ (v7 = true)) →
        (-9223372036854775808 ≤ (v6 + 1) ∧ (v6 + 1) ≤ 9223372036854775807) ∧ ((-9223372036854775808 ≤ (v6 + 1) ∧ (v6 + 1) ≤ 9223372036854775807) →
        I0 (v6 + 1) ∧ μ0 (v6 + 1) < μ0 v6)))))) ∧
    (¬ (v6 < v5) →
      (True ↔ allI (fun t => decide (0 ≤ v4 t 0 ∧ v4 t 0 < v1)) v5 = true) ∧ True))))))))
theorem vh62 (h : VC62) : VH62 := by
  unfold VH62
  rw [hidF_eq inB]
  exact h
/-! radio.level -/
def sig48 : CSig := ⟨[⟨true, [.slc [.int .i64, .int .i64, .int .i64, .int .i64], .mat [.int .i64]]⟩, ⟨false, [.int .i64]⟩, ⟨false, [.int .i64]⟩], [⟨false, [.int .i64]⟩]⟩
def pre48 : List AV → Prop
  | [.a v0, .i v1, .m v2l v2f, .i v3, .i v4, .i v5] => ckW v0 v1 v2l v2f v3 = 0 ∧ 0 ≤ v4 ∧ v4 < v1 ∧ 0 ≤ v5 ∧ v5 < v1
  | _ => False
noncomputable def raw48 : List AV → List AV
  | [.a v0, .i v1, .m v2l v2f, .i v3, .i v4, .i v5] => [.i ((hidF lvA) v0 v2f v3 v4 v5)]
  | _ => []

def VH48 : Prop :=
  ∀ (v0 : Int → Nat → Int) (v1 : Int) (v2l : Int → Int) (v2f : Int → Int → Nat → Int) (v3 : Int) (v4 : Int) (v5 : Int),
  (ckW v0 v1 v2l v2f v3 = 0 ∧ 0 ≤ v4 ∧ v4 < v1 ∧ 0 ≤ v5 ∧ v5 < v1) →
  (0 ≤ v1 →
  (0 ≤ v3 →
  0 ≤ v4 ∧ (0 ≤ v4 →
  v4 < v1 ∧ (v4 < v1 →
  0 ≤ v5 ∧ (0 ≤ v5 →
  v5 < v1 ∧ (v5 < v1 →
  (v1 ≤ 9223372036854775807 →
  (v3 ≤ 9223372036854775807 →
  (True) ∧ (∀ (v6 : Int) (v7 : Int), v6 = (hidF dist) (v0 v4 0) (v0 v4 1) (v0 v5 0) (v0 v5 1) → v7 = (hidF diste) (v0 v4 0) (v0 v4 1) (v0 v5 0) (v0 v5 1) → 
  (True) ∧ (∀ (v8 : Int) (v9 : Int), v8 = (hidF lossv) v6 → v9 = (hidF losse) v6 → 
  (0 < v3 →
    v4 < v3 ∧ (v4 < v3 →
    v5 < (v2l v4) ∧ (v5 < (v2l v4) →
    (-9223372036854775808 ≤ (v8 + ((rowA v2f v4) v5 0)) ∧ (v8 + ((rowA v2f v4) v5 0)) ≤ 9223372036854775807) ∧ ((-9223372036854775808 ≤ (v8 + ((rowA v2f v4) v5 0)) ∧ (v8 + ((rowA v2f v4) v5 0)) ≤ 9223372036854775807) →
    (-9223372036854775808 ≤ ((v0 v4 2) - (v8 + ((rowA v2f v4) v5 0))) ∧ ((v0 v4 2) - (v8 + ((rowA v2f v4) v5 0))) ≤ 9223372036854775807) ∧ ((-9223372036854775808 ≤ ((v0 v4 2) - (v8 + ((rowA v2f v4) v5 0))) ∧ ((v0 v4 2) - (v8 + ((rowA v2f v4) v5 0))) ≤ 9223372036854775807) →
    ((v0 v4 2) - (v8 + ((rowA v2f v4) v5 0))) = (hidF lvA) v0 v2f v3 v4 v5 ∧ True))))) ∧
  (¬ (0 < v3) →
    (-9223372036854775808 ≤ ((v0 v4 2) - v8) ∧ ((v0 v4 2) - v8) ≤ 9223372036854775807) ∧ ((-9223372036854775808 ≤ ((v0 v4 2) - v8) ∧ ((v0 v4 2) - v8) ≤ 9223372036854775807) →
    ((v0 v4 2) - v8) = (hidF lvA) v0 v2f v3 v4 v5 ∧ True))))))))))))
def VC48 : Prop :=
  ∀ (v0 : Int → Nat → Int) (v1 : Int) (v2l : Int → Int) (v2f : Int → Int → Nat → Int) (v3 : Int) (v4 : Int) (v5 : Int),
  (ckW v0 v1 v2l v2f v3 = 0 ∧ 0 ≤ v4 ∧ v4 < v1 ∧ 0 ≤ v5 ∧ v5 < v1) →
  (0 ≤ v1 →
  (0 ≤ v3 →
  0 ≤ v4 ∧ (0 ≤ v4 →
  v4 < v1 ∧ (v4 < v1 →
  0 ≤ v5 ∧ (0 ≤ v5 →
  v5 < v1 ∧ (v5 < v1 →
  (v1 ≤ 9223372036854775807 →
  (v3 ≤ 9223372036854775807 →
  (True) ∧ (∀ (v6 : Int) (v7 : Int), v6 = dist (v0 v4 0) (v0 v4 1) (v0 v5 0) (v0 v5 1) → v7 = diste (v0 v4 0) (v0 v4 1) (v0 v5 0) (v0 v5 1) → 
  (True) ∧ (∀ (v8 : Int) (v9 : Int), v8 = lossv v6 → v9 = losse v6 → 
  (0 < v3 →
    v4 < v3 ∧ (v4 < v3 →
    v5 < (v2l v4) ∧ (v5 < (v2l v4) →
    (-9223372036854775808 ≤ (v8 + ((rowA v2f v4) v5 0)) ∧ (v8 + ((rowA v2f v4) v5 0)) ≤ 9223372036854775807) ∧ ((-9223372036854775808 ≤ (v8 + ((rowA v2f v4) v5 0)) ∧ (v8 + ((rowA v2f v4) v5 0)) ≤ 9223372036854775807) →
    (-9223372036854775808 ≤ ((v0 v4 2) - (v8 + ((rowA v2f v4) v5 0))) ∧ ((v0 v4 2) - (v8 + ((rowA v2f v4) v5 0))) ≤ 9223372036854775807) ∧ ((-9223372036854775808 ≤ ((v0 v4 2) - (v8 + ((rowA v2f v4) v5 0))) ∧ ((v0 v4 2) - (v8 + ((rowA v2f v4) v5 0))) ≤ 9223372036854775807) →
    ((v0 v4 2) - (v8 + ((rowA v2f v4) v5 0))) = lvA v0 v2f v3 v4 v5 ∧ True))))) ∧
  (¬ (0 < v3) →
    (-9223372036854775808 ≤ ((v0 v4 2) - v8) ∧ ((v0 v4 2) - v8) ≤ 9223372036854775807) ∧ ((-9223372036854775808 ≤ ((v0 v4 2) - v8) ∧ ((v0 v4 2) - v8) ≤ 9223372036854775807) →
    ((v0 v4 2) - v8) = lvA v0 v2f v3 v4 v5 ∧ True))))))))))))
theorem vh48 (h : VC48) : VH48 := by
  unfold VH48
  rw [hidF_eq dist, hidF_eq diste, hidF_eq losse, hidF_eq lossv, hidF_eq lvA]
  exact h
/-! radio.asked -/
def sig47 : CSig := ⟨[⟨true, [.slc [.int .i64, .int .i64, .int .i64, .int .i64], .mat [.int .i64]]⟩, ⟨false, [.slc [.int .i64]]⟩], [⟨false, [.int .i64]⟩]⟩
def pre47 : List AV → Prop
  | [.a v0, .i v1, .m v2l v2f, .i v3, .a v4, .i v5] => v5 ≤ 4
  | _ => False
noncomputable def raw47 : List AV → List AV
  | [.a v0, .i v1, .m v2l v2f, .i v3, .a v4, .i v5] => [.i ((hidF asW) v0 v1 v2l v2f v3 v4 v5)]
  | _ => []

def VH47 : Prop :=
  ∀ (v0 : Int → Nat → Int) (v1 : Int) (v2l : Int → Int) (v2f : Int → Int → Nat → Int) (v3 : Int) (v4 : Int → Nat → Int) (v5 : Int),
  (v5 ≤ 4) →
  (0 ≤ v1 →
  (0 ≤ v3 →
  (0 ≤ v5 →
  (True) ∧ (∀ (v6 : Int), v6 = (hidF ckW) v0 v1 v2l v2f v3 → 
  (v1 ≤ 9223372036854775807 →
  (v3 ≤ 9223372036854775807 →
  (v5 ≤ 9223372036854775807 →
  (¬ (v6 = 0) →
    v6 = (hidF asW) v0 v1 v2l v2f v3 v4 v5 ∧ True) ∧
  (¬ (¬ (v6 = 0)) →
    (v5 ≤ 4) ∧ (∀ (v7 : Bool), v7 = allI (fun t => decide (0 ≤ v4 t 0 ∧ v4 t 0 < v1)) v5 → 
    (¬ (v7 = true) →
      (2 : Int) = (hidF asW) v0 v1 v2l v2f v3 v4 v5 ∧ True) ∧
    (¬ (¬ (v7 = true)) →
      (0 : Int) = (hidF asW) v0 v1 v2l v2f v3 v4 v5 ∧ True))))))))))
def VC47 : Prop :=
  ∀ (v0 : Int → Nat → Int) (v1 : Int) (v2l : Int → Int) (v2f : Int → Int → Nat → Int) (v3 : Int) (v4 : Int → Nat → Int) (v5 : Int),
  (v5 ≤ 4) →
  (0 ≤ v1 →
  (0 ≤ v3 →
  (0 ≤ v5 →
  (True) ∧ (∀ (v6 : Int), v6 = ckW v0 v1 v2l v2f v3 → 
  (v1 ≤ 9223372036854775807 →
  (v3 ≤ 9223372036854775807 →
  (v5 ≤ 9223372036854775807 →
  (¬ (v6 = 0) →
    v6 = asW v0 v1 v2l v2f v3 v4 v5 ∧ True) ∧
  (¬ (¬ (v6 = 0)) →
    (v5 ≤ 4) ∧ (∀ (v7 : Bool), v7 = allI (fun t => decide (0 ≤ v4 t 0 ∧ v4 t 0 < v1)) v5 → 
    (¬ (v7 = true) →
      (2 : Int) = asW v0 v1 v2l v2f v3 v4 v5 ∧ True) ∧
    (¬ (¬ (v7 = true)) →
      (0 : Int) = asW v0 v1 v2l v2f v3 v4 v5 ∧ True))))))))))
theorem vh47 (h : VC47) : VH47 := by
  unfold VH47
  rw [hidF_eq asW, hidF_eq ckW]
  exact h
/-! radio.Level -/
def sig23 : CSig := ⟨[⟨true, [.slc [.int .i64, .int .i64, .int .i64, .int .i64], .mat [.int .i64]]⟩, ⟨false, [.int .i64]⟩, ⟨false, [.int .i64]⟩], [⟨false, [.int .i64]⟩, ⟨false, [.int .i64]⟩]⟩
def pre23 : List AV → Prop
  | [.a v0, .i v1, .m v2l v2f, .i v3, .i v4, .i v5] => True
  | _ => False
noncomputable def raw23 : List AV → List AV
  | [.a v0, .i v1, .m v2l v2f, .i v3, .i v4, .i v5] => [.i ((hidF lvV) v0 v1 v2l v2f v3 v4 v5), .i ((hidF lvE) v0 v1 v2l v2f v3 v4 v5)]
  | _ => []

def VH23 : Prop :=
  ∀ (v0 : Int → Nat → Int) (v1 : Int) (v2l : Int → Int) (v2f : Int → Int → Nat → Int) (v3 : Int) (v4 : Int) (v5 : Int),
  (True) →
  (0 ≤ v1 →
  (0 ≤ v3 →
  ((2 : Int) ≤ 4) ∧ (∀ (v6 : Int), v6 = (hidF asW) v0 v1 v2l v2f v3 (setA (setA zA 0 0 v4) 1 0 v5) (2 : Int) → 
  (v1 ≤ 9223372036854775807 →
  (v3 ≤ 9223372036854775807 →
  (¬ (v6 = 0) →
    (0 : Int) = (hidF lvV) v0 v1 v2l v2f v3 v4 v5 ∧ v6 = (hidF lvE) v0 v1 v2l v2f v3 v4 v5 ∧ True) ∧
  (¬ (¬ (v6 = 0)) →
    (ckW v0 v1 v2l v2f v3 = 0 ∧ 0 ≤ v4 ∧ v4 < v1 ∧ 0 ≤ v5 ∧ v5 < v1) ∧ (∀ (v7 : Int), v7 = (hidF lvA) v0 v2f v3 v4 v5 → 
    v7 = (hidF lvV) v0 v1 v2l v2f v3 v4 v5 ∧ (0 : Int) = (hidF lvE) v0 v1 v2l v2f v3 v4 v5 ∧ True)))))))
def VC23 : Prop :=
  ∀ (v0 : Int → Nat → Int) (v1 : Int) (v2l : Int → Int) (v2f : Int → Int → Nat → Int) (v3 : Int) (v4 : Int) (v5 : Int),
  (True) →
  (0 ≤ v1 →
  (0 ≤ v3 →
  ((2 : Int) ≤ 4) ∧ (∀ (v6 : Int), v6 = asW v0 v1 v2l v2f v3 (setA (setA zA 0 0 v4) 1 0 v5) (2 : Int) → 
  (v1 ≤ 9223372036854775807 →
  (v3 ≤ 9223372036854775807 →
  (¬ (v6 = 0) →
    (0 : Int) = lvV v0 v1 v2l v2f v3 v4 v5 ∧ v6 = lvE v0 v1 v2l v2f v3 v4 v5 ∧ True) ∧
  (¬ (¬ (v6 = 0)) →
    (ckW v0 v1 v2l v2f v3 = 0 ∧ 0 ≤ v4 ∧ v4 < v1 ∧ 0 ≤ v5 ∧ v5 < v1) ∧ (∀ (v7 : Int), v7 = lvA v0 v2f v3 v4 v5 → 
    v7 = lvV v0 v1 v2l v2f v3 v4 v5 ∧ (0 : Int) = lvE v0 v1 v2l v2f v3 v4 v5 ∧ True)))))))
theorem vh23 (h : VC23) : VH23 := by
  unfold VH23
  rw [hidF_eq asW, hidF_eq lvA, hidF_eq lvE, hidF_eq lvV]
  exact h
/-! radio.hears -/
def sig49 : CSig := ⟨[⟨true, [.slc [.int .i64, .int .i64, .int .i64, .int .i64], .mat [.int .i64]]⟩, ⟨false, [.int .i64]⟩, ⟨false, [.int .i64]⟩], [⟨false, [.bool]⟩]⟩
def pre49 : List AV → Prop
  | [.a v0, .i v1, .m v2l v2f, .i v3, .i v4, .i v5] => ckW v0 v1 v2l v2f v3 = 0 ∧ 0 ≤ v4 ∧ v4 < v1 ∧ 0 ≤ v5 ∧ v5 < v1
  | _ => False
noncomputable def raw49 : List AV → List AV
  | [.a v0, .i v1, .m v2l v2f, .i v3, .i v4, .i v5] => [.b ((hidF hrA) v0 v2f v3 v4 v5)]
  | _ => []

def VH49 : Prop :=
  ∀ (v0 : Int → Nat → Int) (v1 : Int) (v2l : Int → Int) (v2f : Int → Int → Nat → Int) (v3 : Int) (v4 : Int) (v5 : Int),
  (ckW v0 v1 v2l v2f v3 = 0 ∧ 0 ≤ v4 ∧ v4 < v1 ∧ 0 ≤ v5 ∧ v5 < v1) →
  (0 ≤ v1 →
  (0 ≤ v3 →
  (v5 = v4 ∨ 0 ≤ v5) ∧ ((v5 = v4 ∨ 0 ≤ v5) →
  (v5 = v4 ∨ v5 < v1) ∧ ((v5 = v4 ∨ v5 < v1) →
  (v5 = v4 ∨ 0 ≤ v5) ∧ ((v5 = v4 ∨ 0 ≤ v5) →
  (v5 = v4 ∨ v5 < v1) ∧ ((v5 = v4 ∨ v5 < v1) →
  (v5 = v4 ∨ 0 ≤ v4) ∧ ((v5 = v4 ∨ 0 ≤ v4) →
  (v5 = v4 ∨ v4 < v1) ∧ ((v5 = v4 ∨ v4 < v1) →
  (v5 = v4 ∨ 0 ≤ v4) ∧ ((v5 = v4 ∨ 0 ≤ v4) →
  (v5 = v4 ∨ v4 < v1) ∧ ((v5 = v4 ∨ v4 < v1) →
  (((¬ (v5 = v4) ∧ (v0 v5 3) = (v0 v4 3)) → ckW v0 v1 v2l v2f v3 = 0 ∧ 0 ≤ v5 ∧ v5 < v1 ∧ 0 ≤ v4 ∧ v4 < v1)) ∧ (∀ (v6 : Int), v6 = (hidF lvA) v0 v2f v3 v5 v4 → 
  (v1 ≤ 9223372036854775807 →
  (v3 ≤ 9223372036854775807 →
  (((¬ (v5 = v4) ∧ (v0 v5 3) = (v0 v4 3)) ∧ (-820) ≤ v6) ↔ (hidF hrA) v0 v2f v3 v4 v5 = true) ∧ True)))))))))))))
def VC49 : Prop :=
  ∀ (v0 : Int → Nat → Int) (v1 : Int) (v2l : Int → Int) (v2f : Int → Int → Nat → Int) (v3 : Int) (v4 : Int) (v5 : Int),
  (ckW v0 v1 v2l v2f v3 = 0 ∧ 0 ≤ v4 ∧ v4 < v1 ∧ 0 ≤ v5 ∧ v5 < v1) →
  (0 ≤ v1 →
  (0 ≤ v3 →
  (v5 = v4 ∨ 0 ≤ v5) ∧ ((v5 = v4 ∨ 0 ≤ v5) →
  (v5 = v4 ∨ v5 < v1) ∧ ((v5 = v4 ∨ v5 < v1) →
  (v5 = v4 ∨ 0 ≤ v5) ∧ ((v5 = v4 ∨ 0 ≤ v5) →
  (v5 = v4 ∨ v5 < v1) ∧ ((v5 = v4 ∨ v5 < v1) →
  (v5 = v4 ∨ 0 ≤ v4) ∧ ((v5 = v4 ∨ 0 ≤ v4) →
  (v5 = v4 ∨ v4 < v1) ∧ ((v5 = v4 ∨ v4 < v1) →
  (v5 = v4 ∨ 0 ≤ v4) ∧ ((v5 = v4 ∨ 0 ≤ v4) →
  (v5 = v4 ∨ v4 < v1) ∧ ((v5 = v4 ∨ v4 < v1) →
  (((¬ (v5 = v4) ∧ (v0 v5 3) = (v0 v4 3)) → ckW v0 v1 v2l v2f v3 = 0 ∧ 0 ≤ v5 ∧ v5 < v1 ∧ 0 ≤ v4 ∧ v4 < v1)) ∧ (∀ (v6 : Int), v6 = lvA v0 v2f v3 v5 v4 → 
  (v1 ≤ 9223372036854775807 →
  (v3 ≤ 9223372036854775807 →
  (((¬ (v5 = v4) ∧ (v0 v5 3) = (v0 v4 3)) ∧ (-820) ≤ v6) ↔ hrA v0 v2f v3 v4 v5 = true) ∧ True)))))))))))))
theorem vh49 (h : VC49) : VH49 := by
  unfold VH49
  rw [hidF_eq hrA, hidF_eq lvA]
  exact h
/-! radio.Hears -/
def sig24 : CSig := ⟨[⟨true, [.slc [.int .i64, .int .i64, .int .i64, .int .i64], .mat [.int .i64]]⟩, ⟨false, [.int .i64]⟩, ⟨false, [.int .i64]⟩], [⟨false, [.bool]⟩, ⟨false, [.int .i64]⟩]⟩
def pre24 : List AV → Prop
  | [.a v0, .i v1, .m v2l v2f, .i v3, .i v4, .i v5] => True
  | _ => False
noncomputable def raw24 : List AV → List AV
  | [.a v0, .i v1, .m v2l v2f, .i v3, .i v4, .i v5] => [.b (((hidF hrV) v0 v1 v2l v2f v3 v4 v5)), .i ((hidF lvE) v0 v1 v2l v2f v3 v4 v5)]
  | _ => []

def VH24 : Prop :=
  ∀ (v0 : Int → Nat → Int) (v1 : Int) (v2l : Int → Int) (v2f : Int → Int → Nat → Int) (v3 : Int) (v4 : Int) (v5 : Int),
  (True) →
  (0 ≤ v1 →
  (0 ≤ v3 →
  ((2 : Int) ≤ 4) ∧ (∀ (v6 : Int), v6 = (hidF asW) v0 v1 v2l v2f v3 (setA (setA zA 0 0 v5) 1 0 v4) (2 : Int) → 
  (v1 ≤ 9223372036854775807 →
  (v3 ≤ 9223372036854775807 →
  (¬ (v6 = 0) →
    (False ↔ ((hidF hrV) v0 v1 v2l v2f v3 v4 v5) = true) ∧ v6 = (hidF lvE) v0 v1 v2l v2f v3 v4 v5 ∧ True) ∧
  (¬ (¬ (v6 = 0)) →
    (ckW v0 v1 v2l v2f v3 = 0 ∧ 0 ≤ v4 ∧ v4 < v1 ∧ 0 ≤ v5 ∧ v5 < v1) ∧ (∀ (v7 : Bool), v7 = (hidF hrA) v0 v2f v3 v4 v5 → 
    (v7 = true ↔ ((hidF hrV) v0 v1 v2l v2f v3 v4 v5) = true) ∧ (0 : Int) = (hidF lvE) v0 v1 v2l v2f v3 v4 v5 ∧ True)))))))
def VC24 : Prop :=
  ∀ (v0 : Int → Nat → Int) (v1 : Int) (v2l : Int → Int) (v2f : Int → Int → Nat → Int) (v3 : Int) (v4 : Int) (v5 : Int),
  (True) →
  (0 ≤ v1 →
  (0 ≤ v3 →
  ((2 : Int) ≤ 4) ∧ (∀ (v6 : Int), v6 = asW v0 v1 v2l v2f v3 (setA (setA zA 0 0 v5) 1 0 v4) (2 : Int) → 
  (v1 ≤ 9223372036854775807 →
  (v3 ≤ 9223372036854775807 →
  (¬ (v6 = 0) →
    (False ↔ (hrV v0 v1 v2l v2f v3 v4 v5) = true) ∧ v6 = lvE v0 v1 v2l v2f v3 v4 v5 ∧ True) ∧
  (¬ (¬ (v6 = 0)) →
    (ckW v0 v1 v2l v2f v3 = 0 ∧ 0 ≤ v4 ∧ v4 < v1 ∧ 0 ≤ v5 ∧ v5 < v1) ∧ (∀ (v7 : Bool), v7 = hrA v0 v2f v3 v4 v5 → 
    (v7 = true ↔ (hrV v0 v1 v2l v2f v3 v4 v5) = true) ∧ (0 : Int) = lvE v0 v1 v2l v2f v3 v4 v5 ∧ True)))))))
theorem vh24 (h : VC24) : VH24 := by
  unfold VH24
  rw [hidF_eq asW, hidF_eq hrA, hidF_eq hrV, hidF_eq lvE]
  exact h
/-! radio.Symmetric -/
def sig25 : CSig := ⟨[⟨true, [.slc [.int .i64, .int .i64, .int .i64, .int .i64], .mat [.int .i64]]⟩], [⟨false, [.bool]⟩]⟩
def pre25 : List AV → Prop
  | [.a v0, .i v1, .m v2l v2f, .i v3] => True
  | _ => False
noncomputable def raw25 : List AV → List AV
  | [.a v0, .i v1, .m v2l v2f, .i v3] => [.b ((hidF syW) v0 v1 v2l v2f v3)]
  | _ => []

def VH25 : Prop :=
  ∀ (v0 : Int → Nat → Int) (v1 : Int) (v2l : Int → Int) (v2f : Int → Int → Nat → Int) (v3 : Int),
  (True) →
  (0 ≤ v1 →
  (0 ≤ v3 →
  (True) ∧ (∀ (v4 : Int), v4 = (hidF ckW) v0 v1 v2l v2f v3 → 
  (v1 ≤ 9223372036854775807 →
  (v3 ≤ 9223372036854775807 →
  (¬ (v4 = 0) →
    (False ↔ (hidF syW) v0 v1 v2l v2f v3 = true) ∧ True) ∧
  (¬ (¬ (v4 = 0)) →
    ∃ (I0 : (Int) → Prop) (μ0 : (Int) → Nat), I0 (0 : Int) ∧ (∀ (v5 : Int), I0 v5 →
      (v5 < v3 →
        0 ≤ v5 ∧ (0 ≤ v5 →
        ∃ (I1 : (Int) → Prop) (μ1 : (Int) → Nat), I1 (0 : Int) ∧ (∀ (v6 : Int), I1 v6 →
          (0 ≤ (v2l v5) →
          ((v2l v5) ≤ 9223372036854775807 →
          (v6 < (v2l v5) →
            0 ≤ v6 ∧ (0 ≤ v6 →
            v6 < v3 ∧ (v6 < v3 →
            v5 < (v2l v6) ∧ (v5 < (v2l v6) →
            (0 ≤ (v2l v6) →
            ((v2l v6) ≤ 9223372036854775807 →
            (¬ (((rowA v2f v5) v6 0) = ((rowA v2f v6) v5 0)) →
              (False ↔ (hidF syW) v0 v1 v2l v2f v3 = true) ∧ True) ∧
            (¬ (¬ (((rowA v2f v5) v6 0) = ((rowA v2f v6) v5 0))) →
              (-9223372036854775808 ≤ (v6 + 1) ∧ (v6 + 1) ≤ 9223372036854775807) ∧ ((-9223372036854775808 ≤ (v6 + 1) ∧ (v6 + 1) ≤ 9223372036854775807) →
              I1 (v6 + 1) ∧ μ1 (v6 + 1) < μ1 v6)))))))) ∧
          (¬ (v6 < (v2l v5)) →
            (-9223372036854775808 ≤ (v5 + 1) ∧ (v5 + 1) ≤ 9223372036854775807) ∧ ((-9223372036854775808 ≤ (v5 + 1) ∧ (v5 + 1) ≤ 9223372036854775807) →
            I0 (v5 + 1) ∧ μ0 (v5 + 1) < μ0 v5))))))) ∧
      (¬ (v5 < v3) →
        (True ↔ (hidF syW) v0 v1 v2l v2f v3 = true) ∧ True))))))))
def VC25 : Prop :=
  ∀ (v0 : Int → Nat → Int) (v1 : Int) (v2l : Int → Int) (v2f : Int → Int → Nat → Int) (v3 : Int),
  (True) →
  (0 ≤ v1 →
  (0 ≤ v3 →
  (True) ∧ (∀ (v4 : Int), v4 = ckW v0 v1 v2l v2f v3 → 
  (v1 ≤ 9223372036854775807 →
  (v3 ≤ 9223372036854775807 →
  (¬ (v4 = 0) →
    (False ↔ syW v0 v1 v2l v2f v3 = true) ∧ True) ∧
  (¬ (¬ (v4 = 0)) →
    ∃ (I0 : (Int) → Prop) (μ0 : (Int) → Nat), I0 (0 : Int) ∧ (∀ (v5 : Int), I0 v5 →
      (v5 < v3 →
        0 ≤ v5 ∧ (0 ≤ v5 →
        ∃ (I1 : (Int) → Prop) (μ1 : (Int) → Nat), I1 (0 : Int) ∧ (∀ (v6 : Int), I1 v6 →
          (0 ≤ (v2l v5) →
          ((v2l v5) ≤ 9223372036854775807 →
          (v6 < (v2l v5) →
            0 ≤ v6 ∧ (0 ≤ v6 →
            v6 < v3 ∧ (v6 < v3 →
            v5 < (v2l v6) ∧ (v5 < (v2l v6) →
            (0 ≤ (v2l v6) →
            ((v2l v6) ≤ 9223372036854775807 →
            (¬ (((rowA v2f v5) v6 0) = ((rowA v2f v6) v5 0)) →
              (False ↔ syW v0 v1 v2l v2f v3 = true) ∧ True) ∧
            (¬ (¬ (((rowA v2f v5) v6 0) = ((rowA v2f v6) v5 0))) →
              (-9223372036854775808 ≤ (v6 + 1) ∧ (v6 + 1) ≤ 9223372036854775807) ∧ ((-9223372036854775808 ≤ (v6 + 1) ∧ (v6 + 1) ≤ 9223372036854775807) →
              I1 (v6 + 1) ∧ μ1 (v6 + 1) < μ1 v6)))))))) ∧
          (¬ (v6 < (v2l v5)) →
            (-9223372036854775808 ≤ (v5 + 1) ∧ (v5 + 1) ≤ 9223372036854775807) ∧ ((-9223372036854775808 ≤ (v5 + 1) ∧ (v5 + 1) ≤ 9223372036854775807) →
            I0 (v5 + 1) ∧ μ0 (v5 + 1) < μ0 v5))))))) ∧
      (¬ (v5 < v3) →
        (True ↔ syW v0 v1 v2l v2f v3 = true) ∧ True))))))))
theorem vh25 (h : VC25) : VH25 := by
  unfold VH25
  rw [hidF_eq ckW, hidF_eq syW]
  exact h
/-! hotspotref10.Great -/
def sig15 : CSig := ⟨[⟨true, [.slc [.int .i64, .int .i64, .int .i64, .int .i64], .mat [.int .i64]]⟩], [⟨false, [.bool]⟩]⟩
def pre15 : List AV → Prop
  | [.a v0, .i v1, .m v2l v2f, .i v3] => True
  | _ => False
noncomputable def raw15 : List AV → List AV
  | [.a v0, .i v1, .m v2l v2f, .i v3] => [.b ((hidF grW) v1 v2l v3)]
  | _ => []

def VH15 : Prop :=
  ∀ (v0 : Int → Nat → Int) (v1 : Int) (v2l : Int → Int) (v2f : Int → Int → Nat → Int) (v3 : Int),
  (True) →
  (0 ≤ v1 →
  (0 ≤ v3 →
  (v1 ≤ 9223372036854775807 →
  (v3 ≤ 9223372036854775807 →
  ((40 < v1 ∨ 40 < v3) →
    (True ↔ (hidF grW) v1 v2l v3 = true) ∧ True) ∧
  (¬ ((40 < v1 ∨ 40 < v3)) →
    ∃ (I0 : (Int) → Prop) (μ0 : (Int) → Nat), I0 (0 : Int) ∧ (∀ (v4 : Int), I0 v4 →
      (v4 < v3 →
        0 ≤ v4 ∧ (0 ≤ v4 →
        (0 ≤ (v2l v4) →
        ((v2l v4) ≤ 9223372036854775807 →
        (40 < (v2l v4) →
          (True ↔ (hidF grW) v1 v2l v3 = true) ∧ True) ∧
        (¬ (40 < (v2l v4)) →
          (-9223372036854775808 ≤ (v4 + 1) ∧ (v4 + 1) ≤ 9223372036854775807) ∧ ((-9223372036854775808 ≤ (v4 + 1) ∧ (v4 + 1) ≤ 9223372036854775807) →
          I0 (v4 + 1) ∧ μ0 (v4 + 1) < μ0 v4)))))) ∧
      (¬ (v4 < v3) →
        (False ↔ (hidF grW) v1 v2l v3 = true) ∧ True)))))))
def VC15 : Prop :=
  ∀ (v0 : Int → Nat → Int) (v1 : Int) (v2l : Int → Int) (v2f : Int → Int → Nat → Int) (v3 : Int),
  (True) →
  (0 ≤ v1 →
  (0 ≤ v3 →
  (v1 ≤ 9223372036854775807 →
  (v3 ≤ 9223372036854775807 →
  ((40 < v1 ∨ 40 < v3) →
    (True ↔ grW v1 v2l v3 = true) ∧ True) ∧
  (¬ ((40 < v1 ∨ 40 < v3)) →
    ∃ (I0 : (Int) → Prop) (μ0 : (Int) → Nat), I0 (0 : Int) ∧ (∀ (v4 : Int), I0 v4 →
      (v4 < v3 →
        0 ≤ v4 ∧ (0 ≤ v4 →
        (0 ≤ (v2l v4) →
        ((v2l v4) ≤ 9223372036854775807 →
        (40 < (v2l v4) →
          (True ↔ grW v1 v2l v3 = true) ∧ True) ∧
        (¬ (40 < (v2l v4)) →
          (-9223372036854775808 ≤ (v4 + 1) ∧ (v4 + 1) ≤ 9223372036854775807) ∧ ((-9223372036854775808 ≤ (v4 + 1) ∧ (v4 + 1) ≤ 9223372036854775807) →
          I0 (v4 + 1) ∧ μ0 (v4 + 1) < μ0 v4)))))) ∧
      (¬ (v4 < v3) →
        (False ↔ grW v1 v2l v3 = true) ∧ True)))))))
theorem vh15 (h : VC15) : VH15 := by
  unfold VH15
  rw [hidF_eq grW]
  exact h
/-! hotspotlaw10.alive -/
def sig22 : CSig := ⟨[], [⟨false, [.bool]⟩]⟩
def pre22 : List AV → Prop
  | [] => True
  | _ => False
noncomputable def raw22 : List AV → List AV
  | [] => [.b (true)]
  | _ => []

def VH22 : Prop :=
  (True) →
  (True) ∧ (∀ (v0 : Int) (v1 : Int), v0 = (hidF dist) (0 : Int) (0 : Int) (3 : Int) (4 : Int) → v1 = (hidF diste) (0 : Int) (0 : Int) (3 : Int) (4 : Int) → 
  (True) ∧ (∀ (v2 : Int) (v3 : Int), v2 = (hidF dist) (0 : Int) (0 : Int) (1 : Int) (1 : Int) → v3 = (hidF diste) (0 : Int) (0 : Int) (1 : Int) (1 : Int) → 
  (True) ∧ (∀ (v4 : Int) (v5 : Int), v4 = (hidF lvV) (setA (setA (setA (setA (setA (setA (setA (setA zA 0 0 0) 0 1 0) 0 2 200) 0 3 1) 1 0 100) 1 1 0) 1 2 200) 1 3 1) (2 : Int) zL zF (0 : Int) (0 : Int) (1 : Int) → v5 = (hidF lvE) (setA (setA (setA (setA (setA (setA (setA (setA zA 0 0 0) 0 1 0) 0 2 200) 0 3 1) 1 0 100) 1 1 0) 1 2 200) 1 3 1) (2 : Int) zL zF (0 : Int) (0 : Int) (1 : Int) → 
  (True) ∧ (∀ (v6 : Bool) (v7 : Int), v6 = ((hidF hrV) (setA (setA (setA (setA (setA (setA (setA (setA zA 0 0 0) 0 1 0) 0 2 200) 0 3 1) 1 0 100) 1 1 0) 1 2 200) 1 3 1) (2 : Int) zL zF (0 : Int) (1 : Int) (0 : Int)) → v7 = (hidF lvE) (setA (setA (setA (setA (setA (setA (setA (setA zA 0 0 0) 0 1 0) 0 2 200) 0 3 1) 1 0 100) 1 1 0) 1 2 200) 1 3 1) (2 : Int) zL zF (0 : Int) (1 : Int) (0 : Int) → 
  ∃ (I0 : (Int) → Prop) (μ0 : (Int) → Nat), I0 (0 : Int) ∧ (∀ (v8 : Int), I0 v8 →
    (v8 < 4 →
      (True) ∧ (∀ (v9 : Int) (v10 : Int), v9 = (hidF lossv) v8 → v10 = (hidF losse) v8 → 
      (¬ (v10 = 0) ∨ 0 ≤ v8) ∧ ((¬ (v10 = 0) ∨ 0 ≤ v8) →
      (¬ (v10 = 0) ∨ 0 ≤ v8) ∧ ((¬ (v10 = 0) ∨ 0 ≤ v8) →
      ((¬ (v10 = 0) ∨ ¬ (v9 = (if (decide (v8 = 0)) = true then (400 : Int) else ((if (decide (v8 = 1)) = true then (400 : Int) else ((if (decide (v8 = 2)) = true then (460 : Int) else (490 : Int)) : Int)) : Int)))) →
        (False ↔ true = true) ∧ True) ∧
      (¬ ((¬ (v10 = 0) ∨ ¬ (v9 = (if (decide (v8 = 0)) = true then (400 : Int) else ((if (decide (v8 = 1)) = true then (400 : Int) else ((if (decide (v8 = 2)) = true then (460 : Int) else (490 : Int)) : Int)) : Int))))) →
        (-9223372036854775808 ≤ (v8 + 1) ∧ (v8 + 1) ≤ 9223372036854775807) ∧ ((-9223372036854775808 ≤ (v8 + 1) ∧ (v8 + 1) ≤ 9223372036854775807) →
        I0 (v8 + 1) ∧ μ0 (v8 + 1) < μ0 v8)))))) ∧
    (¬ (v8 < 4) →
      (True) ∧ (∀ (v9 : Int) (v10 : Int), v9 = (hidF lossv) (100 : Int) → v10 = (hidF losse) (100 : Int) → 
      ((((((((((v1 = 0 ∧ v0 = 5) ∧ v3 = 0) ∧ v2 = 1) ∧ v5 = 0) ∧ v4 = (-590)) ∧ v7 = 0) ∧ v6 = true) ∧ v10 = 0) ∧ v9 = 790) ↔ true = true) ∧ True)))))))
def VC22 : Prop :=
  (True) →
  (True) ∧ (∀ (v0 : Int) (v1 : Int), v0 = dist (0 : Int) (0 : Int) (3 : Int) (4 : Int) → v1 = diste (0 : Int) (0 : Int) (3 : Int) (4 : Int) → 
  (True) ∧ (∀ (v2 : Int) (v3 : Int), v2 = dist (0 : Int) (0 : Int) (1 : Int) (1 : Int) → v3 = diste (0 : Int) (0 : Int) (1 : Int) (1 : Int) → 
  (True) ∧ (∀ (v4 : Int) (v5 : Int), v4 = lvV (setA (setA (setA (setA (setA (setA (setA (setA zA 0 0 0) 0 1 0) 0 2 200) 0 3 1) 1 0 100) 1 1 0) 1 2 200) 1 3 1) (2 : Int) zL zF (0 : Int) (0 : Int) (1 : Int) → v5 = lvE (setA (setA (setA (setA (setA (setA (setA (setA zA 0 0 0) 0 1 0) 0 2 200) 0 3 1) 1 0 100) 1 1 0) 1 2 200) 1 3 1) (2 : Int) zL zF (0 : Int) (0 : Int) (1 : Int) → 
  (True) ∧ (∀ (v6 : Bool) (v7 : Int), v6 = (hrV (setA (setA (setA (setA (setA (setA (setA (setA zA 0 0 0) 0 1 0) 0 2 200) 0 3 1) 1 0 100) 1 1 0) 1 2 200) 1 3 1) (2 : Int) zL zF (0 : Int) (1 : Int) (0 : Int)) → v7 = lvE (setA (setA (setA (setA (setA (setA (setA (setA zA 0 0 0) 0 1 0) 0 2 200) 0 3 1) 1 0 100) 1 1 0) 1 2 200) 1 3 1) (2 : Int) zL zF (0 : Int) (1 : Int) (0 : Int) → 
  ∃ (I0 : (Int) → Prop) (μ0 : (Int) → Nat), I0 (0 : Int) ∧ (∀ (v8 : Int), I0 v8 →
    (v8 < 4 →
      (True) ∧ (∀ (v9 : Int) (v10 : Int), v9 = lossv v8 → v10 = losse v8 → 
      (¬ (v10 = 0) ∨ 0 ≤ v8) ∧ ((¬ (v10 = 0) ∨ 0 ≤ v8) →
      (¬ (v10 = 0) ∨ 0 ≤ v8) ∧ ((¬ (v10 = 0) ∨ 0 ≤ v8) →
      ((¬ (v10 = 0) ∨ ¬ (v9 = (if (decide (v8 = 0)) = true then (400 : Int) else ((if (decide (v8 = 1)) = true then (400 : Int) else ((if (decide (v8 = 2)) = true then (460 : Int) else (490 : Int)) : Int)) : Int)))) →
        (False ↔ true = true) ∧ True) ∧
      (¬ ((¬ (v10 = 0) ∨ ¬ (v9 = (if (decide (v8 = 0)) = true then (400 : Int) else ((if (decide (v8 = 1)) = true then (400 : Int) else ((if (decide (v8 = 2)) = true then (460 : Int) else (490 : Int)) : Int)) : Int))))) →
        (-9223372036854775808 ≤ (v8 + 1) ∧ (v8 + 1) ≤ 9223372036854775807) ∧ ((-9223372036854775808 ≤ (v8 + 1) ∧ (v8 + 1) ≤ 9223372036854775807) →
        I0 (v8 + 1) ∧ μ0 (v8 + 1) < μ0 v8)))))) ∧
    (¬ (v8 < 4) →
      (True) ∧ (∀ (v9 : Int) (v10 : Int), v9 = lossv (100 : Int) → v10 = losse (100 : Int) → 
      ((((((((((v1 = 0 ∧ v0 = 5) ∧ v3 = 0) ∧ v2 = 1) ∧ v5 = 0) ∧ v4 = (-590)) ∧ v7 = 0) ∧ v6 = true) ∧ v10 = 0) ∧ v9 = 790) ↔ true = true) ∧ True)))))))
theorem vh22 (h : VC22) : VH22 := by
  unfold VH22
  rw [hidF_eq dist, hidF_eq diste, hidF_eq hrV, hidF_eq losse, hidF_eq lossv, hidF_eq lvE, hidF_eq lvV]
  exact h
end Go.Proofs.Ytiiebpfifkaleaa
