/- What the functions do, and what is left to show of each. -/
import Derived.Test.YtccmgepknjkakaaC
set_option linter.unusedVariables false
namespace Go.Proofs.Ytccmgepknjkakaa
open Go Go.RowKit Go.Proofs.Ytccmgepknjkakaa.Vc
/-! hotspotref44.Great -/
def sig10 : CSig := ⟨[⟨false, [.mat [.int .i64]]⟩], [⟨false, [.bool]⟩]⟩
def pre10 : List AV → Prop
  | [.m v0l v0f, .i v1] => rwP v0l v1
  | _ => False
noncomputable def raw10 : List AV → List AV
  | [.m v0l v0f, .i v1] => [.b ((hidF grA) v0l v0f v1)]
  | _ => []

def VH10 : Prop :=
  ∀ (v0l : Int → Int) (v0f : Int → Int → Nat → Int) (v1 : Int),
  (rwP v0l v1) →
  (0 ≤ v1 →
  (v1 ≤ 9223372036854775807 →
  (40 < v1 →
    (True ↔ (hidF grA) v0l v0f v1 = true) ∧ True) ∧
  (¬ (40 < v1) →
    ∃ (I0 : (Int) → (Int) → Prop) (μ0 : (Int) → (Int) → Nat), I0 (0 : Int) (0 : Int) ∧ (∀ (v2 : Int) (v3 : Int), I0 v2 v3 →
      (v3 < v1 →
        0 ≤ v3 ∧ (0 ≤ v3 →
        (-9223372036854775808 ≤ (v2 + (v0l v3)) ∧ (v2 + (v0l v3)) ≤ 9223372036854775807) ∧ ((-9223372036854775808 ≤ (v2 + (v0l v3)) ∧ (v2 + (v0l v3)) ≤ 9223372036854775807) →
        (-9223372036854775808 ≤ (v3 + 1) ∧ (v3 + 1) ≤ 9223372036854775807) ∧ ((-9223372036854775808 ≤ (v3 + 1) ∧ (v3 + 1) ≤ 9223372036854775807) →
        I0 (v2 + (v0l v3)) (v3 + 1) ∧ μ0 (v2 + (v0l v3)) (v3 + 1) < μ0 v2 v3)))) ∧
      (¬ (v3 < v1) →
        (300 < v2 ↔ (hidF grA) v0l v0f v1 = true) ∧ True)))))
def VC10 : Prop :=
  ∀ (v0l : Int → Int) (v0f : Int → Int → Nat → Int) (v1 : Int),
  (rwP v0l v1) →
  (0 ≤ v1 →
  (v1 ≤ 9223372036854775807 →
  (40 < v1 →
    (True ↔ grA v0l v0f v1 = true) ∧ True) ∧
  (¬ (40 < v1) →
    ∃ (I0 : (Int) → (Int) → Prop) (μ0 : (Int) → (Int) → Nat), I0 (0 : Int) (0 : Int) ∧ (∀ (v2 : Int) (v3 : Int), I0 v2 v3 →
      (v3 < v1 →
        0 ≤ v3 ∧ (0 ≤ v3 →
        (-9223372036854775808 ≤ (v2 + (v0l v3)) ∧ (v2 + (v0l v3)) ≤ 9223372036854775807) ∧ ((-9223372036854775808 ≤ (v2 + (v0l v3)) ∧ (v2 + (v0l v3)) ≤ 9223372036854775807) →
        (-9223372036854775808 ≤ (v3 + 1) ∧ (v3 + 1) ≤ 9223372036854775807) ∧ ((-9223372036854775808 ≤ (v3 + 1) ∧ (v3 + 1) ≤ 9223372036854775807) →
        I0 (v2 + (v0l v3)) (v3 + 1) ∧ μ0 (v2 + (v0l v3)) (v3 + 1) < μ0 v2 v3)))) ∧
      (¬ (v3 < v1) →
        (300 < v2 ↔ grA v0l v0f v1 = true) ∧ True)))))
theorem vh10 (h : VC10) : VH10 := by
  unfold VH10
  rw [hidF_eq grA]
  exact h
/-! hotspotref10.SameInts -/
def sig13 : CSig := ⟨[⟨false, [.slc [.int .i64]]⟩, ⟨false, [.slc [.int .i64]]⟩], [⟨false, [.bool]⟩]⟩
def pre13 : List AV → Prop
  | [.a v0, .i v1, .a v2, .i v3] => True
  | _ => False
noncomputable def raw13 : List AV → List AV
  | [.a v0, .i v1, .a v2, .i v3] => [.b ((hidF siA) v0 v1 v2 v3)]
  | _ => []

def VH13 : Prop :=
  ∀ (v0 : Int → Nat → Int) (v1 : Int) (v2 : Int → Nat → Int) (v3 : Int),
  (True) →
  (0 ≤ v1 →
  (0 ≤ v3 →
  (v1 ≤ 9223372036854775807 →
  (v3 ≤ 9223372036854775807 →
  (¬ (v1 = v3) →
    (False ↔ (hidF siA) v0 v1 v2 v3 = true) ∧ True) ∧
  (¬ (¬ (v1 = v3)) →
    ∃ (I0 : (Int) → Prop) (μ0 : (Int) → Nat), I0 (0 : Int) ∧ (∀ (v4 : Int), I0 v4 →
      (v4 < v1 →
        0 ≤ v4 ∧ (0 ≤ v4 →
        v4 < v3 ∧ (v4 < v3 →
        (¬ ((v0 v4 0) = (v2 v4 0)) →
          (False ↔ (hidF siA) v0 v1 v2 v3 = true) ∧ True) ∧
        (¬ (¬ ((v0 v4 0) = (v2 v4 0))) →
          (-9223372036854775808 ≤ (v4 + 1) ∧ (v4 + 1) ≤ 9223372036854775807) ∧ ((-9223372036854775808 ≤ (v4 + 1) ∧ (v4 + 1) ≤ 9223372036854775807) →
          I0 (v4 + 1) ∧ μ0 (v4 + 1) < μ0 v4))))) ∧
      (¬ (v4 < v1) →
        (True ↔ (hidF siA) v0 v1 v2 v3 = true) ∧ True)))))))
def VC13 : Prop :=
  ∀ (v0 : Int → Nat → Int) (v1 : Int) (v2 : Int → Nat → Int) (v3 : Int),
  (True) →
  (0 ≤ v1 →
  (0 ≤ v3 →
  (v1 ≤ 9223372036854775807 →
  (v3 ≤ 9223372036854775807 →
  (¬ (v1 = v3) →
    (False ↔ siA v0 v1 v2 v3 = true) ∧ True) ∧
  (¬ (¬ (v1 = v3)) →
    ∃ (I0 : (Int) → Prop) (μ0 : (Int) → Nat), I0 (0 : Int) ∧ (∀ (v4 : Int), I0 v4 →
      (v4 < v1 →
        0 ≤ v4 ∧ (0 ≤ v4 →
        v4 < v3 ∧ (v4 < v3 →
        (¬ ((v0 v4 0) = (v2 v4 0)) →
          (False ↔ siA v0 v1 v2 v3 = true) ∧ True) ∧
        (¬ (¬ ((v0 v4 0) = (v2 v4 0))) →
          (-9223372036854775808 ≤ (v4 + 1) ∧ (v4 + 1) ≤ 9223372036854775807) ∧ ((-9223372036854775808 ≤ (v4 + 1) ∧ (v4 + 1) ≤ 9223372036854775807) →
          I0 (v4 + 1) ∧ μ0 (v4 + 1) < μ0 v4))))) ∧
      (¬ (v4 < v1) →
        (True ↔ siA v0 v1 v2 v3 = true) ∧ True)))))))
theorem vh13 (h : VC13) : VH13 := by
  unfold VH13
  rw [hidF_eq siA]
  exact h
/-! airtime.Run -/
def sig11 : CSig := ⟨[⟨true, [.slc [.int .i64, .int .i64], .int .i64]⟩, ⟨false, [.mat [.int .i64]]⟩], [⟨false, [.slc [.int .i64]]⟩, ⟨true, [.slc [.int .i64, .int .i64], .int .i64]⟩, ⟨false, [.int .i64]⟩]⟩
def pre11 : List AV → Prop
  | [.a v0, .i v1, .i v2, .m v3l v3f, .i v4] => v4 ≤ 40 ∧ rwP v3l v4
  | _ => False
noncomputable def raw11 : List AV → List AV
  | [.a v0, .i v1, .i v2, .m v3l v3f, .i v4] => [.a ((hidF ruO) v0 v1 v2 v3l v3f v4), .i ((hidF ruK) v0 v1 v2 v3l v3f v4), .a ((hidF ruA) v0 v1 v2 v3l v3f v4), .i ((hidF ruN) v0 v1 v2 v3l v3f v4 v1), .i ((hidF ruT) v0 v1 v2 v3l v3f v4), .i ((hidF ruE) v0 v1 v2 v3l v3f v4)]
  | _ => []

def VH11 : Prop :=
  ∀ (v0 : Int → Nat → Int) (v1 : Int) (v2 : Int) (v3l : Int → Int) (v3f : Int → Int → Nat → Int) (v4 : Int),
  (v4 ≤ 40 ∧ rwP v3l v4) →
  (0 ≤ v1 →
  (0 ≤ v4 →
  (True) ∧ (∀ (v5 : Int), v5 = (hidF ckA) v0 v1 v2 → 
  (v1 ≤ 9223372036854775807 →
  (v4 ≤ 9223372036854775807 →
  (¬ (v5 = 0) →
    (0 : Int) = (hidF ruK) v0 v1 v2 v3l v3f v4 ∧ (∀ (i : Int) (f : Nat), 0 ≤ i → i < (hidF ruK) v0 v1 v2 v3l v3f v4 → f < 1 → zA i f = (hidF ruO) v0 v1 v2 v3l v3f v4 i f) ∧ (0 : Int) = (hidF ruN) v0 v1 v2 v3l v3f v4 v1 ∧ (∀ (i : Int) (f : Nat), 0 ≤ i → i < (hidF ruN) v0 v1 v2 v3l v3f v4 v1 → f < 2 → zA i f = (hidF ruA) v0 v1 v2 v3l v3f v4 i f) ∧ (0 : Int) = (hidF ruT) v0 v1 v2 v3l v3f v4 ∧ v5 = (hidF ruE) v0 v1 v2 v3l v3f v4 ∧ True) ∧
  (¬ (¬ (v5 = 0)) →
    ∃ (I0 : (Int) → (Int) → Prop) (μ0 : (Int) → (Int) → Nat), I0 (0 : Int) (0 : Int) ∧ (∀ (v6 : Int) (v7 : Int), I0 v6 v7 →
      (v6 < v4 →
        0 ≤ v6 ∧ (0 ≤ v6 →
        (-9223372036854775808 ≤ (v7 + (v3l v6)) ∧ (v7 + (v3l v6)) ≤ 9223372036854775807) ∧ ((-9223372036854775808 ≤ (v7 + (v3l v6)) ∧ (v7 + (v3l v6)) ≤ 9223372036854775807) →
        ∃ (I1 : (Int) → Prop) (μ1 : (Int) → Nat), I1 (0 : Int) ∧ (∀ (v8 : Int), I1 v8 →
          (0 ≤ (v3l v6) →
          ((v3l v6) ≤ 9223372036854775807 →
          (v8 < (v3l v6) →
            0 ≤ v8 ∧ (0 ≤ v8 →
            ((((rowA v3f v6) v8 0) < 1 ∨ 32767 < ((rowA v3f v6) v8 0)) →
              (0 : Int) = (hidF ruK) v0 v1 v2 v3l v3f v4 ∧ (∀ (i : Int) (f : Nat), 0 ≤ i → i < (hidF ruK) v0 v1 v2 v3l v3f v4 → f < 1 → zA i f = (hidF ruO) v0 v1 v2 v3l v3f v4 i f) ∧ (0 : Int) = (hidF ruN) v0 v1 v2 v3l v3f v4 v1 ∧ (∀ (i : Int) (f : Nat), 0 ≤ i → i < (hidF ruN) v0 v1 v2 v3l v3f v4 v1 → f < 2 → zA i f = (hidF ruA) v0 v1 v2 v3l v3f v4 i f) ∧ (0 : Int) = (hidF ruT) v0 v1 v2 v3l v3f v4 ∧ (2 : Int) = (hidF ruE) v0 v1 v2 v3l v3f v4 ∧ True) ∧
            (¬ ((((rowA v3f v6) v8 0) < 1 ∨ 32767 < ((rowA v3f v6) v8 0))) →
              (-9223372036854775808 ≤ (v8 + 1) ∧ (v8 + 1) ≤ 9223372036854775807) ∧ ((-9223372036854775808 ≤ (v8 + 1) ∧ (v8 + 1) ≤ 9223372036854775807) →
              I1 (v8 + 1) ∧ μ1 (v8 + 1) < μ1 v8)))) ∧
          (¬ (v8 < (v3l v6)) →
            (-9223372036854775808 ≤ (v6 + 1) ∧ (v6 + 1) ≤ 9223372036854775807) ∧ ((-9223372036854775808 ≤ (v6 + 1) ∧ (v6 + 1) ≤ 9223372036854775807) →
            I0 (v6 + 1) (v7 + (v3l v6)) ∧ μ0 (v6 + 1) (v7 + (v3l v6)) < μ0 v6 v7)))))))) ∧
      (¬ (v6 < v4) →
        ((¬ (v4 = v1) ∨ 10000 < v7) →
          (0 : Int) = (hidF ruK) v0 v1 v2 v3l v3f v4 ∧ (∀ (i : Int) (f : Nat), 0 ≤ i → i < (hidF ruK) v0 v1 v2 v3l v3f v4 → f < 1 → zA i f = (hidF ruO) v0 v1 v2 v3l v3f v4 i f) ∧ (0 : Int) = (hidF ruN) v0 v1 v2 v3l v3f v4 v1 ∧ (∀ (i : Int) (f : Nat), 0 ≤ i → i < (hidF ruN) v0 v1 v2 v3l v3f v4 v1 → f < 2 → zA i f = (hidF ruA) v0 v1 v2 v3l v3f v4 i f) ∧ (0 : Int) = (hidF ruT) v0 v1 v2 v3l v3f v4 ∧ (2 : Int) = (hidF ruE) v0 v1 v2 v3l v3f v4 ∧ True) ∧
        (¬ ((¬ (v4 = v1) ∨ 10000 < v7)) →
          (v1 ≤ 1000) ∧ (∀ (v8 : Int → Nat → Int) (v9 : Int), v8 = v0 → v9 = v1 → 
          (0 ≤ v9 →
          (v9 ≤ 9223372036854775807 →
          (∀ (v10 : Bool),
          ((¬ (v10 = true) ∨ v4 = 0) →
          (v10 = true →
            ∃ (I1 : (Int → Nat → Int) → (Int) → (Int → Int) → (Int → Int → Nat → Int) → (Int) → (Int → Nat → Int) → (Int) → (Int) → Prop) (μ1 : (Int → Nat → Int) → (Int) → (Int → Int) → (Int → Int → Nat → Int) → (Int) → (Int → Nat → Int) → (Int) → (Int) → Nat), I1 v8 v2 (srL zL (-1) 0) (srF zF (-1) zA) (0 : Int) zA (0 : Int) v7 ∧ (∀ (v11 : Int → Nat → Int) (v12 : Int) (v13l : Int → Int) (v13f : Int → Int → Nat → Int) (v14 : Int) (v15 : Int → Nat → Int) (v16 : Int) (v17 : Int), I1 v11 v12 v13l v13f v14 v15 v16 v17 →
              (0 ≤ v14 →
              (v14 ≤ 9223372036854775807 →
              (0 ≤ v16 →
              (v16 ≤ 9223372036854775807 →
              (0 < v17 →
                ∃ (I2 : (Int → Nat → Int) → (Int) → Prop) (μ2 : (Int → Nat → Int) → (Int) → Nat), I2 v11 v12 ∧ (∀ (v18 : Int → Nat → Int) (v19 : Int), I2 v18 v19 →
                  0 ≤ v19 ∧ (0 ≤ v19 →
                  v19 < v9 ∧ (v19 < v9 →
                  v19 < v14 ∧ (v19 < v14 →
                  (¬ (0 < (v13l v19)) →
                    (-9223372036854775808 ≤ (v19 + 1) ∧ (v19 + 1) ≤ 9223372036854775807) ∧ ((-9223372036854775808 ≤ (v19 + 1) ∧ (v19 + 1) ≤ 9223372036854775807) →
                    ¬ (v9 = 0) ∧ (¬ (v9 = 0) →
                    I2 (setA v18 v19 1 (min (v18 v19 1) 0)) (Int.tmod (v19 + 1) v9) ∧ μ2 (setA v18 v19 1 (min (v18 v19 1) 0)) (Int.tmod (v19 + 1) v9) < μ2 v18 v19))) ∧
                  (¬ (¬ (0 < (v13l v19))) →
                    (0 < (v18 v19 1) →
                      (-9223372036854775808 ≤ ((v18 v19 1) - ((rowA v13f v19) 0 0)) ∧ ((v18 v19 1) - ((rowA v13f v19) 0 0)) ≤ 9223372036854775807) ∧ ((-9223372036854775808 ≤ ((v18 v19 1) - ((rowA v13f v19) 0 0)) ∧ ((v18 v19 1) - ((rowA v13f v19) 0 0)) ≤ 9223372036854775807) →
                      (0 ≤ (v13l v19) →
                      ((v13l v19) ≤ 9223372036854775807 →
                      1 ≤ (v13l v19) ∧ (1 ≤ (v13l v19) →
                      (v13l v19) ≤ (v13l v19) ∧ ((v13l v19) ≤ (v13l v19) →
                      False /- operation airtime.go:112 -/)))))) ∧
                    (¬ (0 < (v18 v19 1)) →
                      (-9223372036854775808 ≤ (1000 * (v18 v19 0)) ∧ (1000 * (v18 v19 0)) ≤ 9223372036854775807) ∧ ((-9223372036854775808 ≤ (1000 * (v18 v19 0)) ∧ (1000 * (v18 v19 0)) ≤ 9223372036854775807) →
                      (-9223372036854775808 ≤ ((v18 v19 1) + (1000 * (v18 v19 0))) ∧ ((v18 v19 1) + (1000 * (v18 v19 0))) ≤ 9223372036854775807) ∧ ((-9223372036854775808 ≤ ((v18 v19 1) + (1000 * (v18 v19 0))) ∧ ((v18 v19 1) + (1000 * (v18 v19 0))) ≤ 9223372036854775807) →
                      (-9223372036854775808 ≤ (v19 + 1) ∧ (v19 + 1) ≤ 9223372036854775807) ∧ ((-9223372036854775808 ≤ (v19 + 1) ∧ (v19 + 1) ≤ 9223372036854775807) →
                      ¬ (v9 = 0) ∧ (¬ (v9 = 0) →
                      I2 (setA v18 v19 1 ((v18 v19 1) + (1000 * (v18 v19 0)))) (Int.tmod (v19 + 1) v9) ∧ μ2 (setA v18 v19 1 ((v18 v19 1) + (1000 * (v18 v19 0)))) (Int.tmod (v19 + 1) v9) < μ2 v18 v19))))))))))) ∧
              (¬ (0 < v17) →
                v16 = (hidF ruK) v0 v1 v2 v3l v3f v4 ∧ (∀ (i : Int) (f : Nat), 0 ≤ i → i < (hidF ruK) v0 v1 v2 v3l v3f v4 → f < 1 → v15 i f = (hidF ruO) v0 v1 v2 v3l v3f v4 i f) ∧ v9 = (hidF ruN) v0 v1 v2 v3l v3f v4 v1 ∧ (∀ (i : Int) (f : Nat), 0 ≤ i → i < (hidF ruN) v0 v1 v2 v3l v3f v4 v1 → f < 2 → v11 i f = (hidF ruA) v0 v1 v2 v3l v3f v4 i f) ∧ v12 = (hidF ruT) v0 v1 v2 v3l v3f v4 ∧ (0 : Int) = (hidF ruE) v0 v1 v2 v3l v3f v4 ∧ True))))))) ∧
          (¬ (v10 = true) →
            (v4 * 24) ≤ 140737488355328 ∧ ((v4 * 24) ≤ 140737488355328 →
            v4 ≤ 140737488355328 ∧ (v4 ≤ 140737488355328 →
            ∃ (I1 : (Int → Nat → Int) → (Int) → (Int → Int) → (Int → Int → Nat → Int) → (Int) → (Int → Nat → Int) → (Int) → (Int) → Prop) (μ1 : (Int → Nat → Int) → (Int) → (Int → Int) → (Int → Int → Nat → Int) → (Int) → (Int → Nat → Int) → (Int) → (Int) → Nat), I1 v8 v2 v3l v3f v4 zA (0 : Int) v7 ∧ (∀ (v11 : Int → Nat → Int) (v12 : Int) (v13l : Int → Int) (v13f : Int → Int → Nat → Int) (v14 : Int) (v15 : Int → Nat → Int) (v16 : Int) (v17 : Int), I1 v11 v12 v13l v13f v14 v15 v16 v17 →
              (0 ≤ v14 →
              (v14 ≤ 9223372036854775807 →
              (0 ≤ v16 →
              (v16 ≤ 9223372036854775807 →
              (0 < v17 →
                ∃ (I2 : (Int → Nat → Int) → (Int) → Prop) (μ2 : (Int → Nat → Int) → (Int) → Nat), I2 v11 v12 ∧ (∀ (v18 : Int → Nat → Int) (v19 : Int), I2 v18 v19 →
                  0 ≤ v19 ∧ (0 ≤ v19 →
                  v19 < v9 ∧ (v19 < v9 →
                  v19 < v14 ∧ (v19 < v14 →
                  (¬ (0 < (v13l v19)) →
                    (-9223372036854775808 ≤ (v19 + 1) ∧ (v19 + 1) ≤ 9223372036854775807) ∧ ((-9223372036854775808 ≤ (v19 + 1) ∧ (v19 + 1) ≤ 9223372036854775807) →
                    ¬ (v9 = 0) ∧ (¬ (v9 = 0) →
                    I2 (setA v18 v19 1 (min (v18 v19 1) 0)) (Int.tmod (v19 + 1) v9) ∧ μ2 (setA v18 v19 1 (min (v18 v19 1) 0)) (Int.tmod (v19 + 1) v9) < μ2 v18 v19))) ∧
                  (¬ (¬ (0 < (v13l v19))) →
                    (0 < (v18 v19 1) →
                      (-9223372036854775808 ≤ ((v18 v19 1) - ((rowA v13f v19) 0 0)) ∧ ((v18 v19 1) - ((rowA v13f v19) 0 0)) ≤ 9223372036854775807) ∧ ((-9223372036854775808 ≤ ((v18 v19 1) - ((rowA v13f v19) 0 0)) ∧ ((v18 v19 1) - ((rowA v13f v19) 0 0)) ≤ 9223372036854775807) →
                      (0 ≤ (v13l v19) →
                      ((v13l v19) ≤ 9223372036854775807 →
                      1 ≤ (v13l v19) ∧ (1 ≤ (v13l v19) →
                      (v13l v19) ≤ (v13l v19) ∧ ((v13l v19) ≤ (v13l v19) →
                      (1 + ((v13l v19) - 1)) ≤ (v13l v19) ∧ ((1 + ((v13l v19) - 1)) ≤ (v13l v19) →
                      ((v16 + 1) * 8) ≤ 140737488355328 ∧ (((v16 + 1) * 8) ≤ 140737488355328 →
                      (v16 + 1) ≤ 140737488355328 ∧ ((v16 + 1) ≤ 140737488355328 →
                      (-9223372036854775808 ≤ (v17 - 1) ∧ (v17 - 1) ≤ 9223372036854775807) ∧ ((-9223372036854775808 ≤ (v17 - 1) ∧ (v17 - 1) ≤ 9223372036854775807) →
                      I1 (setA v18 v19 1 ((v18 v19 1) - ((rowA v13f v19) 0 0))) v19 (srL v13l v19 ((v13l v19) - 1)) (srF v13f v19 (shA (rowA v13f v19) 1)) v14 (appA v15 v16 (setA zA 0 0 v19)) (v16 + 1) (v17 - 1) ∧ μ1 (setA v18 v19 1 ((v18 v19 1) - ((rowA v13f v19) 0 0))) v19 (srL v13l v19 ((v13l v19) - 1)) (srF v13f v19 (shA (rowA v13f v19) 1)) v14 (appA v15 v16 (setA zA 0 0 v19)) (v16 + 1) (v17 - 1) < μ1 v11 v12 v13l v13f v14 v15 v16 v17)))))))))) ∧
                    (¬ (0 < (v18 v19 1)) →
                      (-9223372036854775808 ≤ (1000 * (v18 v19 0)) ∧ (1000 * (v18 v19 0)) ≤ 9223372036854775807) ∧ ((-9223372036854775808 ≤ (1000 * (v18 v19 0)) ∧ (1000 * (v18 v19 0)) ≤ 9223372036854775807) →
                      (-9223372036854775808 ≤ ((v18 v19 1) + (1000 * (v18 v19 0))) ∧ ((v18 v19 1) + (1000 * (v18 v19 0))) ≤ 9223372036854775807) ∧ ((-9223372036854775808 ≤ ((v18 v19 1) + (1000 * (v18 v19 0))) ∧ ((v18 v19 1) + (1000 * (v18 v19 0))) ≤ 9223372036854775807) →
                      (-9223372036854775808 ≤ (v19 + 1) ∧ (v19 + 1) ≤ 9223372036854775807) ∧ ((-9223372036854775808 ≤ (v19 + 1) ∧ (v19 + 1) ≤ 9223372036854775807) →
                      ¬ (v9 = 0) ∧ (¬ (v9 = 0) →
                      I2 (setA v18 v19 1 ((v18 v19 1) + (1000 * (v18 v19 0)))) (Int.tmod (v19 + 1) v9) ∧ μ2 (setA v18 v19 1 ((v18 v19 1) + (1000 * (v18 v19 0)))) (Int.tmod (v19 + 1) v9) < μ2 v18 v19))))))))))) ∧
              (¬ (0 < v17) →
                v16 = (hidF ruK) v0 v1 v2 v3l v3f v4 ∧ (∀ (i : Int) (f : Nat), 0 ≤ i → i < (hidF ruK) v0 v1 v2 v3l v3f v4 → f < 1 → v15 i f = (hidF ruO) v0 v1 v2 v3l v3f v4 i f) ∧ v9 = (hidF ruN) v0 v1 v2 v3l v3f v4 v1 ∧ (∀ (i : Int) (f : Nat), 0 ≤ i → i < (hidF ruN) v0 v1 v2 v3l v3f v4 v1 → f < 2 → v11 i f = (hidF ruA) v0 v1 v2 v3l v3f v4 i f) ∧ v12 = (hidF ruT) v0 v1 v2 v3l v3f v4 ∧ (0 : Int) = (hidF ruE) v0 v1 v2 v3l v3f v4 ∧ True)))))))))))))))))))))))
def VC11 : Prop :=
  ∀ (v0 : Int → Nat → Int) (v1 : Int) (v2 : Int) (v3l : Int → Int) (v3f : Int → Int → Nat → Int) (v4 : Int),
  (v4 ≤ 40 ∧ rwP v3l v4) →
  (0 ≤ v1 →
  (0 ≤ v4 →
  (True) ∧ (∀ (v5 : Int), v5 = ckA v0 v1 v2 → 
  (v1 ≤ 9223372036854775807 →
  (v4 ≤ 9223372036854775807 →
  (¬ (v5 = 0) →
    (0 : Int) = ruK v0 v1 v2 v3l v3f v4 ∧ (∀ (i : Int) (f : Nat), 0 ≤ i → i < ruK v0 v1 v2 v3l v3f v4 → f < 1 → zA i f = ruO v0 v1 v2 v3l v3f v4 i f) ∧ (0 : Int) = ruN v0 v1 v2 v3l v3f v4 v1 ∧ (∀ (i : Int) (f : Nat), 0 ≤ i → i < ruN v0 v1 v2 v3l v3f v4 v1 → f < 2 → zA i f = ruA v0 v1 v2 v3l v3f v4 i f) ∧ (0 : Int) = ruT v0 v1 v2 v3l v3f v4 ∧ v5 = ruE v0 v1 v2 v3l v3f v4 ∧ True) ∧
  (¬ (¬ (v5 = 0)) →
    ∃ (I0 : (Int) → (Int) → Prop) (μ0 : (Int) → (Int) → Nat), I0 (0 : Int) (0 : Int) ∧ (∀ (v6 : Int) (v7 : Int), I0 v6 v7 →
      (v6 < v4 →
        0 ≤ v6 ∧ (0 ≤ v6 →
        (-9223372036854775808 ≤ (v7 + (v3l v6)) ∧ (v7 + (v3l v6)) ≤ 9223372036854775807) ∧ ((-9223372036854775808 ≤ (v7 + (v3l v6)) ∧ (v7 + (v3l v6)) ≤ 9223372036854775807) →
        ∃ (I1 : (Int) → Prop) (μ1 : (Int) → Nat), I1 (0 : Int) ∧ (∀ (v8 : Int), I1 v8 →
          (0 ≤ (v3l v6) →
          ((v3l v6) ≤ 9223372036854775807 →
          (v8 < (v3l v6) →
            0 ≤ v8 ∧ (0 ≤ v8 →
            ((((rowA v3f v6) v8 0) < 1 ∨ 32767 < ((rowA v3f v6) v8 0)) →
              (0 : Int) = ruK v0 v1 v2 v3l v3f v4 ∧ (∀ (i : Int) (f : Nat), 0 ≤ i → i < ruK v0 v1 v2 v3l v3f v4 → f < 1 → zA i f = ruO v0 v1 v2 v3l v3f v4 i f) ∧ (0 : Int) = ruN v0 v1 v2 v3l v3f v4 v1 ∧ (∀ (i : Int) (f : Nat), 0 ≤ i → i < ruN v0 v1 v2 v3l v3f v4 v1 → f < 2 → zA i f = ruA v0 v1 v2 v3l v3f v4 i f) ∧ (0 : Int) = ruT v0 v1 v2 v3l v3f v4 ∧ (2 : Int) = ruE v0 v1 v2 v3l v3f v4 ∧ True) ∧
            (¬ ((((rowA v3f v6) v8 0) < 1 ∨ 32767 < ((rowA v3f v6) v8 0))) →
              (-9223372036854775808 ≤ (v8 + 1) ∧ (v8 + 1) ≤ 9223372036854775807) ∧ ((-9223372036854775808 ≤ (v8 + 1) ∧ (v8 + 1) ≤ 9223372036854775807) →
              I1 (v8 + 1) ∧ μ1 (v8 + 1) < μ1 v8)))) ∧
          (¬ (v8 < (v3l v6)) →
            (-9223372036854775808 ≤ (v6 + 1) ∧ (v6 + 1) ≤ 9223372036854775807) ∧ ((-9223372036854775808 ≤ (v6 + 1) ∧ (v6 + 1) ≤ 9223372036854775807) →
            I0 (v6 + 1) (v7 + (v3l v6)) ∧ μ0 (v6 + 1) (v7 + (v3l v6)) < μ0 v6 v7)))))))) ∧
      (¬ (v6 < v4) →
        ((¬ (v4 = v1) ∨ 10000 < v7) →
          (0 : Int) = ruK v0 v1 v2 v3l v3f v4 ∧ (∀ (i : Int) (f : Nat), 0 ≤ i → i < ruK v0 v1 v2 v3l v3f v4 → f < 1 → zA i f = ruO v0 v1 v2 v3l v3f v4 i f) ∧ (0 : Int) = ruN v0 v1 v2 v3l v3f v4 v1 ∧ (∀ (i : Int) (f : Nat), 0 ≤ i → i < ruN v0 v1 v2 v3l v3f v4 v1 → f < 2 → zA i f = ruA v0 v1 v2 v3l v3f v4 i f) ∧ (0 : Int) = ruT v0 v1 v2 v3l v3f v4 ∧ (2 : Int) = ruE v0 v1 v2 v3l v3f v4 ∧ True) ∧
        (¬ ((¬ (v4 = v1) ∨ 10000 < v7)) →
          (v1 ≤ 1000) ∧ (∀ (v8 : Int → Nat → Int) (v9 : Int), v8 = v0 → v9 = v1 → 
          (0 ≤ v9 →
          (v9 ≤ 9223372036854775807 →
          (∀ (v10 : Bool),
          ((¬ (v10 = true) ∨ v4 = 0) →
          (v10 = true →
            ∃ (I1 : (Int → Nat → Int) → (Int) → (Int → Int) → (Int → Int → Nat → Int) → (Int) → (Int → Nat → Int) → (Int) → (Int) → Prop) (μ1 : (Int → Nat → Int) → (Int) → (Int → Int) → (Int → Int → Nat → Int) → (Int) → (Int → Nat → Int) → (Int) → (Int) → Nat), I1 v8 v2 (srL zL (-1) 0) (srF zF (-1) zA) (0 : Int) zA (0 : Int) v7 ∧ (∀ (v11 : Int → Nat → Int) (v12 : Int) (v13l : Int → Int) (v13f : Int → Int → Nat → Int) (v14 : Int) (v15 : Int → Nat → Int) (v16 : Int) (v17 : Int), I1 v11 v12 v13l v13f v14 v15 v16 v17 →
              (0 ≤ v14 →
              (v14 ≤ 9223372036854775807 →
              (0 ≤ v16 →
              (v16 ≤ 9223372036854775807 →
              (0 < v17 →
                ∃ (I2 : (Int → Nat → Int) → (Int) → Prop) (μ2 : (Int → Nat → Int) → (Int) → Nat), I2 v11 v12 ∧ (∀ (v18 : Int → Nat → Int) (v19 : Int), I2 v18 v19 →
                  0 ≤ v19 ∧ (0 ≤ v19 →
                  v19 < v9 ∧ (v19 < v9 →
                  v19 < v14 ∧ (v19 < v14 →
                  (¬ (0 < (v13l v19)) →
                    (-9223372036854775808 ≤ (v19 + 1) ∧ (v19 + 1) ≤ 9223372036854775807) ∧ ((-9223372036854775808 ≤ (v19 + 1) ∧ (v19 + 1) ≤ 9223372036854775807) →
                    ¬ (v9 = 0) ∧ (¬ (v9 = 0) →
                    I2 (setA v18 v19 1 (min (v18 v19 1) 0)) (Int.tmod (v19 + 1) v9) ∧ μ2 (setA v18 v19 1 (min (v18 v19 1) 0)) (Int.tmod (v19 + 1) v9) < μ2 v18 v19))) ∧
                  (¬ (¬ (0 < (v13l v19))) →
                    (0 < (v18 v19 1) →
                      (-9223372036854775808 ≤ ((v18 v19 1) - ((rowA v13f v19) 0 0)) ∧ ((v18 v19 1) - ((rowA v13f v19) 0 0)) ≤ 9223372036854775807) ∧ ((-9223372036854775808 ≤ ((v18 v19 1) - ((rowA v13f v19) 0 0)) ∧ ((v18 v19 1) - ((rowA v13f v19) 0 0)) ≤ 9223372036854775807) →
                      (0 ≤ (v13l v19) →
                      ((v13l v19) ≤ 9223372036854775807 →
                      1 ≤ (v13l v19) ∧ (1 ≤ (v13l v19) →
                      (v13l v19) ≤ (v13l v19) ∧ ((v13l v19) ≤ (v13l v19) →
                      False /- operation airtime.go:112 -/)))))) ∧
                    (¬ (0 < (v18 v19 1)) →
                      (-9223372036854775808 ≤ (1000 * (v18 v19 0)) ∧ (1000 * (v18 v19 0)) ≤ 9223372036854775807) ∧ ((-9223372036854775808 ≤ (1000 * (v18 v19 0)) ∧ (1000 * (v18 v19 0)) ≤ 9223372036854775807) →
                      (-9223372036854775808 ≤ ((v18 v19 1) + (1000 * (v18 v19 0))) ∧ ((v18 v19 1) + (1000 * (v18 v19 0))) ≤ 9223372036854775807) ∧ ((-9223372036854775808 ≤ ((v18 v19 1) + (1000 * (v18 v19 0))) ∧ ((v18 v19 1) + (1000 * (v18 v19 0))) ≤ 9223372036854775807) →
                      (-9223372036854775808 ≤ (v19 + 1) ∧ (v19 + 1) ≤ 9223372036854775807) ∧ ((-9223372036854775808 ≤ (v19 + 1) ∧ (v19 + 1) ≤ 9223372036854775807) →
                      ¬ (v9 = 0) ∧ (¬ (v9 = 0) →
                      I2 (setA v18 v19 1 ((v18 v19 1) + (1000 * (v18 v19 0)))) (Int.tmod (v19 + 1) v9) ∧ μ2 (setA v18 v19 1 ((v18 v19 1) + (1000 * (v18 v19 0)))) (Int.tmod (v19 + 1) v9) < μ2 v18 v19))))))))))) ∧
              (¬ (0 < v17) →
                v16 = ruK v0 v1 v2 v3l v3f v4 ∧ (∀ (i : Int) (f : Nat), 0 ≤ i → i < ruK v0 v1 v2 v3l v3f v4 → f < 1 → v15 i f = ruO v0 v1 v2 v3l v3f v4 i f) ∧ v9 = ruN v0 v1 v2 v3l v3f v4 v1 ∧ (∀ (i : Int) (f : Nat), 0 ≤ i → i < ruN v0 v1 v2 v3l v3f v4 v1 → f < 2 → v11 i f = ruA v0 v1 v2 v3l v3f v4 i f) ∧ v12 = ruT v0 v1 v2 v3l v3f v4 ∧ (0 : Int) = ruE v0 v1 v2 v3l v3f v4 ∧ True))))))) ∧
          (¬ (v10 = true) →
            (v4 * 24) ≤ 140737488355328 ∧ ((v4 * 24) ≤ 140737488355328 →
            v4 ≤ 140737488355328 ∧ (v4 ≤ 140737488355328 →
            ∃ (I1 : (Int → Nat → Int) → (Int) → (Int → Int) → (Int → Int → Nat → Int) → (Int) → (Int → Nat → Int) → (Int) → (Int) → Prop) (μ1 : (Int → Nat → Int) → (Int) → (Int → Int) → (Int → Int → Nat → Int) → (Int) → (Int → Nat → Int) → (Int) → (Int) → Nat), I1 v8 v2 v3l v3f v4 zA (0 : Int) v7 ∧ (∀ (v11 : Int → Nat → Int) (v12 : Int) (v13l : Int → Int) (v13f : Int → Int → Nat → Int) (v14 : Int) (v15 : Int → Nat → Int) (v16 : Int) (v17 : Int), I1 v11 v12 v13l v13f v14 v15 v16 v17 →
              (0 ≤ v14 →
              (v14 ≤ 9223372036854775807 →
              (0 ≤ v16 →
              (v16 ≤ 9223372036854775807 →
              (0 < v17 →
                ∃ (I2 : (Int → Nat → Int) → (Int) → Prop) (μ2 : (Int → Nat → Int) → (Int) → Nat), I2 v11 v12 ∧ (∀ (v18 : Int → Nat → Int) (v19 : Int), I2 v18 v19 →
                  0 ≤ v19 ∧ (0 ≤ v19 →
                  v19 < v9 ∧ (v19 < v9 →
                  v19 < v14 ∧ (v19 < v14 →
                  (¬ (0 < (v13l v19)) →
                    (-9223372036854775808 ≤ (v19 + 1) ∧ (v19 + 1) ≤ 9223372036854775807) ∧ ((-9223372036854775808 ≤ (v19 + 1) ∧ (v19 + 1) ≤ 9223372036854775807) →
                    ¬ (v9 = 0) ∧ (¬ (v9 = 0) →
                    I2 (setA v18 v19 1 (min (v18 v19 1) 0)) (Int.tmod (v19 + 1) v9) ∧ μ2 (setA v18 v19 1 (min (v18 v19 1) 0)) (Int.tmod (v19 + 1) v9) < μ2 v18 v19))) ∧
                  (¬ (¬ (0 < (v13l v19))) →
                    (0 < (v18 v19 1) →
                      (-9223372036854775808 ≤ ((v18 v19 1) - ((rowA v13f v19) 0 0)) ∧ ((v18 v19 1) - ((rowA v13f v19) 0 0)) ≤ 9223372036854775807) ∧ ((-9223372036854775808 ≤ ((v18 v19 1) - ((rowA v13f v19) 0 0)) ∧ ((v18 v19 1) - ((rowA v13f v19) 0 0)) ≤ 9223372036854775807) →
                      (0 ≤ (v13l v19) →
                      ((v13l v19) ≤ 9223372036854775807 →
                      1 ≤ (v13l v19) ∧ (1 ≤ (v13l v19) →
                      (v13l v19) ≤ (v13l v19) ∧ ((v13l v19) ≤ (v13l v19) →
                      (1 + ((v13l v19) - 1)) ≤ (v13l v19) ∧ ((1 + ((v13l v19) - 1)) ≤ (v13l v19) →
                      ((v16 + 1) * 8) ≤ 140737488355328 ∧ (((v16 + 1) * 8) ≤ 140737488355328 →
                      (v16 + 1) ≤ 140737488355328 ∧ ((v16 + 1) ≤ 140737488355328 →
                      (-9223372036854775808 ≤ (v17 - 1) ∧ (v17 - 1) ≤ 9223372036854775807) ∧ ((-9223372036854775808 ≤ (v17 - 1) ∧ (v17 - 1) ≤ 9223372036854775807) →
                      I1 (setA v18 v19 1 ((v18 v19 1) - ((rowA v13f v19) 0 0))) v19 (srL v13l v19 ((v13l v19) - 1)) (srF v13f v19 (shA (rowA v13f v19) 1)) v14 (appA v15 v16 (setA zA 0 0 v19)) (v16 + 1) (v17 - 1) ∧ μ1 (setA v18 v19 1 ((v18 v19 1) - ((rowA v13f v19) 0 0))) v19 (srL v13l v19 ((v13l v19) - 1)) (srF v13f v19 (shA (rowA v13f v19) 1)) v14 (appA v15 v16 (setA zA 0 0 v19)) (v16 + 1) (v17 - 1) < μ1 v11 v12 v13l v13f v14 v15 v16 v17)))))))))) ∧
                    (¬ (0 < (v18 v19 1)) →
                      (-9223372036854775808 ≤ (1000 * (v18 v19 0)) ∧ (1000 * (v18 v19 0)) ≤ 9223372036854775807) ∧ ((-9223372036854775808 ≤ (1000 * (v18 v19 0)) ∧ (1000 * (v18 v19 0)) ≤ 9223372036854775807) →
                      (-9223372036854775808 ≤ ((v18 v19 1) + (1000 * (v18 v19 0))) ∧ ((v18 v19 1) + (1000 * (v18 v19 0))) ≤ 9223372036854775807) ∧ ((-9223372036854775808 ≤ ((v18 v19 1) + (1000 * (v18 v19 0))) ∧ ((v18 v19 1) + (1000 * (v18 v19 0))) ≤ 9223372036854775807) →
                      (-9223372036854775808 ≤ (v19 + 1) ∧ (v19 + 1) ≤ 9223372036854775807) ∧ ((-9223372036854775808 ≤ (v19 + 1) ∧ (v19 + 1) ≤ 9223372036854775807) →
                      ¬ (v9 = 0) ∧ (¬ (v9 = 0) →
                      I2 (setA v18 v19 1 ((v18 v19 1) + (1000 * (v18 v19 0)))) (Int.tmod (v19 + 1) v9) ∧ μ2 (setA v18 v19 1 ((v18 v19 1) + (1000 * (v18 v19 0)))) (Int.tmod (v19 + 1) v9) < μ2 v18 v19))))))))))) ∧
              (¬ (0 < v17) →
                v16 = ruK v0 v1 v2 v3l v3f v4 ∧ (∀ (i : Int) (f : Nat), 0 ≤ i → i < ruK v0 v1 v2 v3l v3f v4 → f < 1 → v15 i f = ruO v0 v1 v2 v3l v3f v4 i f) ∧ v9 = ruN v0 v1 v2 v3l v3f v4 v1 ∧ (∀ (i : Int) (f : Nat), 0 ≤ i → i < ruN v0 v1 v2 v3l v3f v4 v1 → f < 2 → v11 i f = ruA v0 v1 v2 v3l v3f v4 i f) ∧ v12 = ruT v0 v1 v2 v3l v3f v4 ∧ (0 : Int) = ruE v0 v1 v2 v3l v3f v4 ∧ True)))))))))))))))))))))))
theorem vh11 (h : VC11) : VH11 := by
  unfold VH11
  rw [hidF_eq ckA, hidF_eq ruA, hidF_eq ruE, hidF_eq ruK, hidF_eq ruN, hidF_eq ruO, hidF_eq ruT]
  exact h
end Go.Proofs.Ytccmgepknjkakaa
