/- What the functions do, and what is left to show of each. -/
import Derived.Test.YtgdjdaoglkfjdaaC
import Derived.Test.YtgdjdaoglkfjdaaD5
set_option linter.unusedVariables false
namespace Go.Proofs.Ytgdjdaoglkfjdaa
open Go Go.RowKit Go.Proofs.Ytgdjdaoglkfjdaa.Vc
/-! hotspotref11.Can -/
def sig44 : CSig := ⟨[⟨true, [.slc [.int .i64, .int .i64, .int .i64, .int .i64], .mat [.int .i64]]⟩, ⟨false, [.slc [.int .i64, .int .i64, .int .i64, .int .i64]]⟩, ⟨false, [.int .i64]⟩, ⟨false, [.int .i64]⟩], [⟨false, [.bool]⟩]⟩
def pre44 : List AV → Prop
  | [.a v0, .i v1, .m v2l v2f, .i v3, .a v4, .i v5, .i v6, .i v7] => mcE v0 v1 v2l v2f v3 v4 v5 = 0 ∧ 0 ≤ v6 ∧ v6 < v5 ∧ 0 ≤ v7 ∧ v7 < v1
  | _ => False
noncomputable def raw44 : List AV → List AV
  | [.a v0, .i v1, .m v2l v2f, .i v3, .a v4, .i v5, .i v6, .i v7] => [.b ((hidF caB) v0 v2f v3 v4 v5 v6 v7)]
  | _ => []

def VH44 : Prop :=
  ∀ (v0 : Int → Nat → Int) (v1 : Int) (v2l : Int → Int) (v2f : Int → Int → Nat → Int) (v3 : Int) (v4 : Int → Nat → Int) (v5 : Int) (v6 : Int) (v7 : Int),
  (mcE v0 v1 v2l v2f v3 v4 v5 = 0 ∧ 0 ≤ v6 ∧ v6 < v5 ∧ 0 ≤ v7 ∧ v7 < v1) →
  (0 ≤ v1 →
  (0 ≤ v3 →
  (0 ≤ v5 →
  0 ≤ v6 ∧ (0 ≤ v6 →
  v6 < v5 ∧ (v6 < v5 →
  (ckW v0 v1 v2l v2f v3 = 0 ∧ 0 ≤ (v4 v6 0) ∧ (v4 v6 0) < v1 ∧ 0 ≤ v7 ∧ v7 < v1) ∧ (∀ (v8 : Int), v8 = (hidF lvA) v0 v2f v3 (v4 v6 0) v7 → 
  (v1 ≤ 9223372036854775807 →
  (v3 ≤ 9223372036854775807 →
  (v5 ≤ 9223372036854775807 →
  (ckW v0 v1 v2l v2f v3 = 0 ∧ 0 ≤ v7 ∧ v7 < v1 ∧ 0 ≤ (v4 v6 0) ∧ (v4 v6 0) < v1) ∧ (∀ (v9 : Bool), v9 = (hidF hrA) v0 v2f v3 v7 (v4 v6 0) → 
  ((¬ (v9 = true) ∨ v8 < (v4 v6 3)) →
    (False ↔ (hidF caB) v0 v2f v3 v4 v5 v6 v7 = true) ∧ True) ∧
  (¬ ((¬ (v9 = true) ∨ v8 < (v4 v6 3))) →
    ∃ (I0 : (Int) → Prop) (μ0 : (Int) → Nat), I0 (0 : Int) ∧ (∀ (v10 : Int), I0 v10 →
      (v10 < v5 →
        (v10 = v6 ∨ 0 ≤ v10) ∧ ((v10 = v6 ∨ 0 ≤ v10) →
        (v10 = v6 ∨ 0 ≤ v10) ∧ ((v10 = v6 ∨ 0 ≤ v10) →
        ((¬ (v10 = v6) → True)) ∧ (∀ (v11 : Bool), v11 = (hidF ovl) (v4 v10 1) (v4 v10 2) (v4 v6 1) (v4 v6 2) → 
        ((v10 = v6 ∨ ¬ (v11 = true)) →
          (-9223372036854775808 ≤ (v10 + 1) ∧ (v10 + 1) ≤ 9223372036854775807) ∧ ((-9223372036854775808 ≤ (v10 + 1) ∧ (v10 + 1) ≤ 9223372036854775807) →
          I0 (v10 + 1) ∧ μ0 (v10 + 1) < μ0 v10)) ∧
        (¬ ((v10 = v6 ∨ ¬ (v11 = true))) →
          0 ≤ v10 ∧ (0 ≤ v10 →
          ((v4 v10 0) = v7 →
            (False ↔ (hidF caB) v0 v2f v3 v4 v5 v6 v7 = true) ∧ True) ∧
          (¬ ((v4 v10 0) = v7) →
            0 ≤ (v4 v10 0) ∧ (0 ≤ (v4 v10 0) →
            (v4 v10 0) < v1 ∧ ((v4 v10 0) < v1 →
            0 ≤ v7 ∧ (0 ≤ v7 →
            v7 < v1 ∧ (v7 < v1 →
            (((v0 (v4 v10 0) 3) = (v0 v7 3) → ckW v0 v1 v2l v2f v3 = 0 ∧ 0 ≤ (v4 v10 0) ∧ (v4 v10 0) < v1 ∧ 0 ≤ v7 ∧ v7 < v1)) ∧ (∀ (v12 : Int), v12 = (hidF lvA) v0 v2f v3 (v4 v10 0) v7 → 
            (¬ ((v0 (v4 v10 0) 3) = (v0 v7 3)) ∨ (-9223372036854775808 ≤ (v12 + 100) ∧ (v12 + 100) ≤ 9223372036854775807)) ∧ ((¬ ((v0 (v4 v10 0) 3) = (v0 v7 3)) ∨ (-9223372036854775808 ≤ (v12 + 100) ∧ (v12 + 100) ≤ 9223372036854775807)) →
            (((v0 (v4 v10 0) 3) = (v0 v7 3) ∧ v8 < (v12 + 100)) →
              (False ↔ (hidF caB) v0 v2f v3 v4 v5 v6 v7 = true) ∧ True) ∧
            (¬ (((v0 (v4 v10 0) 3) = (v0 v7 3) ∧ v8 < (v12 + 100))) →
              (-9223372036854775808 ≤ (v10 + 1) ∧ (v10 + 1) ≤ 9223372036854775807) ∧ ((-9223372036854775808 ≤ (v10 + 1) ∧ (v10 + 1) ≤ 9223372036854775807) →
              I0 (v10 + 1) ∧ μ0 (v10 + 1) < μ0 v10))))))))))))))) ∧
      (¬ (v10 < v5) →
        (True ↔ (hidF caB) v0 v2f v3 v4 v5 v6 v7 = true) ∧ True)))))))))))))
def VC44 : Prop :=
  ∀ (v0 : Int → Nat → Int) (v1 : Int) (v2l : Int → Int) (v2f : Int → Int → Nat → Int) (v3 : Int) (v4 : Int → Nat → Int) (v5 : Int) (v6 : Int) (v7 : Int),
  (mcE v0 v1 v2l v2f v3 v4 v5 = 0 ∧ 0 ≤ v6 ∧ v6 < v5 ∧ 0 ≤ v7 ∧ v7 < v1) →
  (0 ≤ v1 →
  (0 ≤ v3 →
  (0 ≤ v5 →
  0 ≤ v6 ∧ (0 ≤ v6 →
  v6 < v5 ∧ (v6 < v5 →
  (ckW v0 v1 v2l v2f v3 = 0 ∧ 0 ≤ (v4 v6 0) ∧ (v4 v6 0) < v1 ∧ 0 ≤ v7 ∧ v7 < v1) ∧ (∀ (v8 : Int), v8 = lvA v0 v2f v3 (v4 v6 0) v7 → 
  (v1 ≤ 9223372036854775807 →
  (v3 ≤ 9223372036854775807 →
  (v5 ≤ 9223372036854775807 →
  (ckW v0 v1 v2l v2f v3 = 0 ∧ 0 ≤ v7 ∧ v7 < v1 ∧ 0 ≤ (v4 v6 0) ∧ (v4 v6 0) < v1) ∧ (∀ (v9 : Bool), v9 = hrA v0 v2f v3 v7 (v4 v6 0) → 
  ((¬ (v9 = true) ∨ v8 < (v4 v6 3)) →
    (False ↔ caB v0 v2f v3 v4 v5 v6 v7 = true) ∧ True) ∧
  (¬ ((¬ (v9 = true) ∨ v8 < (v4 v6 3))) →
    ∃ (I0 : (Int) → Prop) (μ0 : (Int) → Nat), I0 (0 : Int) ∧ (∀ (v10 : Int), I0 v10 →
      (v10 < v5 →
        (v10 = v6 ∨ 0 ≤ v10) ∧ ((v10 = v6 ∨ 0 ≤ v10) →
        (v10 = v6 ∨ 0 ≤ v10) ∧ ((v10 = v6 ∨ 0 ≤ v10) →
        ((¬ (v10 = v6) → True)) ∧ (∀ (v11 : Bool), v11 = ovl (v4 v10 1) (v4 v10 2) (v4 v6 1) (v4 v6 2) → 
        ((v10 = v6 ∨ ¬ (v11 = true)) →
          (-9223372036854775808 ≤ (v10 + 1) ∧ (v10 + 1) ≤ 9223372036854775807) ∧ ((-9223372036854775808 ≤ (v10 + 1) ∧ (v10 + 1) ≤ 9223372036854775807) →
          I0 (v10 + 1) ∧ μ0 (v10 + 1) < μ0 v10)) ∧
        (¬ ((v10 = v6 ∨ ¬ (v11 = true))) →
          0 ≤ v10 ∧ (0 ≤ v10 →
          ((v4 v10 0) = v7 →
            (False ↔ caB v0 v2f v3 v4 v5 v6 v7 = true) ∧ True) ∧
          (¬ ((v4 v10 0) = v7) →
            0 ≤ (v4 v10 0) ∧ (0 ≤ (v4 v10 0) →
            (v4 v10 0) < v1 ∧ ((v4 v10 0) < v1 →
            0 ≤ v7 ∧ (0 ≤ v7 →
            v7 < v1 ∧ (v7 < v1 →
            (((v0 (v4 v10 0) 3) = (v0 v7 3) → ckW v0 v1 v2l v2f v3 = 0 ∧ 0 ≤ (v4 v10 0) ∧ (v4 v10 0) < v1 ∧ 0 ≤ v7 ∧ v7 < v1)) ∧ (∀ (v12 : Int), v12 = lvA v0 v2f v3 (v4 v10 0) v7 → 
            (¬ ((v0 (v4 v10 0) 3) = (v0 v7 3)) ∨ (-9223372036854775808 ≤ (v12 + 100) ∧ (v12 + 100) ≤ 9223372036854775807)) ∧ ((¬ ((v0 (v4 v10 0) 3) = (v0 v7 3)) ∨ (-9223372036854775808 ≤ (v12 + 100) ∧ (v12 + 100) ≤ 9223372036854775807)) →
            (((v0 (v4 v10 0) 3) = (v0 v7 3) ∧ v8 < (v12 + 100)) →
              (False ↔ caB v0 v2f v3 v4 v5 v6 v7 = true) ∧ True) ∧
            (¬ (((v0 (v4 v10 0) 3) = (v0 v7 3) ∧ v8 < (v12 + 100))) →
              (-9223372036854775808 ≤ (v10 + 1) ∧ (v10 + 1) ≤ 9223372036854775807) ∧ ((-9223372036854775808 ≤ (v10 + 1) ∧ (v10 + 1) ≤ 9223372036854775807) →
              I0 (v10 + 1) ∧ μ0 (v10 + 1) < μ0 v10))))))))))))))) ∧
      (¬ (v10 < v5) →
        (True ↔ caB v0 v2f v3 v4 v5 v6 v7 = true) ∧ True)))))))))))))
theorem vh44 (h : VC44) : VH44 := by
  unfold VH44
  rw [hidF_eq caB, hidF_eq hrA, hidF_eq lvA, hidF_eq ovl]
  exact h
/-! medium.Receivers -/
def sig20 : CSig := ⟨[⟨true, [.slc [.int .i64, .int .i64, .int .i64, .int .i64], .mat [.int .i64]]⟩, ⟨false, [.slc [.int .i64, .int .i64, .int .i64, .int .i64]]⟩, ⟨false, [.slc [.bool]]⟩], [⟨false, [.mat [.int .i64]]⟩, ⟨false, [.int .i64]⟩]⟩
def pre20 : List AV → Prop
  | [.a v0, .i v1, .m v2l v2f, .i v3, .a v4, .i v5, .a v6, .i v7] => True
  | _ => False
noncomputable def raw20 : List AV → List AV
  | [.a v0, .i v1, .m v2l v2f, .i v3, .a v4, .i v5, .a v6, .i v7] => [.m ((hidF reL) v0 v1 v2f v3 v4 v5 v6 v7) ((hidF reF) v0 v1 v2f v3 v4 v5 v6 v7), .i ((hidF reN) v0 v1 v2l v2f v3 v4 v5), .i ((hidF mcE) v0 v1 v2l v2f v3 v4 v5)]
  | _ => []

def VH20 : Prop :=
  ∀ (v0 : Int → Nat → Int) (v1 : Int) (v2l : Int → Int) (v2f : Int → Int → Nat → Int) (v3 : Int) (v4 : Int → Nat → Int) (v5 : Int) (v6 : Int → Nat → Int) (v7 : Int),
  (True) →
  (0 ≤ v1 →
  (0 ≤ v3 →
  (0 ≤ v5 →
  (0 ≤ v7 →
  (True) ∧ (∀ (v8 : Int), v8 = (hidF mcE) v0 v1 v2l v2f v3 v4 v5 → 
  (v1 ≤ 9223372036854775807 →
  (v3 ≤ 9223372036854775807 →
  (v5 ≤ 9223372036854775807 →
  (v7 ≤ 9223372036854775807 →
  (¬ (v8 = 0) →
    (0 : Int) = (hidF reN) v0 v1 v2l v2f v3 v4 v5 ∧ (∀ (i : Int), 0 ≤ i → i < (hidF reN) v0 v1 v2l v2f v3 v4 v5 → zL i = (hidF reL) v0 v1 v2f v3 v4 v5 v6 v7 i ∧ ∀ (j : Int) (f : Nat), 0 ≤ j → j < (hidF reL) v0 v1 v2f v3 v4 v5 v6 v7 i → f < 1 → zF i j f = (hidF reF) v0 v1 v2f v3 v4 v5 v6 v7 i j f) ∧ v8 = (hidF mcE) v0 v1 v2l v2f v3 v4 v5 ∧ True) ∧
  (¬ (¬ (v8 = 0)) →
    (v5 * 24) ≤ 140737488355328 ∧ ((v5 * 24) ≤ 140737488355328 →
    ∃ (I0 : (Int) → (Int) → (Int → Int) → (Int → Int → Nat → Int) → (Int) → Prop) (μ0 : (Int) → (Int) → (Int → Int) → (Int → Int → Nat → Int) → (Int) → Nat), I0 (0 : Int) (0 : Int) (srL zL (-1) 0) (srF zF (-1) zA) v5 ∧ (∀ (v9 : Int) (v10 : Int) (v11l : Int → Int) (v11f : Int → Int → Nat → Int) (v12 : Int), I0 v9 v10 v11l v11f v12 →
      (0 ≤ v12 →
      (v12 ≤ 9223372036854775807 →
      (v10 < v5 →
        ∃ (I1 : (Int) → (Int) → (Int → Int) → (Int → Int → Nat → Int) → (Int) → Prop) (μ1 : (Int) → (Int) → (Int → Int) → (Int → Int → Nat → Int) → (Int) → Nat), I1 v9 (0 : Int) v11l v11f v12 ∧ (∀ (v13 : Int) (v14 : Int) (v15l : Int → Int) (v15f : Int → Int → Nat → Int) (v16 : Int), I1 v13 v14 v15l v15f v16 →
          (0 ≤ v16 →
          (v16 ≤ 9223372036854775807 →
          (v14 < v1 →
            (mcE v0 v1 v2l v2f v3 v4 v5 = 0 ∧ 0 ≤ v10 ∧ v10 < v5 ∧ 0 ≤ v14 ∧ v14 < v1) ∧ (∀ (v17 : Bool), v17 = (hidF caB) v0 v2f v3 v4 v5 v10 v14 → 
            (¬ (v17 = true) →
              (-9223372036854775808 ≤ (v14 + 1) ∧ (v14 + 1) ≤ 9223372036854775807) ∧ ((-9223372036854775808 ≤ (v14 + 1) ∧ (v14 + 1) ≤ 9223372036854775807) →
              I1 v13 (v14 + 1) v15l v15f v16 ∧ μ1 v13 (v14 + 1) v15l v15f v16 < μ1 v13 v14 v15l v15f v16)) ∧
            (¬ (¬ (v17 = true)) →
              (v7 ≤ v13 ∨ 0 ≤ v13) ∧ ((v7 ≤ v13 ∨ 0 ≤ v13) →
              (v7 ≤ v13 ∨ v13 < v7) ∧ ((v7 ≤ v13 ∨ v13 < v7) →
              (v7 ≤ v13 ∨ 0 ≤ v13) ∧ ((v7 ≤ v13 ∨ 0 ≤ v13) →
              (v7 ≤ v13 ∨ v13 < v7) ∧ ((v7 ≤ v13 ∨ v13 < v7) →
              ((v7 ≤ v13 ∨ (v6 v13 0) = 0) →
                0 ≤ v10 ∧ (0 ≤ v10 →
                v10 < v16 ∧ (v10 < v16 →
                (((v15l v10) + 1) * 8) ≤ 140737488355328 ∧ ((((v15l v10) + 1) * 8) ≤ 140737488355328 →
                ((v15l v10) + 1) ≤ 140737488355328 ∧ (((v15l v10) + 1) ≤ 140737488355328 →
                (-9223372036854775808 ≤ (v13 + 1) ∧ (v13 + 1) ≤ 9223372036854775807) ∧ ((-9223372036854775808 ≤ (v13 + 1) ∧ (v13 + 1) ≤ 9223372036854775807) →
                (-9223372036854775808 ≤ (v14 + 1) ∧ (v14 + 1) ≤ 9223372036854775807) ∧ ((-9223372036854775808 ≤ (v14 + 1) ∧ (v14 + 1) ≤ 9223372036854775807) →
                I1 (v13 + 1) (v14 + 1) (srL v15l v10 ((v15l v10) + 1)) (srF v15f v10 (appA (rowA v15f v10) (v15l v10) (setA zA 0 0 v14))) v16 ∧ μ1 (v13 + 1) (v14 + 1) (srL v15l v10 ((v15l v10) + 1)) (srF v15f v10 (appA (rowA v15f v10) (v15l v10) (setA zA 0 0 v14))) v16 < μ1 v13 v14 v15l v15f v16))))))) ∧
              (¬ ((v7 ≤ v13 ∨ (v6 v13 0) = 0)) →
                (-9223372036854775808 ≤ (v13 + 1) ∧ (v13 + 1) ≤ 9223372036854775807) ∧ ((-9223372036854775808 ≤ (v13 + 1) ∧ (v13 + 1) ≤ 9223372036854775807) →
                (-9223372036854775808 ≤ (v14 + 1) ∧ (v14 + 1) ≤ 9223372036854775807) ∧ ((-9223372036854775808 ≤ (v14 + 1) ∧ (v14 + 1) ≤ 9223372036854775807) →
                I1 (v13 + 1) (v14 + 1) v15l v15f v16 ∧ μ1 (v13 + 1) (v14 + 1) v15l v15f v16 < μ1 v13 v14 v15l v15f v16)))))))))) ∧
          (¬ (v14 < v1) →
            (-9223372036854775808 ≤ (v10 + 1) ∧ (v10 + 1) ≤ 9223372036854775807) ∧ ((-9223372036854775808 ≤ (v10 + 1) ∧ (v10 + 1) ≤ 9223372036854775807) →
            I0 v13 (v10 + 1) v15l v15f v16 ∧ μ0 v13 (v10 + 1) v15l v15f v16 < μ0 v9 v10 v11l v11f v12)))))) ∧
      (¬ (v10 < v5) →
        v12 = (hidF reN) v0 v1 v2l v2f v3 v4 v5 ∧ (∀ (i : Int), 0 ≤ i → i < (hidF reN) v0 v1 v2l v2f v3 v4 v5 → v11l i = (hidF reL) v0 v1 v2f v3 v4 v5 v6 v7 i ∧ ∀ (j : Int) (f : Nat), 0 ≤ j → j < (hidF reL) v0 v1 v2f v3 v4 v5 v6 v7 i → f < 1 → v11f i j f = (hidF reF) v0 v1 v2f v3 v4 v5 v6 v7 i j f) ∧ (0 : Int) = (hidF mcE) v0 v1 v2l v2f v3 v4 v5 ∧ True)))))))))))))))
def VC20 : Prop :=
  ∀ (v0 : Int → Nat → Int) (v1 : Int) (v2l : Int → Int) (v2f : Int → Int → Nat → Int) (v3 : Int) (v4 : Int → Nat → Int) (v5 : Int) (v6 : Int → Nat → Int) (v7 : Int),
  (True) →
  (0 ≤ v1 →
  (0 ≤ v3 →
  (0 ≤ v5 →
  (0 ≤ v7 →
  (True) ∧ (∀ (v8 : Int), v8 = mcE v0 v1 v2l v2f v3 v4 v5 → 
  (v1 ≤ 9223372036854775807 →
  (v3 ≤ 9223372036854775807 →
  (v5 ≤ 9223372036854775807 →
  (v7 ≤ 9223372036854775807 →
  (¬ (v8 = 0) →
    (0 : Int) = reN v0 v1 v2l v2f v3 v4 v5 ∧ (∀ (i : Int), 0 ≤ i → i < reN v0 v1 v2l v2f v3 v4 v5 → zL i = reL v0 v1 v2f v3 v4 v5 v6 v7 i ∧ ∀ (j : Int) (f : Nat), 0 ≤ j → j < reL v0 v1 v2f v3 v4 v5 v6 v7 i → f < 1 → zF i j f = reF v0 v1 v2f v3 v4 v5 v6 v7 i j f) ∧ v8 = mcE v0 v1 v2l v2f v3 v4 v5 ∧ True) ∧
  (¬ (¬ (v8 = 0)) →
    (v5 * 24) ≤ 140737488355328 ∧ ((v5 * 24) ≤ 140737488355328 →
    ∃ (I0 : (Int) → (Int) → (Int → Int) → (Int → Int → Nat → Int) → (Int) → Prop) (μ0 : (Int) → (Int) → (Int → Int) → (Int → Int → Nat → Int) → (Int) → Nat), I0 (0 : Int) (0 : Int) (srL zL (-1) 0) (srF zF (-1) zA) v5 ∧ (∀ (v9 : Int) (v10 : Int) (v11l : Int → Int) (v11f : Int → Int → Nat → Int) (v12 : Int), I0 v9 v10 v11l v11f v12 →
      (0 ≤ v12 →
      (v12 ≤ 9223372036854775807 →
      (v10 < v5 →
        ∃ (I1 : (Int) → (Int) → (Int → Int) → (Int → Int → Nat → Int) → (Int) → Prop) (μ1 : (Int) → (Int) → (Int → Int) → (Int → Int → Nat → Int) → (Int) → Nat), I1 v9 (0 : Int) v11l v11f v12 ∧ (∀ (v13 : Int) (v14 : Int) (v15l : Int → Int) (v15f : Int → Int → Nat → Int) (v16 : Int), I1 v13 v14 v15l v15f v16 →
          (0 ≤ v16 →
          (v16 ≤ 9223372036854775807 →
          (v14 < v1 →
            (mcE v0 v1 v2l v2f v3 v4 v5 = 0 ∧ 0 ≤ v10 ∧ v10 < v5 ∧ 0 ≤ v14 ∧ v14 < v1) ∧ (∀ (v17 : Bool), v17 = caB v0 v2f v3 v4 v5 v10 v14 → 
            (¬ (v17 = true) →
              (-9223372036854775808 ≤ (v14 + 1) ∧ (v14 + 1) ≤ 9223372036854775807) ∧ ((-9223372036854775808 ≤ (v14 + 1) ∧ (v14 + 1) ≤ 9223372036854775807) →
              I1 v13 (v14 + 1) v15l v15f v16 ∧ μ1 v13 (v14 + 1) v15l v15f v16 < μ1 v13 v14 v15l v15f v16)) ∧
            (¬ (¬ (v17 = true)) →
              (v7 ≤ v13 ∨ 0 ≤ v13) ∧ ((v7 ≤ v13 ∨ 0 ≤ v13) →
              (v7 ≤ v13 ∨ v13 < v7) ∧ ((v7 ≤ v13 ∨ v13 < v7) →
              (v7 ≤ v13 ∨ 0 ≤ v13) ∧ ((v7 ≤ v13 ∨ 0 ≤ v13) →
              (v7 ≤ v13 ∨ v13 < v7) ∧ ((v7 ≤ v13 ∨ v13 < v7) →
              ((v7 ≤ v13 ∨ (v6 v13 0) = 0) →
                0 ≤ v10 ∧ (0 ≤ v10 →
                v10 < v16 ∧ (v10 < v16 →
                (((v15l v10) + 1) * 8) ≤ 140737488355328 ∧ ((((v15l v10) + 1) * 8) ≤ 140737488355328 →
                ((v15l v10) + 1) ≤ 140737488355328 ∧ (((v15l v10) + 1) ≤ 140737488355328 →
                (-9223372036854775808 ≤ (v13 + 1) ∧ (v13 + 1) ≤ 9223372036854775807) ∧ ((-9223372036854775808 ≤ (v13 + 1) ∧ (v13 + 1) ≤ 9223372036854775807) →
                (-9223372036854775808 ≤ (v14 + 1) ∧ (v14 + 1) ≤ 9223372036854775807) ∧ ((-9223372036854775808 ≤ (v14 + 1) ∧ (v14 + 1) ≤ 9223372036854775807) →
                I1 (v13 + 1) (v14 + 1) (srL v15l v10 ((v15l v10) + 1)) (srF v15f v10 (appA (rowA v15f v10) (v15l v10) (setA zA 0 0 v14))) v16 ∧ μ1 (v13 + 1) (v14 + 1) (srL v15l v10 ((v15l v10) + 1)) (srF v15f v10 (appA (rowA v15f v10) (v15l v10) (setA zA 0 0 v14))) v16 < μ1 v13 v14 v15l v15f v16))))))) ∧
              (¬ ((v7 ≤ v13 ∨ (v6 v13 0) = 0)) →
                (-9223372036854775808 ≤ (v13 + 1) ∧ (v13 + 1) ≤ 9223372036854775807) ∧ ((-9223372036854775808 ≤ (v13 + 1) ∧ (v13 + 1) ≤ 9223372036854775807) →
                (-9223372036854775808 ≤ (v14 + 1) ∧ (v14 + 1) ≤ 9223372036854775807) ∧ ((-9223372036854775808 ≤ (v14 + 1) ∧ (v14 + 1) ≤ 9223372036854775807) →
                I1 (v13 + 1) (v14 + 1) v15l v15f v16 ∧ μ1 (v13 + 1) (v14 + 1) v15l v15f v16 < μ1 v13 v14 v15l v15f v16)))))))))) ∧
          (¬ (v14 < v1) →
            (-9223372036854775808 ≤ (v10 + 1) ∧ (v10 + 1) ≤ 9223372036854775807) ∧ ((-9223372036854775808 ≤ (v10 + 1) ∧ (v10 + 1) ≤ 9223372036854775807) →
            I0 v13 (v10 + 1) v15l v15f v16 ∧ μ0 v13 (v10 + 1) v15l v15f v16 < μ0 v9 v10 v11l v11f v12)))))) ∧
      (¬ (v10 < v5) →
        v12 = reN v0 v1 v2l v2f v3 v4 v5 ∧ (∀ (i : Int), 0 ≤ i → i < reN v0 v1 v2l v2f v3 v4 v5 → v11l i = reL v0 v1 v2f v3 v4 v5 v6 v7 i ∧ ∀ (j : Int) (f : Nat), 0 ≤ j → j < reL v0 v1 v2f v3 v4 v5 v6 v7 i → f < 1 → v11f i j f = reF v0 v1 v2f v3 v4 v5 v6 v7 i j f) ∧ (0 : Int) = mcE v0 v1 v2l v2f v3 v4 v5 ∧ True)))))))))))))))
theorem vh20 (h : VC20) : VH20 := by
  unfold VH20
  rw [hidF_eq caB, hidF_eq mcE, hidF_eq reF, hidF_eq reL, hidF_eq reN]
  exact h
/-! hotspotref11.Receivers -/
def sig21 : CSig := ⟨[⟨true, [.slc [.int .i64, .int .i64, .int .i64, .int .i64], .mat [.int .i64]]⟩, ⟨false, [.slc [.int .i64, .int .i64, .int .i64, .int .i64]]⟩, ⟨false, [.slc [.bool]]⟩], [⟨false, [.mat [.int .i64]]⟩, ⟨false, [.int .i64]⟩]⟩
def pre21 : List AV → Prop
  | [.a v0, .i v1, .m v2l v2f, .i v3, .a v4, .i v5, .a v6, .i v7] => True
  | _ => False
noncomputable def raw21 : List AV → List AV
  | [.a v0, .i v1, .m v2l v2f, .i v3, .a v4, .i v5, .a v6, .i v7] => [.m ((hidF reL) v0 v1 v2f v3 v4 v5 v6 v7) ((hidF reF) v0 v1 v2f v3 v4 v5 v6 v7), .i ((hidF reN) v0 v1 v2l v2f v3 v4 v5), .i ((hidF mcE) v0 v1 v2l v2f v3 v4 v5)]
  | _ => []

def VH21 : Prop :=
  ∀ (v0 : Int → Nat → Int) (v1 : Int) (v2l : Int → Int) (v2f : Int → Int → Nat → Int) (v3 : Int) (v4 : Int → Nat → Int) (v5 : Int) (v6 : Int → Nat → Int) (v7 : Int),
  (True) →
  (0 ≤ v1 →
  (0 ≤ v3 →
  (0 ≤ v5 →
  (0 ≤ v7 →
  (True) ∧ (∀ (v8 : Int), v8 = (hidF mcE) v0 v1 v2l v2f v3 v4 v5 → 
  (v1 ≤ 9223372036854775807 →
  (v3 ≤ 9223372036854775807 →
  (v5 ≤ 9223372036854775807 →
  (v7 ≤ 9223372036854775807 →
  (¬ (v8 = 0) →
    (0 : Int) = (hidF reN) v0 v1 v2l v2f v3 v4 v5 ∧ (∀ (i : Int), 0 ≤ i → i < (hidF reN) v0 v1 v2l v2f v3 v4 v5 → zL i = (hidF reL) v0 v1 v2f v3 v4 v5 v6 v7 i ∧ ∀ (j : Int) (f : Nat), 0 ≤ j → j < (hidF reL) v0 v1 v2f v3 v4 v5 v6 v7 i → f < 1 → zF i j f = (hidF reF) v0 v1 v2f v3 v4 v5 v6 v7 i j f) ∧ v8 = (hidF mcE) v0 v1 v2l v2f v3 v4 v5 ∧ True) ∧
  (¬ (¬ (v8 = 0)) →
    ∃ (I0 : (Int) → (Int) → (Int → Int) → (Int → Int → Nat → Int) → (Int) → Prop) (μ0 : (Int) → (Int) → (Int → Int) → (Int → Int → Nat → Int) → (Int) → Nat), I0 (0 : Int) (0 : Int) (srL zL (-1) 0) (srF zF (-1) zA) (0 : Int) ∧ (∀ (v9 : Int) (v10 : Int) (v11l : Int → Int) (v11f : Int → Int → Nat → Int) (v12 : Int), I0 v9 v10 v11l v11f v12 →
      (0 ≤ v12 →
      (v12 ≤ 9223372036854775807 →
      (v10 < v5 →
        ∃ (I1 : (Int) → (Int → Nat → Int) → (Int) → (Int) → Prop) (μ1 : (Int) → (Int → Nat → Int) → (Int) → (Int) → Nat), I1 v9 zA (0 : Int) (0 : Int) ∧ (∀ (v13 : Int) (v14 : Int → Nat → Int) (v15 : Int) (v16 : Int), I1 v13 v14 v15 v16 →
          (0 ≤ v15 →
          (v15 ≤ 9223372036854775807 →
          (v16 < v1 →
            (mcE v0 v1 v2l v2f v3 v4 v5 = 0 ∧ 0 ≤ v10 ∧ v10 < v5 ∧ 0 ≤ v16 ∧ v16 < v1) ∧ (∀ (v17 : Bool), v17 = (hidF caB) v0 v2f v3 v4 v5 v10 v16 → 
            (v17 = true →
              (v7 ≤ v13 ∨ 0 ≤ v13) ∧ ((v7 ≤ v13 ∨ 0 ≤ v13) →
              (v7 ≤ v13 ∨ v13 < v7) ∧ ((v7 ≤ v13 ∨ v13 < v7) →
              (v7 ≤ v13 ∨ 0 ≤ v13) ∧ ((v7 ≤ v13 ∨ 0 ≤ v13) →
              (v7 ≤ v13 ∨ v13 < v7) ∧ ((v7 ≤ v13 ∨ v13 < v7) →
              ((v7 ≤ v13 ∨ (v6 v13 0) = 0) →
                ((v15 + 1) * 8) ≤ 140737488355328 ∧ (((v15 + 1) * 8) ≤ 140737488355328 →
                (v15 + 1) ≤ 140737488355328 ∧ ((v15 + 1) ≤ 140737488355328 →
                (-9223372036854775808 ≤ (v13 + 1) ∧ (v13 + 1) ≤ 9223372036854775807) ∧ ((-9223372036854775808 ≤ (v13 + 1) ∧ (v13 + 1) ≤ 9223372036854775807) →
                (-9223372036854775808 ≤ (v16 + 1) ∧ (v16 + 1) ≤ 9223372036854775807) ∧ ((-9223372036854775808 ≤ (v16 + 1) ∧ (v16 + 1) ≤ 9223372036854775807) →
                I1 (v13 + 1) (appA v14 v15 (setA zA 0 0 v16)) (v15 + 1) (v16 + 1) ∧ μ1 (v13 + 1) (appA v14 v15 (setA zA 0 0 v16)) (v15 + 1) (v16 + 1) < μ1 v13 v14 v15 v16))))) ∧
              (¬ ((v7 ≤ v13 ∨ (v6 v13 0) = 0)) →
                (-9223372036854775808 ≤ (v13 + 1) ∧ (v13 + 1) ≤ 9223372036854775807) ∧ ((-9223372036854775808 ≤ (v13 + 1) ∧ (v13 + 1) ≤ 9223372036854775807) →
                (-9223372036854775808 ≤ (v16 + 1) ∧ (v16 + 1) ≤ 9223372036854775807) ∧ ((-9223372036854775808 ≤ (v16 + 1) ∧ (v16 + 1) ≤ 9223372036854775807) →
                I1 (v13 + 1) v14 v15 (v16 + 1) ∧ μ1 (v13 + 1) v14 v15 (v16 + 1) < μ1 v13 v14 v15 v16)))))))) ∧
            (¬ (v17 = true) →
              (-9223372036854775808 ≤ (v16 + 1) ∧ (v16 + 1) ≤ 9223372036854775807) ∧ ((-9223372036854775808 ≤ (v16 + 1) ∧ (v16 + 1) ≤ 9223372036854775807) →
              I1 v13 v14 v15 (v16 + 1) ∧ μ1 v13 v14 v15 (v16 + 1) < μ1 v13 v14 v15 v16)))) ∧
          (¬ (v16 < v1) →
            ((v12 + 1) * 24) ≤ 140737488355328 ∧ (((v12 + 1) * 24) ≤ 140737488355328 →
            (v12 + 1) ≤ 140737488355328 ∧ ((v12 + 1) ≤ 140737488355328 →
            (-9223372036854775808 ≤ (v10 + 1) ∧ (v10 + 1) ≤ 9223372036854775807) ∧ ((-9223372036854775808 ≤ (v10 + 1) ∧ (v10 + 1) ≤ 9223372036854775807) →
            I0 v13 (v10 + 1) (srL v11l v12 v15) (srF v11f v12 v14) (v12 + 1) ∧ μ0 v13 (v10 + 1) (srL v11l v12 v15) (srF v11f v12 v14) (v12 + 1) < μ0 v9 v10 v11l v11f v12)))))))) ∧
      (¬ (v10 < v5) →
        v12 = (hidF reN) v0 v1 v2l v2f v3 v4 v5 ∧ (∀ (i : Int), 0 ≤ i → i < (hidF reN) v0 v1 v2l v2f v3 v4 v5 → v11l i = (hidF reL) v0 v1 v2f v3 v4 v5 v6 v7 i ∧ ∀ (j : Int) (f : Nat), 0 ≤ j → j < (hidF reL) v0 v1 v2f v3 v4 v5 v6 v7 i → f < 1 → v11f i j f = (hidF reF) v0 v1 v2f v3 v4 v5 v6 v7 i j f) ∧ (0 : Int) = (hidF mcE) v0 v1 v2l v2f v3 v4 v5 ∧ True))))))))))))))
def VC21 : Prop :=
  ∀ (v0 : Int → Nat → Int) (v1 : Int) (v2l : Int → Int) (v2f : Int → Int → Nat → Int) (v3 : Int) (v4 : Int → Nat → Int) (v5 : Int) (v6 : Int → Nat → Int) (v7 : Int),
  (True) →
  (0 ≤ v1 →
  (0 ≤ v3 →
  (0 ≤ v5 →
  (0 ≤ v7 →
  (True) ∧ (∀ (v8 : Int), v8 = mcE v0 v1 v2l v2f v3 v4 v5 → 
  (v1 ≤ 9223372036854775807 →
  (v3 ≤ 9223372036854775807 →
  (v5 ≤ 9223372036854775807 →
  (v7 ≤ 9223372036854775807 →
  (¬ (v8 = 0) →
    (0 : Int) = reN v0 v1 v2l v2f v3 v4 v5 ∧ (∀ (i : Int), 0 ≤ i → i < reN v0 v1 v2l v2f v3 v4 v5 → zL i = reL v0 v1 v2f v3 v4 v5 v6 v7 i ∧ ∀ (j : Int) (f : Nat), 0 ≤ j → j < reL v0 v1 v2f v3 v4 v5 v6 v7 i → f < 1 → zF i j f = reF v0 v1 v2f v3 v4 v5 v6 v7 i j f) ∧ v8 = mcE v0 v1 v2l v2f v3 v4 v5 ∧ True) ∧
  (¬ (¬ (v8 = 0)) →
    ∃ (I0 : (Int) → (Int) → (Int → Int) → (Int → Int → Nat → Int) → (Int) → Prop) (μ0 : (Int) → (Int) → (Int → Int) → (Int → Int → Nat → Int) → (Int) → Nat), I0 (0 : Int) (0 : Int) (srL zL (-1) 0) (srF zF (-1) zA) (0 : Int) ∧ (∀ (v9 : Int) (v10 : Int) (v11l : Int → Int) (v11f : Int → Int → Nat → Int) (v12 : Int), I0 v9 v10 v11l v11f v12 →
      (0 ≤ v12 →
      (v12 ≤ 9223372036854775807 →
      (v10 < v5 →
        ∃ (I1 : (Int) → (Int → Nat → Int) → (Int) → (Int) → Prop) (μ1 : (Int) → (Int → Nat → Int) → (Int) → (Int) → Nat), I1 v9 zA (0 : Int) (0 : Int) ∧ (∀ (v13 : Int) (v14 : Int → Nat → Int) (v15 : Int) (v16 : Int), I1 v13 v14 v15 v16 →
          (0 ≤ v15 →
          (v15 ≤ 9223372036854775807 →
          (v16 < v1 →
            (mcE v0 v1 v2l v2f v3 v4 v5 = 0 ∧ 0 ≤ v10 ∧ v10 < v5 ∧ 0 ≤ v16 ∧ v16 < v1) ∧ (∀ (v17 : Bool), v17 = caB v0 v2f v3 v4 v5 v10 v16 → 
            (v17 = true →
              (v7 ≤ v13 ∨ 0 ≤ v13) ∧ ((v7 ≤ v13 ∨ 0 ≤ v13) →
              (v7 ≤ v13 ∨ v13 < v7) ∧ ((v7 ≤ v13 ∨ v13 < v7) →
              (v7 ≤ v13 ∨ 0 ≤ v13) ∧ ((v7 ≤ v13 ∨ 0 ≤ v13) →
              (v7 ≤ v13 ∨ v13 < v7) ∧ ((v7 ≤ v13 ∨ v13 < v7) →
              ((v7 ≤ v13 ∨ (v6 v13 0) = 0) →
                ((v15 + 1) * 8) ≤ 140737488355328 ∧ (((v15 + 1) * 8) ≤ 140737488355328 →
                (v15 + 1) ≤ 140737488355328 ∧ ((v15 + 1) ≤ 140737488355328 →
                (-9223372036854775808 ≤ (v13 + 1) ∧ (v13 + 1) ≤ 9223372036854775807) ∧ ((-9223372036854775808 ≤ (v13 + 1) ∧ (v13 + 1) ≤ 9223372036854775807) →
                (-9223372036854775808 ≤ (v16 + 1) ∧ (v16 + 1) ≤ 9223372036854775807) ∧ ((-9223372036854775808 ≤ (v16 + 1) ∧ (v16 + 1) ≤ 9223372036854775807) →
                I1 (v13 + 1) (appA v14 v15 (setA zA 0 0 v16)) (v15 + 1) (v16 + 1) ∧ μ1 (v13 + 1) (appA v14 v15 (setA zA 0 0 v16)) (v15 + 1) (v16 + 1) < μ1 v13 v14 v15 v16))))) ∧
              (¬ ((v7 ≤ v13 ∨ (v6 v13 0) = 0)) →
                (-9223372036854775808 ≤ (v13 + 1) ∧ (v13 + 1) ≤ 9223372036854775807) ∧ ((-9223372036854775808 ≤ (v13 + 1) ∧ (v13 + 1) ≤ 9223372036854775807) →
                (-9223372036854775808 ≤ (v16 + 1) ∧ (v16 + 1) ≤ 9223372036854775807) ∧ ((-9223372036854775808 ≤ (v16 + 1) ∧ (v16 + 1) ≤ 9223372036854775807) →
                I1 (v13 + 1) v14 v15 (v16 + 1) ∧ μ1 (v13 + 1) v14 v15 (v16 + 1) < μ1 v13 v14 v15 v16)))))))) ∧
            (¬ (v17 = true) →
              (-9223372036854775808 ≤ (v16 + 1) ∧ (v16 + 1) ≤ 9223372036854775807) ∧ ((-9223372036854775808 ≤ (v16 + 1) ∧ (v16 + 1) ≤ 9223372036854775807) →
              I1 v13 v14 v15 (v16 + 1) ∧ μ1 v13 v14 v15 (v16 + 1) < μ1 v13 v14 v15 v16)))) ∧
          (¬ (v16 < v1) →
            ((v12 + 1) * 24) ≤ 140737488355328 ∧ (((v12 + 1) * 24) ≤ 140737488355328 →
            (v12 + 1) ≤ 140737488355328 ∧ ((v12 + 1) ≤ 140737488355328 →
            (-9223372036854775808 ≤ (v10 + 1) ∧ (v10 + 1) ≤ 9223372036854775807) ∧ ((-9223372036854775808 ≤ (v10 + 1) ∧ (v10 + 1) ≤ 9223372036854775807) →
            I0 v13 (v10 + 1) (srL v11l v12 v15) (srF v11f v12 v14) (v12 + 1) ∧ μ0 v13 (v10 + 1) (srL v11l v12 v15) (srF v11f v12 v14) (v12 + 1) < μ0 v9 v10 v11l v11f v12)))))))) ∧
      (¬ (v10 < v5) →
        v12 = reN v0 v1 v2l v2f v3 v4 v5 ∧ (∀ (i : Int), 0 ≤ i → i < reN v0 v1 v2l v2f v3 v4 v5 → v11l i = reL v0 v1 v2f v3 v4 v5 v6 v7 i ∧ ∀ (j : Int) (f : Nat), 0 ≤ j → j < reL v0 v1 v2f v3 v4 v5 v6 v7 i → f < 1 → v11f i j f = reF v0 v1 v2f v3 v4 v5 v6 v7 i j f) ∧ (0 : Int) = mcE v0 v1 v2l v2f v3 v4 v5 ∧ True))))))))))))))
theorem vh21 (h : VC21) : VH21 := by
  unfold VH21
  rw [hidF_eq caB, hidF_eq mcE, hidF_eq reF, hidF_eq reL, hidF_eq reN]
  exact h
/-! hotspotref11.SameRows -/
def sig24 : CSig := ⟨[⟨false, [.mat [.int .i64]]⟩, ⟨false, [.mat [.int .i64]]⟩], [⟨false, [.bool]⟩]⟩
def pre24 : List AV → Prop
  | [.m v0l v0f, .i v1, .m v2l v2f, .i v3] => True
  | _ => False
noncomputable def raw24 : List AV → List AV
  | [.m v0l v0f, .i v1, .m v2l v2f, .i v3] => [.b ((hidF srB) v0l v0f v1 v2l v2f v3)]
  | _ => []

def VH24 : Prop :=
  ∀ (v0l : Int → Int) (v0f : Int → Int → Nat → Int) (v1 : Int) (v2l : Int → Int) (v2f : Int → Int → Nat → Int) (v3 : Int),
  (True) →
  (0 ≤ v1 →
  (0 ≤ v3 →
  (v1 ≤ 9223372036854775807 →
  (v3 ≤ 9223372036854775807 →
  (¬ (v1 = v3) →
    (False ↔ (hidF srB) v0l v0f v1 v2l v2f v3 = true) ∧ True) ∧
  (¬ (¬ (v1 = v3)) →
    ∃ (I0 : (Int) → Prop) (μ0 : (Int) → Nat), I0 (0 : Int) ∧ (∀ (v4 : Int), I0 v4 →
      (v4 < v1 →
        0 ≤ v4 ∧ (0 ≤ v4 →
        v4 < v3 ∧ (v4 < v3 →
        (True) ∧ (∀ (v5 : Bool), v5 = (hidF saI) (rowA v0f v4) (v0l v4) (rowA v2f v4) (v2l v4) → 
        (0 ≤ (v0l v4) →
        ((v0l v4) ≤ 9223372036854775807 →
        (0 ≤ (v2l v4) →
        ((v2l v4) ≤ 9223372036854775807 →
        (¬ (v5 = true) →
          (False ↔ (hidF srB) v0l v0f v1 v2l v2f v3 = true) ∧ True) ∧
        (¬ (¬ (v5 = true)) →
          (-9223372036854775808 ≤ (v4 + 1) ∧ (v4 + 1) ≤ 9223372036854775807) ∧ ((-9223372036854775808 ≤ (v4 + 1) ∧ (v4 + 1) ≤ 9223372036854775807) →
          I0 (v4 + 1) ∧ μ0 (v4 + 1) < μ0 v4)))))))))) ∧
      (¬ (v4 < v1) →
        (True ↔ (hidF srB) v0l v0f v1 v2l v2f v3 = true) ∧ True)))))))
def VC24 : Prop :=
  ∀ (v0l : Int → Int) (v0f : Int → Int → Nat → Int) (v1 : Int) (v2l : Int → Int) (v2f : Int → Int → Nat → Int) (v3 : Int),
  (True) →
  (0 ≤ v1 →
  (0 ≤ v3 →
  (v1 ≤ 9223372036854775807 →
  (v3 ≤ 9223372036854775807 →
  (¬ (v1 = v3) →
    (False ↔ srB v0l v0f v1 v2l v2f v3 = true) ∧ True) ∧
  (¬ (¬ (v1 = v3)) →
    ∃ (I0 : (Int) → Prop) (μ0 : (Int) → Nat), I0 (0 : Int) ∧ (∀ (v4 : Int), I0 v4 →
      (v4 < v1 →
        0 ≤ v4 ∧ (0 ≤ v4 →
        v4 < v3 ∧ (v4 < v3 →
        (True) ∧ (∀ (v5 : Bool), v5 = saI (rowA v0f v4) (v0l v4) (rowA v2f v4) (v2l v4) → 
        (0 ≤ (v0l v4) →
        ((v0l v4) ≤ 9223372036854775807 →
        (0 ≤ (v2l v4) →
        ((v2l v4) ≤ 9223372036854775807 →
        (¬ (v5 = true) →
          (False ↔ srB v0l v0f v1 v2l v2f v3 = true) ∧ True) ∧
        (¬ (¬ (v5 = true)) →
          (-9223372036854775808 ≤ (v4 + 1) ∧ (v4 + 1) ≤ 9223372036854775807) ∧ ((-9223372036854775808 ≤ (v4 + 1) ∧ (v4 + 1) ≤ 9223372036854775807) →
          I0 (v4 + 1) ∧ μ0 (v4 + 1) < μ0 v4)))))))))) ∧
      (¬ (v4 < v1) →
        (True ↔ srB v0l v0f v1 v2l v2f v3 = true) ∧ True)))))))
theorem vh24 (h : VC24) : VH24 := by
  unfold VH24
  rw [hidF_eq saI, hidF_eq srB]
  exact h
/-! hotspotlaw11.has -/
def sig28 : CSig := ⟨[⟨false, [.slc [.int .i64]]⟩, ⟨false, [.int .i64]⟩], [⟨false, [.bool]⟩]⟩
def pre28 : List AV → Prop
  | [.a v0, .i v1, .i v2] => True
  | _ => False
noncomputable def raw28 : List AV → List AV
  | [.a v0, .i v1, .i v2] => [.b ((hidF haB) v0 v1 v2)]
  | _ => []

def VH28 : Prop :=
  ∀ (v0 : Int → Nat → Int) (v1 : Int) (v2 : Int),
  (True) →
  (0 ≤ v1 →
  ∃ (I0 : (Int) → Prop) (μ0 : (Int) → Nat), I0 (0 : Int) ∧ (∀ (v3 : Int), I0 v3 →
    (v1 ≤ 9223372036854775807 →
    (v3 < v1 →
      0 ≤ v3 ∧ (0 ≤ v3 →
      ((v0 v3 0) = v2 →
        (True ↔ (hidF haB) v0 v1 v2 = true) ∧ True) ∧
      (¬ ((v0 v3 0) = v2) →
        (-9223372036854775808 ≤ (v3 + 1) ∧ (v3 + 1) ≤ 9223372036854775807) ∧ ((-9223372036854775808 ≤ (v3 + 1) ∧ (v3 + 1) ≤ 9223372036854775807) →
        I0 (v3 + 1) ∧ μ0 (v3 + 1) < μ0 v3)))) ∧
    (¬ (v3 < v1) →
      (False ↔ (hidF haB) v0 v1 v2 = true) ∧ True))))
def VC28 : Prop :=
  ∀ (v0 : Int → Nat → Int) (v1 : Int) (v2 : Int),
  (True) →
  (0 ≤ v1 →
  ∃ (I0 : (Int) → Prop) (μ0 : (Int) → Nat), I0 (0 : Int) ∧ (∀ (v3 : Int), I0 v3 →
    (v1 ≤ 9223372036854775807 →
    (v3 < v1 →
      0 ≤ v3 ∧ (0 ≤ v3 →
      ((v0 v3 0) = v2 →
        (True ↔ haB v0 v1 v2 = true) ∧ True) ∧
      (¬ ((v0 v3 0) = v2) →
        (-9223372036854775808 ≤ (v3 + 1) ∧ (v3 + 1) ≤ 9223372036854775807) ∧ ((-9223372036854775808 ≤ (v3 + 1) ∧ (v3 + 1) ≤ 9223372036854775807) →
        I0 (v3 + 1) ∧ μ0 (v3 + 1) < μ0 v3)))) ∧
    (¬ (v3 < v1) →
      (False ↔ haB v0 v1 v2 = true) ∧ True))))
theorem vh28 (h : VC28) : VH28 := by
  unfold VH28
  rw [hidF_eq haB]
  exact h
/-! radio.Neighbours -/
def sig30 : CSig := ⟨[⟨true, [.slc [.int .i64, .int .i64, .int .i64, .int .i64], .mat [.int .i64]]⟩, ⟨false, [.int .i64]⟩], [⟨false, [.slc [.int .i64]]⟩, ⟨false, [.int .i64]⟩]⟩
def pre30 : List AV → Prop
  | [.a v0, .i v1, .m v2l v2f, .i v3, .i v4] => True
  | _ => False
noncomputable def raw30 : List AV → List AV
  | [.a v0, .i v1, .m v2l v2f, .i v3, .i v4] => [.a ((hidF nbF) v0 v1 v2f v3 v4), .i ((hidF nbN) v0 v1 v2l v2f v3 v4), .i ((hidF lvE) v0 v1 v2l v2f v3 v4 v4)]
  | _ => []

def VH30 : Prop :=
  ∀ (v0 : Int → Nat → Int) (v1 : Int) (v2l : Int → Int) (v2f : Int → Int → Nat → Int) (v3 : Int) (v4 : Int),
  (True) →
  (0 ≤ v1 →
  (0 ≤ v3 →
  ((1 : Int) ≤ 4) ∧ (∀ (v5 : Int), v5 = (hidF asW) v0 v1 v2l v2f v3 (setA zA 0 0 v4) (1 : Int) → 
  (v1 ≤ 9223372036854775807 →
  (v3 ≤ 9223372036854775807 →
  (¬ (v5 = 0) →
    (0 : Int) = (hidF nbN) v0 v1 v2l v2f v3 v4 ∧ (∀ (i : Int) (f : Nat), 0 ≤ i → i < (hidF nbN) v0 v1 v2l v2f v3 v4 → f < 1 → zA i f = (hidF nbF) v0 v1 v2f v3 v4 i f) ∧ v5 = (hidF lvE) v0 v1 v2l v2f v3 v4 v4 ∧ True) ∧
  (¬ (¬ (v5 = 0)) →
    ∃ (I0 : (Int) → (Int → Nat → Int) → (Int) → Prop) (μ0 : (Int) → (Int → Nat → Int) → (Int) → Nat), I0 (0 : Int) zA (0 : Int) ∧ (∀ (v6 : Int) (v7 : Int → Nat → Int) (v8 : Int), I0 v6 v7 v8 →
      (0 ≤ v8 →
      (v8 ≤ 9223372036854775807 →
      (v6 < v1 →
        (ckW v0 v1 v2l v2f v3 = 0 ∧ 0 ≤ v4 ∧ v4 < v1 ∧ 0 ≤ v6 ∧ v6 < v1) ∧ (∀ (v9 : Bool), v9 = (hidF hrA) v0 v2f v3 v4 v6 → 
        (v9 = true →
          ((v8 + 1) * 8) ≤ 140737488355328 ∧ (((v8 + 1) * 8) ≤ 140737488355328 →
          (v8 + 1) ≤ 140737488355328 ∧ ((v8 + 1) ≤ 140737488355328 →
          (-9223372036854775808 ≤ (v6 + 1) ∧ (v6 + 1) ≤ 9223372036854775807) ∧ ((-9223372036854775808 ≤ (v6 + 1) ∧ (v6 + 1) ≤ 9223372036854775807) →
          I0 (v6 + 1) (appA v7 v8 (setA zA 0 0 v6)) (v8 + 1) ∧ μ0 (v6 + 1) (appA v7 v8 (setA zA 0 0 v6)) (v8 + 1) < μ0 v6 v7 v8)))) ∧
        (¬ (v9 = true) →
          (-9223372036854775808 ≤ (v6 + 1) ∧ (v6 + 1) ≤ 9223372036854775807) ∧ ((-9223372036854775808 ≤ (v6 + 1) ∧ (v6 + 1) ≤ 9223372036854775807) →
          I0 (v6 + 1) v7 v8 ∧ μ0 (v6 + 1) v7 v8 < μ0 v6 v7 v8)))) ∧
      (¬ (v6 < v1) →
        v8 = (hidF nbN) v0 v1 v2l v2f v3 v4 ∧ (∀ (i : Int) (f : Nat), 0 ≤ i → i < (hidF nbN) v0 v1 v2l v2f v3 v4 → f < 1 → v7 i f = (hidF nbF) v0 v1 v2f v3 v4 i f) ∧ (0 : Int) = (hidF lvE) v0 v1 v2l v2f v3 v4 v4 ∧ True))))))))))
def VC30 : Prop :=
  ∀ (v0 : Int → Nat → Int) (v1 : Int) (v2l : Int → Int) (v2f : Int → Int → Nat → Int) (v3 : Int) (v4 : Int),
  (True) →
  (0 ≤ v1 →
  (0 ≤ v3 →
  ((1 : Int) ≤ 4) ∧ (∀ (v5 : Int), v5 = asW v0 v1 v2l v2f v3 (setA zA 0 0 v4) (1 : Int) → 
  (v1 ≤ 9223372036854775807 →
  (v3 ≤ 9223372036854775807 →
  (¬ (v5 = 0) →
    (0 : Int) = nbN v0 v1 v2l v2f v3 v4 ∧ (∀ (i : Int) (f : Nat), 0 ≤ i → i < nbN v0 v1 v2l v2f v3 v4 → f < 1 → zA i f = nbF v0 v1 v2f v3 v4 i f) ∧ v5 = lvE v0 v1 v2l v2f v3 v4 v4 ∧ True) ∧
  (¬ (¬ (v5 = 0)) →
    ∃ (I0 : (Int) → (Int → Nat → Int) → (Int) → Prop) (μ0 : (Int) → (Int → Nat → Int) → (Int) → Nat), I0 (0 : Int) zA (0 : Int) ∧ (∀ (v6 : Int) (v7 : Int → Nat → Int) (v8 : Int), I0 v6 v7 v8 →
      (0 ≤ v8 →
      (v8 ≤ 9223372036854775807 →
      (v6 < v1 →
        (ckW v0 v1 v2l v2f v3 = 0 ∧ 0 ≤ v4 ∧ v4 < v1 ∧ 0 ≤ v6 ∧ v6 < v1) ∧ (∀ (v9 : Bool), v9 = hrA v0 v2f v3 v4 v6 → 
        (v9 = true →
          ((v8 + 1) * 8) ≤ 140737488355328 ∧ (((v8 + 1) * 8) ≤ 140737488355328 →
          (v8 + 1) ≤ 140737488355328 ∧ ((v8 + 1) ≤ 140737488355328 →
          (-9223372036854775808 ≤ (v6 + 1) ∧ (v6 + 1) ≤ 9223372036854775807) ∧ ((-9223372036854775808 ≤ (v6 + 1) ∧ (v6 + 1) ≤ 9223372036854775807) →
          I0 (v6 + 1) (appA v7 v8 (setA zA 0 0 v6)) (v8 + 1) ∧ μ0 (v6 + 1) (appA v7 v8 (setA zA 0 0 v6)) (v8 + 1) < μ0 v6 v7 v8)))) ∧
        (¬ (v9 = true) →
          (-9223372036854775808 ≤ (v6 + 1) ∧ (v6 + 1) ≤ 9223372036854775807) ∧ ((-9223372036854775808 ≤ (v6 + 1) ∧ (v6 + 1) ≤ 9223372036854775807) →
          I0 (v6 + 1) v7 v8 ∧ μ0 (v6 + 1) v7 v8 < μ0 v6 v7 v8)))) ∧
      (¬ (v6 < v1) →
        v8 = nbN v0 v1 v2l v2f v3 v4 ∧ (∀ (i : Int) (f : Nat), 0 ≤ i → i < nbN v0 v1 v2l v2f v3 v4 → f < 1 → v7 i f = nbF v0 v1 v2f v3 v4 i f) ∧ (0 : Int) = lvE v0 v1 v2l v2f v3 v4 v4 ∧ True))))))))))
theorem vh30 (h : VC30) : VH30 := by
  unfold VH30
  rw [hidF_eq asW, hidF_eq hrA, hidF_eq lvE, hidF_eq nbF, hidF_eq nbN]
  exact h
end Go.Proofs.Ytgdjdaoglkfjdaa
