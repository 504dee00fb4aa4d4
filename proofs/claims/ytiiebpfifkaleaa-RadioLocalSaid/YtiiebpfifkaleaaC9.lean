/- What the functions do, and what is left to show of each. -/
import Derived.Test.YtiiebpfifkaleaaC
set_option linter.unusedVariables false
namespace Go.Proofs.Ytiiebpfifkaleaa
open Go Go.RowKit Go.Proofs.Ytiiebpfifkaleaa.Vc
/-! hotspotlaw10.RadioLocal -/
def sig9 : CSig := ⟨[⟨true, [.slc [.int .i64, .int .i64, .int .i64, .int .i64], .mat [.int .i64]]⟩, ⟨false, [.int .i64]⟩, ⟨false, [.int .i64]⟩, ⟨false, [.int .i64]⟩, ⟨false, [.int .i64]⟩, ⟨false, [.int .i64]⟩, ⟨false, [.int .i64]⟩], [⟨false, [.bool]⟩]⟩
def pre9 : List AV → Prop
  | [.a v0, .i v1, .m v2l v2f, .i v3, .i v4, .i v5, .i v6, .i v7, .i v8, .i v9] => True
  | _ => False
noncomputable def raw9 : List AV → List AV
  | [.a v0, .i v1, .m v2l v2f, .i v3, .i v4, .i v5, .i v6, .i v7, .i v8, .i v9] => [.b (true)]
  | _ => []

def VH9 : Prop :=
  ∀ (v0 : Int → Nat → Int) (v1 : Int) (v2l : Int → Int) (v2f : Int → Int → Nat → Int) (v3 : Int) (v4 : Int) (v5 : Int) (v6 : Int) (v7 : Int) (v8 : Int) (v9 : Int),
  (True) →
  (0 ≤ v1 →
  (0 ≤ v3 →
  (True) ∧ (∀ (v10 : Bool), v10 = true → 
  (v1 ≤ 9223372036854775807 →
  (v3 ≤ 9223372036854775807 →
  (True) ∧ (∀ (v11 : Bool), v11 = (hidF grW) v1 v2l v3 → 
  ((v11 = true ∨ ¬ (v10 = true)) →
    (v10 = true ↔ true = true) ∧ True) ∧
  (¬ ((v11 = true ∨ ¬ (v10 = true))) →
    (True) ∧ (∀ (v12 : Int → Nat → Int) (v13 : Int) (v14l : Int → Int) (v14f : Int → Int → Nat → Int) (v15 : Int) (v16 : Int), v12 = (hidF puA) v0 v4 v5 v6 (v0 v4 2) (v0 v4 3) → v13 = (hidF mvN) v0 v1 v2l v2f v3 v4 v5 v6 (v0 v4 2) (v0 v4 3) v1 → v14l = v2l → v14f = v2f → v15 = (hidF mvN) v0 v1 v2l v2f v3 v4 v5 v6 (v0 v4 2) (v0 v4 3) v3 → v16 = (hidF mvE) v0 v1 v2l v2f v3 v4 v5 v6 (v0 v4 2) (v0 v4 3) → 
    (0 ≤ v13 →
    (0 ≤ v15 →
    (True) ∧ (∀ (v17 : Int → Nat → Int) (v18 : Int) (v19l : Int → Int) (v19f : Int → Int → Nat → Int) (v20 : Int) (v21 : Int), v17 = (hidF puA) v0 v4 (v0 v4 0) (v0 v4 1) (v0 v4 2) v7 → v18 = (hidF mvN) v0 v1 v2l v2f v3 v4 (v0 v4 0) (v0 v4 1) (v0 v4 2) v7 v1 → v19l = v2l → v19f = v2f → v20 = (hidF mvN) v0 v1 v2l v2f v3 v4 (v0 v4 0) (v0 v4 1) (v0 v4 2) v7 v3 → v21 = (hidF mvE) v0 v1 v2l v2f v3 v4 (v0 v4 0) (v0 v4 1) (v0 v4 2) v7 → 
    (v13 ≤ 9223372036854775807 →
    (v15 ≤ 9223372036854775807 →
    (0 ≤ v18 →
    (0 ≤ v20 →
    (v18 ≤ 9223372036854775807 →
    (v20 ≤ 9223372036854775807 →
    ((¬ (v16 = 0) ∨ ¬ (v21 = 0)) →
      (((v10 = true ∧ (v16 = 0 ∨ v13 = 0)) ∧ (v21 = 0 ∨ v18 = 0)) ↔ true = true) ∧ True) ∧
    (¬ ((¬ (v16 = 0) ∨ ¬ (v21 = 0))) →
      0 ≤ v4 ∧ (0 ≤ v4 →
      v4 < v1 ∧ (v4 < v1 →
      (True) ∧ (∀ (v22 : Int → Nat → Int) (v23 : Int) (v24l : Int → Int) (v24f : Int → Int → Nat → Int) (v25 : Int) (v26 : Int), v22 = (hidF puA) v12 v4 (v0 v4 0) (v0 v4 1) (v12 v4 2) (v12 v4 3) → v23 = (hidF mvN) v12 v13 v14l v14f v15 v4 (v0 v4 0) (v0 v4 1) (v12 v4 2) (v12 v4 3) v13 → v24l = v14l → v24f = v14f → v25 = (hidF mvN) v12 v13 v14l v14f v15 v4 (v0 v4 0) (v0 v4 1) (v12 v4 2) (v12 v4 3) v15 → v26 = (hidF mvE) v12 v13 v14l v14f v15 v4 (v0 v4 0) (v0 v4 1) (v12 v4 2) (v12 v4 3) → 
      (0 ≤ v23 →
      (0 ≤ v25 →
      (v23 ≤ 9223372036854775807 →
      (v25 ≤ 9223372036854775807 →
      ((v26 = 0 → True)) ∧ (∀ (v27 : Bool), v27 = (hidF smW) v22 v23 v24l v24f v25 v0 v1 v2l v2f v3 → 
      ((¬ ((¬ (v26 = 0) ∨ ¬ (v27 = true))) → True)) ∧ (∀ (v28 : Int), v28 = (hidF ckW) v12 v13 v14l v14f v15 → 
      ((¬ (((¬ (v26 = 0) ∨ ¬ (v27 = true)) ∨ ¬ (v28 = 0))) → True)) ∧ (∀ (v29 : Int), v29 = (hidF ckW) v17 v18 v19l v19f v20 → 
      ((((¬ (v26 = 0) ∨ ¬ (v27 = true)) ∨ ¬ (v28 = 0)) ∨ ¬ (v29 = 0)) →
        (False ↔ true = true) ∧ True) ∧
      (¬ ((((¬ (v26 = 0) ∨ ¬ (v27 = true)) ∨ ¬ (v28 = 0)) ∨ ¬ (v29 = 0))) →
        (True) ∧ (∀ (v30 : Int) (v31 : Int), v30 = (hidF lvV) v0 v1 v2l v2f v3 v8 v9 → v31 = (hidF lvE) v0 v1 v2l v2f v3 v8 v9 → 
        (¬ (v31 = 0) →
          (v10 = true ↔ true = true) ∧ True) ∧
        (¬ (¬ (v31 = 0)) →
          (True) ∧ (∀ (v32 : Int) (v33 : Int), v32 = (hidF lvV) v17 v18 v19l v19f v20 v8 v9 → v33 = (hidF lvE) v17 v18 v19l v19f v20 v8 v9 → 
          ((¬ (v33 = 0) ∨ ¬ (v32 = v30)) →
            (False ↔ true = true) ∧ True) ∧
          (¬ ((¬ (v33 = 0) ∨ ¬ (v32 = v30))) →
            ((v8 = v4 ∨ v9 = v4) →
              (v10 = true ↔ true = true) ∧ True) ∧
            (¬ ((v8 = v4 ∨ v9 = v4)) →
              (True) ∧ (∀ (v34 : Int) (v35 : Int), v34 = (hidF lvV) v12 v13 v14l v14f v15 v8 v9 → v35 = (hidF lvE) v12 v13 v14l v14f v15 v8 v9 → 
              (True) ∧ (∀ (v36 : Bool) (v37 : Int), v36 = ((hidF hrV) v0 v1 v2l v2f v3 v9 v8) → v37 = (hidF lvE) v0 v1 v2l v2f v3 v9 v8 → 
              (True) ∧ (∀ (v38 : Bool) (v39 : Int), v38 = ((hidF hrV) v17 v18 v19l v19f v20 v9 v8) → v39 = (hidF lvE) v17 v18 v19l v19f v20 v9 v8 → 
              ((((((v10 = true ∧ v35 = 0) ∧ v34 = v30) ∧ v37 = 0) ∧ v39 = 0) ∧ ((v36 = true ∧ v38 = true) ∨ (¬ (v36 = true) ∧ ¬ (v38 = true)))) ↔ true = true) ∧ True)))))))))))))))))))))))))))))))))))))
def VC9 : Prop :=
  ∀ (v0 : Int → Nat → Int) (v1 : Int) (v2l : Int → Int) (v2f : Int → Int → Nat → Int) (v3 : Int) (v4 : Int) (v5 : Int) (v6 : Int) (v7 : Int) (v8 : Int) (v9 : Int),
  (True) →
  (0 ≤ v1 →
  (0 ≤ v3 →
  (True) ∧ (∀ (v10 : Bool), v10 = true → 
  (v1 ≤ 9223372036854775807 →
  (v3 ≤ 9223372036854775807 →
  (True) ∧ (∀ (v11 : Bool), v11 = grW v1 v2l v3 → 
  ((v11 = true ∨ ¬ (v10 = true)) →
    (v10 = true ↔ true = true) ∧ True) ∧
  (¬ ((v11 = true ∨ ¬ (v10 = true))) →
    (True) ∧ (∀ (v12 : Int → Nat → Int) (v13 : Int) (v14l : Int → Int) (v14f : Int → Int → Nat → Int) (v15 : Int) (v16 : Int), v12 = puA v0 v4 v5 v6 (v0 v4 2) (v0 v4 3) → v13 = mvN v0 v1 v2l v2f v3 v4 v5 v6 (v0 v4 2) (v0 v4 3) v1 → v14l = v2l → v14f = v2f → v15 = mvN v0 v1 v2l v2f v3 v4 v5 v6 (v0 v4 2) (v0 v4 3) v3 → v16 = mvE v0 v1 v2l v2f v3 v4 v5 v6 (v0 v4 2) (v0 v4 3) → 
    (0 ≤ v13 →
    (0 ≤ v15 →
    (True) ∧ (∀ (v17 : Int → Nat → Int) (v18 : Int) (v19l : Int → Int) (v19f : Int → Int → Nat → Int) (v20 : Int) (v21 : Int), v17 = puA v0 v4 (v0 v4 0) (v0 v4 1) (v0 v4 2) v7 → v18 = mvN v0 v1 v2l v2f v3 v4 (v0 v4 0) (v0 v4 1) (v0 v4 2) v7 v1 → v19l = v2l → v19f = v2f → v20 = mvN v0 v1 v2l v2f v3 v4 (v0 v4 0) (v0 v4 1) (v0 v4 2) v7 v3 → v21 = mvE v0 v1 v2l v2f v3 v4 (v0 v4 0) (v0 v4 1) (v0 v4 2) v7 → 
    (v13 ≤ 9223372036854775807 →
    (v15 ≤ 9223372036854775807 →
    (0 ≤ v18 →
    (0 ≤ v20 →
    (v18 ≤ 9223372036854775807 →
    (v20 ≤ 9223372036854775807 →
    ((¬ (v16 = 0) ∨ ¬ (v21 = 0)) →
      (((v10 = true ∧ (v16 = 0 ∨ v13 = 0)) ∧ (v21 = 0 ∨ v18 = 0)) ↔ true = true) ∧ True) ∧
    (¬ ((¬ (v16 = 0) ∨ ¬ (v21 = 0))) →
      0 ≤ v4 ∧ (0 ≤ v4 →
      v4 < v1 ∧ (v4 < v1 →
      (True) ∧ (∀ (v22 : Int → Nat → Int) (v23 : Int) (v24l : Int → Int) (v24f : Int → Int → Nat → Int) (v25 : Int) (v26 : Int), v22 = puA v12 v4 (v0 v4 0) (v0 v4 1) (v12 v4 2) (v12 v4 3) → v23 = mvN v12 v13 v14l v14f v15 v4 (v0 v4 0) (v0 v4 1) (v12 v4 2) (v12 v4 3) v13 → v24l = v14l → v24f = v14f → v25 = mvN v12 v13 v14l v14f v15 v4 (v0 v4 0) (v0 v4 1) (v12 v4 2) (v12 v4 3) v15 → v26 = mvE v12 v13 v14l v14f v15 v4 (v0 v4 0) (v0 v4 1) (v12 v4 2) (v12 v4 3) → 
      (0 ≤ v23 →
      (0 ≤ v25 →
      (v23 ≤ 9223372036854775807 →
      (v25 ≤ 9223372036854775807 →
      ((v26 = 0 → True)) ∧ (∀ (v27 : Bool), v27 = smW v22 v23 v24l v24f v25 v0 v1 v2l v2f v3 → 
      ((¬ ((¬ (v26 = 0) ∨ ¬ (v27 = true))) → True)) ∧ (∀ (v28 : Int), v28 = ckW v12 v13 v14l v14f v15 → 
      ((¬ (((¬ (v26 = 0) ∨ ¬ (v27 = true)) ∨ ¬ (v28 = 0))) → True)) ∧ (∀ (v29 : Int), v29 = ckW v17 v18 v19l v19f v20 → 
      ((((¬ (v26 = 0) ∨ ¬ (v27 = true)) ∨ ¬ (v28 = 0)) ∨ ¬ (v29 = 0)) →
        (False ↔ true = true) ∧ True) ∧
      (¬ ((((¬ (v26 = 0) ∨ ¬ (v27 = true)) ∨ ¬ (v28 = 0)) ∨ ¬ (v29 = 0))) →
        (True) ∧ (∀ (v30 : Int) (v31 : Int), v30 = lvV v0 v1 v2l v2f v3 v8 v9 → v31 = lvE v0 v1 v2l v2f v3 v8 v9 → 
        (¬ (v31 = 0) →
          (v10 = true ↔ true = true) ∧ True) ∧
        (¬ (¬ (v31 = 0)) →
          (True) ∧ (∀ (v32 : Int) (v33 : Int), v32 = lvV v17 v18 v19l v19f v20 v8 v9 → v33 = lvE v17 v18 v19l v19f v20 v8 v9 → 
          ((¬ (v33 = 0) ∨ ¬ (v32 = v30)) →
            (False ↔ true = true) ∧ True) ∧
          (¬ ((¬ (v33 = 0) ∨ ¬ (v32 = v30))) →
            ((v8 = v4 ∨ v9 = v4) →
              (v10 = true ↔ true = true) ∧ True) ∧
            (¬ ((v8 = v4 ∨ v9 = v4)) →
              (True) ∧ (∀ (v34 : Int) (v35 : Int), v34 = lvV v12 v13 v14l v14f v15 v8 v9 → v35 = lvE v12 v13 v14l v14f v15 v8 v9 → 
              (True) ∧ (∀ (v36 : Bool) (v37 : Int), v36 = (hrV v0 v1 v2l v2f v3 v9 v8) → v37 = lvE v0 v1 v2l v2f v3 v9 v8 → 
              (True) ∧ (∀ (v38 : Bool) (v39 : Int), v38 = (hrV v17 v18 v19l v19f v20 v9 v8) → v39 = lvE v17 v18 v19l v19f v20 v9 v8 → 
              ((((((v10 = true ∧ v35 = 0) ∧ v34 = v30) ∧ v37 = 0) ∧ v39 = 0) ∧ ((v36 = true ∧ v38 = true) ∨ (¬ (v36 = true) ∧ ¬ (v38 = true)))) ↔ true = true) ∧ True)))))))))))))))))))))))))))))))))))))
theorem vh9 (h : VC9) : VH9 := by
  unfold VH9
  rw [hidF_eq ckW, hidF_eq grW, hidF_eq hrV, hidF_eq lvE, hidF_eq lvV, hidF_eq mvE, hidF_eq mvN, hidF_eq puA, hidF_eq smW]
  exact h
end Go.Proofs.Ytiiebpfifkaleaa
