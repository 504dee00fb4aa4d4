/- What the functions do, and what is left to show of each. -/
import Derived.Test.YtiiebpfifkaleaaC
set_option linter.unusedVariables false
namespace Go.Proofs.Ytiiebpfifkaleaa
open Go Go.RowKit Go.Proofs.Ytiiebpfifkaleaa.Vc
/-! hotspotlaw10.RadioSymmetry -/
def sig7 : CSig := ⟨[⟨true, [.slc [.int .i64, .int .i64, .int .i64, .int .i64], .mat [.int .i64]]⟩, ⟨false, [.int .i64]⟩, ⟨false, [.int .i64]⟩, ⟨false, [.int .i64]⟩], [⟨false, [.bool]⟩]⟩
def pre7 : List AV → Prop
  | [.a v0, .i v1, .m v2l v2f, .i v3, .i v4, .i v5, .i v6] => True
  | _ => False
noncomputable def raw7 : List AV → List AV
  | [.a v0, .i v1, .m v2l v2f, .i v3, .i v4, .i v5, .i v6] => [.b (true)]
  | _ => []

def VH7 : Prop :=
  ∀ (v0 : Int → Nat → Int) (v1 : Int) (v2l : Int → Int) (v2f : Int → Int → Nat → Int) (v3 : Int) (v4 : Int) (v5 : Int) (v6 : Int),
  (True) →
  (0 ≤ v1 →
  (0 ≤ v3 →
  (True) ∧ (∀ (v7 : Bool), v7 = true → 
  (v1 ≤ 9223372036854775807 →
  (v3 ≤ 9223372036854775807 →
  (True) ∧ (∀ (v8 : Bool), v8 = (hidF grW) v1 v2l v3 → 
  ((v8 = true ∨ ¬ (v7 = true)) →
    (v7 = true ↔ true = true) ∧ True) ∧
  (¬ ((v8 = true ∨ ¬ (v7 = true))) →
    (True) ∧ (∀ (v9 : Int) (v10 : Int), v9 = (hidF lvV) v0 v1 v2l v2f v3 v4 v5 → v10 = (hidF lvE) v0 v1 v2l v2f v3 v4 v5 → 
    (True) ∧ (∀ (v11 : Int) (v12 : Int), v11 = (hidF lvV) v0 v1 v2l v2f v3 v5 v4 → v12 = (hidF lvE) v0 v1 v2l v2f v3 v5 v4 → 
    (True) ∧ (∀ (v13 : Int) (v14 : Int), v13 = (hidF lvV) v0 v1 v2l v2f v3 v6 v5 → v14 = (hidF lvE) v0 v1 v2l v2f v3 v6 v5 → 
    (((¬ (v10 = 0) ∨ ¬ (v12 = 0)) ∨ ¬ (v14 = 0)) →
      (v7 = true ↔ true = true) ∧ True) ∧
    (¬ (((¬ (v10 = 0) ∨ ¬ (v12 = 0)) ∨ ¬ (v14 = 0))) →
      0 ≤ v4 ∧ (0 ≤ v4 →
      v4 < v1 ∧ (v4 < v1 →
      0 ≤ v5 ∧ (0 ≤ v5 →
      v5 < v1 ∧ (v5 < v1 →
      0 ≤ v6 ∧ (0 ≤ v6 →
      v6 < v1 ∧ (v6 < v1 →
      (True) ∧ (∀ (v15 : Bool) (v16 : Int), v15 = ((hidF hrV) v0 v1 v2l v2f v3 v4 v5) → v16 = (hidF lvE) v0 v1 v2l v2f v3 v4 v5 → 
      (True) ∧ (∀ (v17 : Bool) (v18 : Int), v17 = ((hidF hrV) v0 v1 v2l v2f v3 v5 v4) → v18 = (hidF lvE) v0 v1 v2l v2f v3 v5 v4 → 
      (((¬ (v16 = 0) ∨ ¬ (v18 = 0)) ∨ (v4 = v5 ∧ (v15 = true ∨ v17 = true))) →
        (False ↔ true = true) ∧ True) ∧
      (¬ (((¬ (v16 = 0) ∨ ¬ (v18 = 0)) ∨ (v4 = v5 ∧ (v15 = true ∨ v17 = true)))) →
        (True) ∧ (∀ (v19 : Bool), v19 = (hidF syW) v0 v1 v2l v2f v3 → 
        (((v19 = true ∧ (v0 v4 2) = (v0 v5 2)) ∧ (¬ (v9 = v11) ∨ ¬ (((v15 = true ∧ v17 = true) ∨ (¬ (v15 = true) ∧ ¬ (v17 = true)))))) →
          (False ↔ true = true) ∧ True) ∧
        (¬ (((v19 = true ∧ (v0 v4 2) = (v0 v5 2)) ∧ (¬ (v9 = v11) ∨ ¬ (((v15 = true ∧ v17 = true) ∨ (¬ (v15 = true) ∧ ¬ (v17 = true))))))) →
          (True) ∧ (∀ (v20 : Int) (v21 : Int), v20 = (hidF dist) (v0 v4 0) (v0 v4 1) (v0 v5 0) (v0 v5 1) → v21 = (hidF diste) (v0 v4 0) (v0 v4 1) (v0 v5 0) (v0 v5 1) → 
          (True) ∧ (∀ (v22 : Int) (v23 : Int), v22 = (hidF dist) (v0 v6 0) (v0 v6 1) (v0 v5 0) (v0 v5 1) → v23 = (hidF diste) (v0 v6 0) (v0 v6 1) (v0 v5 0) (v0 v5 1) → 
          ((¬ (v21 = 0) ∨ ¬ (v23 = 0)) →
            (False ↔ true = true) ∧ True) ∧
          (¬ ((¬ (v21 = 0) ∨ ¬ (v23 = 0))) →
            ((((0 < v3 ∨ ¬ ((v0 v4 2) = (v0 v6 2))) ∨ v22 < v20) ∨ v13 ≤ v9) ↔ true = true) ∧ True)))))))))))))))))))))))))
def VC7 : Prop :=
  ∀ (v0 : Int → Nat → Int) (v1 : Int) (v2l : Int → Int) (v2f : Int → Int → Nat → Int) (v3 : Int) (v4 : Int) (v5 : Int) (v6 : Int),
  (True) →
  (0 ≤ v1 →
  (0 ≤ v3 →
  (True) ∧ (∀ (v7 : Bool), v7 = true → 
  (v1 ≤ 9223372036854775807 →
  (v3 ≤ 9223372036854775807 →
  (True) ∧ (∀ (v8 : Bool), v8 = grW v1 v2l v3 → 
  ((v8 = true ∨ ¬ (v7 = true)) →
    (v7 = true ↔ true = true) ∧ True) ∧
  (¬ ((v8 = true ∨ ¬ (v7 = true))) →
    (True) ∧ (∀ (v9 : Int) (v10 : Int), v9 = lvV v0 v1 v2l v2f v3 v4 v5 → v10 = lvE v0 v1 v2l v2f v3 v4 v5 → 
    (True) ∧ (∀ (v11 : Int) (v12 : Int), v11 = lvV v0 v1 v2l v2f v3 v5 v4 → v12 = lvE v0 v1 v2l v2f v3 v5 v4 → 
    (True) ∧ (∀ (v13 : Int) (v14 : Int), v13 = lvV v0 v1 v2l v2f v3 v6 v5 → v14 = lvE v0 v1 v2l v2f v3 v6 v5 → 
    (((¬ (v10 = 0) ∨ ¬ (v12 = 0)) ∨ ¬ (v14 = 0)) →
      (v7 = true ↔ true = true) ∧ True) ∧
    (¬ (((¬ (v10 = 0) ∨ ¬ (v12 = 0)) ∨ ¬ (v14 = 0))) →
      0 ≤ v4 ∧ (0 ≤ v4 →
      v4 < v1 ∧ (v4 < v1 →
      0 ≤ v5 ∧ (0 ≤ v5 →
      v5 < v1 ∧ (v5 < v1 →
      0 ≤ v6 ∧ (0 ≤ v6 →
      v6 < v1 ∧ (v6 < v1 →
      (True) ∧ (∀ (v15 : Bool) (v16 : Int), v15 = (hrV v0 v1 v2l v2f v3 v4 v5) → v16 = lvE v0 v1 v2l v2f v3 v4 v5 → 
      (True) ∧ (∀ (v17 : Bool) (v18 : Int), v17 = (hrV v0 v1 v2l v2f v3 v5 v4) → v18 = lvE v0 v1 v2l v2f v3 v5 v4 → 
      (((¬ (v16 = 0) ∨ ¬ (v18 = 0)) ∨ (v4 = v5 ∧ (v15 = true ∨ v17 = true))) →
        (False ↔ true = true) ∧ True) ∧
      (¬ (((¬ (v16 = 0) ∨ ¬ (v18 = 0)) ∨ (v4 = v5 ∧ (v15 = true ∨ v17 = true)))) →
        (True) ∧ (∀ (v19 : Bool), v19 = syW v0 v1 v2l v2f v3 → 
        (((v19 = true ∧ (v0 v4 2) = (v0 v5 2)) ∧ (¬ (v9 = v11) ∨ ¬ (((v15 = true ∧ v17 = true) ∨ (¬ (v15 = true) ∧ ¬ (v17 = true)))))) →
          (False ↔ true = true) ∧ True) ∧
        (¬ (((v19 = true ∧ (v0 v4 2) = (v0 v5 2)) ∧ (¬ (v9 = v11) ∨ ¬ (((v15 = true ∧ v17 = true) ∨ (¬ (v15 = true) ∧ ¬ (v17 = true))))))) →
          (True) ∧ (∀ (v20 : Int) (v21 : Int), v20 = dist (v0 v4 0) (v0 v4 1) (v0 v5 0) (v0 v5 1) → v21 = diste (v0 v4 0) (v0 v4 1) (v0 v5 0) (v0 v5 1) → 
          (True) ∧ (∀ (v22 : Int) (v23 : Int), v22 = dist (v0 v6 0) (v0 v6 1) (v0 v5 0) (v0 v5 1) → v23 = diste (v0 v6 0) (v0 v6 1) (v0 v5 0) (v0 v5 1) → 
          ((¬ (v21 = 0) ∨ ¬ (v23 = 0)) →
            (False ↔ true = true) ∧ True) ∧
          (¬ ((¬ (v21 = 0) ∨ ¬ (v23 = 0))) →
            ((((0 < v3 ∨ ¬ ((v0 v4 2) = (v0 v6 2))) ∨ v22 < v20) ∨ v13 ≤ v9) ↔ true = true) ∧ True)))))))))))))))))))))))))
theorem vh7 (h : VC7) : VH7 := by
  unfold VH7
  rw [hidF_eq dist, hidF_eq diste, hidF_eq grW, hidF_eq hrV, hidF_eq lvE, hidF_eq lvV, hidF_eq syW]
  exact h
end Go.Proofs.Ytiiebpfifkaleaa
