/- What the functions do, and what is left to show of each. -/
import Derived.Test.YtiiebpfifkaleaaC
set_option linter.unusedVariables false
namespace Go.Proofs.Ytiiebpfifkaleaa
open Go Go.RowKit Go.Proofs.Ytiiebpfifkaleaa.Vc
/-! hotspotlaw10.RadioTells -/
def sig8 : CSig := ⟨[⟨true, [.slc [.int .i64, .int .i64, .int .i64, .int .i64], .mat [.int .i64]]⟩, ⟨false, [.int .i64]⟩, ⟨false, [.int .i64]⟩], [⟨false, [.bool]⟩]⟩
def pre8 : List AV → Prop
  | [.a v0, .i v1, .m v2l v2f, .i v3, .i v4, .i v5] => ∀ t : Int, 0 ≤ t → t < v3 → 0 ≤ v2l t
  | _ => False
noncomputable def raw8 : List AV → List AV
  | [.a v0, .i v1, .m v2l v2f, .i v3, .i v4, .i v5] => [.b (true)]
  | _ => []

def VH8 : Prop :=
  ∀ (v0 : Int → Nat → Int) (v1 : Int) (v2l : Int → Int) (v2f : Int → Int → Nat → Int) (v3 : Int) (v4 : Int) (v5 : Int),
  (∀ t : Int, 0 ≤ t → t < v3 → 0 ≤ v2l t) →
  (0 ≤ v1 →
  (0 ≤ v3 →
  (True) ∧ (∀ (v6 : Bool), v6 = (hidF grW) v1 v2l v3 → 
  (v1 ≤ 9223372036854775807 →
  (v3 ≤ 9223372036854775807 →
  (v6 = true →
    (True ↔ true = true) ∧ True) ∧
  (¬ (v6 = true) →
    (smallW v1 v2l v3) ∧ (∀ (v7 : Int → Nat → Int) (v8 : Int) (v9l : Int → Int) (v9f : Int → Int → Nat → Int) (v10 : Int), v7 = v0 → v8 = v1 → v9l = v2l → v9f = v2f → v10 = v3 → 
    (0 ≤ v8 →
    (0 ≤ v10 →
    (True) ∧ (∀ (v11 : Int) (v12 : Int), v11 = (hidF lvV) v7 v8 v9l v9f v10 v4 v5 → v12 = (hidF lvE) v7 v8 v9l v9f v10 v4 v5 → 
    (v8 ≤ 9223372036854775807 →
    (v10 ≤ 9223372036854775807 →
    (True) ∧ (∀ (v13 : Int) (v14 : Int), v13 = (hidF lvV) v0 v1 v2l v2f v3 v4 v5 → v14 = (hidF lvE) v0 v1 v2l v2f v3 v4 v5 → 
    (True) ∧ (∀ (v15 : Bool) (v16 : Int), v15 = ((hidF hrV) v7 v8 v9l v9f v10 v5 v4) → v16 = (hidF lvE) v7 v8 v9l v9f v10 v5 v4 → 
    (True) ∧ (∀ (v17 : Bool) (v18 : Int), v17 = ((hidF hrV) v0 v1 v2l v2f v3 v5 v4) → v18 = (hidF lvE) v0 v1 v2l v2f v3 v5 v4 → 
    (True) ∧ (∀ (v19 : Int → Nat → Int) (v20 : Int) (v21 : Int), v19 = (hidF nbF) v7 v8 v9f v10 v5 → v20 = (hidF nbN) v7 v8 v9l v9f v10 v5 → v21 = (hidF lvE) v7 v8 v9l v9f v10 v5 v5 → 
    (0 ≤ v20 →
    (True) ∧ (∀ (v22 : Int → Nat → Int) (v23 : Int) (v24 : Int), v22 = (hidF nbF) v0 v1 v2f v3 v5 → v23 = (hidF nbN) v0 v1 v2l v2f v3 v5 → v24 = (hidF lvE) v0 v1 v2l v2f v3 v5 v5 → 
    (0 ≤ v23 →
    (v20 ≤ 9223372036854775807 →
    (True) ∧ (∀ (v25 : Int), v25 = (hidF ckW) v7 v8 v9l v9f v10 → 
    (True) ∧ (∀ (v26 : Int), v26 = (hidF ckW) v0 v1 v2l v2f v3 → 
    ((v25 = v26 → True)) ∧ (∀ (v27 : Bool), v27 = (hidF syW) v7 v8 v9l v9f v10 → 
    ((v25 = v26 → True)) ∧ (∀ (v28 : Bool), v28 = (hidF syW) v0 v1 v2l v2f v3 → 
    (v23 ≤ 9223372036854775807 →
    (((((((v25 = v26 ∧ ((v27 = true ∧ v28 = true) ∨ (¬ (v27 = true) ∧ ¬ (v28 = true)))) ∧ v11 = v13) ∧ v12 = v14) ∧ ((v15 = true ∧ v17 = true) ∨ (¬ (v15 = true) ∧ ¬ (v17 = true)))) ∧ v16 = v18) → True)) ∧ (∀ (v29 : Bool), v29 = (hidF saI) v19 v20 v22 v23 → 
    (((((((((v25 = v26 ∧ ((v27 = true ∧ v28 = true) ∨ (¬ (v27 = true) ∧ ¬ (v28 = true)))) ∧ v11 = v13) ∧ v12 = v14) ∧ ((v15 = true ∧ v17 = true) ∨ (¬ (v15 = true) ∧ ¬ (v17 = true)))) ∧ v16 = v18) ∧ v29 = true) ∧ v21 = v24) → True)) ∧ (∀ (v30 : Bool), v30 = (hidF smW) v7 v8 v9l v9f v10 v0 v1 v2l v2f v3 → 
    (((((((((v25 = v26 ∧ ((v27 = true ∧ v28 = true) ∨ (¬ (v27 = true) ∧ ¬ (v28 = true)))) ∧ v11 = v13) ∧ v12 = v14) ∧ ((v15 = true ∧ v17 = true) ∨ (¬ (v15 = true) ∧ ¬ (v17 = true)))) ∧ v16 = v18) ∧ v29 = true) ∧ v21 = v24) ∧ v30 = true) ↔ true = true) ∧ True)))))))))))))))))))))))))))
def VC8 : Prop :=
  ∀ (v0 : Int → Nat → Int) (v1 : Int) (v2l : Int → Int) (v2f : Int → Int → Nat → Int) (v3 : Int) (v4 : Int) (v5 : Int),
  (∀ t : Int, 0 ≤ t → t < v3 → 0 ≤ v2l t) →
  (0 ≤ v1 →
  (0 ≤ v3 →
  (True) ∧ (∀ (v6 : Bool), v6 = grW v1 v2l v3 → 
  (v1 ≤ 9223372036854775807 →
  (v3 ≤ 9223372036854775807 →
  (v6 = true →
    (True ↔ true = true) ∧ True) ∧
  (¬ (v6 = true) →
    (smallW v1 v2l v3) ∧ (∀ (v7 : Int → Nat → Int) (v8 : Int) (v9l : Int → Int) (v9f : Int → Int → Nat → Int) (v10 : Int), v7 = v0 → v8 = v1 → v9l = v2l → v9f = v2f → v10 = v3 → 
    (0 ≤ v8 →
    (0 ≤ v10 →
    (True) ∧ (∀ (v11 : Int) (v12 : Int), v11 = lvV v7 v8 v9l v9f v10 v4 v5 → v12 = lvE v7 v8 v9l v9f v10 v4 v5 → 
    (v8 ≤ 9223372036854775807 →
    (v10 ≤ 9223372036854775807 →
    (True) ∧ (∀ (v13 : Int) (v14 : Int), v13 = lvV v0 v1 v2l v2f v3 v4 v5 → v14 = lvE v0 v1 v2l v2f v3 v4 v5 → 
    (True) ∧ (∀ (v15 : Bool) (v16 : Int), v15 = (hrV v7 v8 v9l v9f v10 v5 v4) → v16 = lvE v7 v8 v9l v9f v10 v5 v4 → 
    (True) ∧ (∀ (v17 : Bool) (v18 : Int), v17 = (hrV v0 v1 v2l v2f v3 v5 v4) → v18 = lvE v0 v1 v2l v2f v3 v5 v4 → 
    (True) ∧ (∀ (v19 : Int → Nat → Int) (v20 : Int) (v21 : Int), v19 = nbF v7 v8 v9f v10 v5 → v20 = nbN v7 v8 v9l v9f v10 v5 → v21 = lvE v7 v8 v9l v9f v10 v5 v5 → 
    (0 ≤ v20 →
    (True) ∧ (∀ (v22 : Int → Nat → Int) (v23 : Int) (v24 : Int), v22 = nbF v0 v1 v2f v3 v5 → v23 = nbN v0 v1 v2l v2f v3 v5 → v24 = lvE v0 v1 v2l v2f v3 v5 v5 → 
    (0 ≤ v23 →
    (v20 ≤ 9223372036854775807 →
    (True) ∧ (∀ (v25 : Int), v25 = ckW v7 v8 v9l v9f v10 → 
    (True) ∧ (∀ (v26 : Int), v26 = ckW v0 v1 v2l v2f v3 → 
    ((v25 = v26 → True)) ∧ (∀ (v27 : Bool), v27 = syW v7 v8 v9l v9f v10 → 
    ((v25 = v26 → True)) ∧ (∀ (v28 : Bool), v28 = syW v0 v1 v2l v2f v3 → 
    (v23 ≤ 9223372036854775807 →
    (((((((v25 = v26 ∧ ((v27 = true ∧ v28 = true) ∨ (¬ (v27 = true) ∧ ¬ (v28 = true)))) ∧ v11 = v13) ∧ v12 = v14) ∧ ((v15 = true ∧ v17 = true) ∨ (¬ (v15 = true) ∧ ¬ (v17 = true)))) ∧ v16 = v18) → True)) ∧ (∀ (v29 : Bool), v29 = saI v19 v20 v22 v23 → 
    (((((((((v25 = v26 ∧ ((v27 = true ∧ v28 = true) ∨ (¬ (v27 = true) ∧ ¬ (v28 = true)))) ∧ v11 = v13) ∧ v12 = v14) ∧ ((v15 = true ∧ v17 = true) ∨ (¬ (v15 = true) ∧ ¬ (v17 = true)))) ∧ v16 = v18) ∧ v29 = true) ∧ v21 = v24) → True)) ∧ (∀ (v30 : Bool), v30 = smW v7 v8 v9l v9f v10 v0 v1 v2l v2f v3 → 
    (((((((((v25 = v26 ∧ ((v27 = true ∧ v28 = true) ∨ (¬ (v27 = true) ∧ ¬ (v28 = true)))) ∧ v11 = v13) ∧ v12 = v14) ∧ ((v15 = true ∧ v17 = true) ∨ (¬ (v15 = true) ∧ ¬ (v17 = true)))) ∧ v16 = v18) ∧ v29 = true) ∧ v21 = v24) ∧ v30 = true) ↔ true = true) ∧ True)))))))))))))))))))))))))))
theorem vh8 (h : VC8) : VH8 := by
  unfold VH8
  rw [hidF_eq ckW, hidF_eq grW, hidF_eq hrV, hidF_eq lvE, hidF_eq lvV, hidF_eq nbF, hidF_eq nbN, hidF_eq saI, hidF_eq smW, hidF_eq syW]
  exact h
end Go.Proofs.Ytiiebpfifkaleaa
