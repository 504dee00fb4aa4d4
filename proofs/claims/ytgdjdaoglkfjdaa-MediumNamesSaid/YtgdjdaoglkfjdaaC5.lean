/- What the functions do, and what is left to show of each. -/
import Derived.Test.YtgdjdaoglkfjdaaC
import Derived.Test.YtgdjdaoglkfjdaaD5
set_option linter.unusedVariables false
namespace Go.Proofs.Ytgdjdaoglkfjdaa
open Go Go.RowKit Go.Proofs.Ytgdjdaoglkfjdaa.Vc
/-! hotspotlaw11.near -/
def sig31 : CSig := ⟨[], [⟨true, [.slc [.int .i64, .int .i64, .int .i64, .int .i64], .mat [.int .i64]]⟩]⟩
def pre31 : List AV → Prop
  | [] => True
  | _ => False
noncomputable def raw31 : List AV → List AV
  | [] => [.a (neA), .i (3), .m (zL) (zF), .i (0)]
  | _ => []

def VH31 : Prop :=
  (True) →
  (3 : Int) = 3 ∧ (∀ (i : Int) (f : Nat), 0 ≤ i → i < 3 → f < 4 → (setA (setA (setA (setA (setA (setA (setA (setA (setA (setA (setA (setA zA 0 0 (-1000)) 0 1 0) 0 2 300) 0 3 1) 1 0 0) 1 1 0) 1 2 300) 1 3 1) 2 0 1000) 2 1 0) 2 2 300) 2 3 1) i f = neA i f) ∧ (0 : Int) = 0 ∧ (∀ (i : Int), 0 ≤ i → i < 0 → zL i = zL i ∧ ∀ (j : Int) (f : Nat), 0 ≤ j → j < zL i → f < 1 → zF i j f = zF i j f) ∧ True
def VC31 : Prop :=
  (True) →
  (3 : Int) = 3 ∧ (∀ (i : Int) (f : Nat), 0 ≤ i → i < 3 → f < 4 → (setA (setA (setA (setA (setA (setA (setA (setA (setA (setA (setA (setA zA 0 0 (-1000)) 0 1 0) 0 2 300) 0 3 1) 1 0 0) 1 1 0) 1 2 300) 1 3 1) 2 0 1000) 2 1 0) 2 2 300) 2 3 1) i f = neA i f) ∧ (0 : Int) = 0 ∧ (∀ (i : Int), 0 ≤ i → i < 0 → zL i = zL i ∧ ∀ (j : Int) (f : Nat), 0 ≤ j → j < zL i → f < 1 → zF i j f = zF i j f) ∧ True
theorem vh31 (h : VC31) : VH31 := by
  unfold VH31
  exact h
/-! hotspotlaw11.alive -/
def sig25 : CSig := ⟨[], [⟨false, [.bool]⟩]⟩
def pre25 : List AV → Prop
  | [] => True
  | _ => False
noncomputable def raw25 : List AV → List AV
  | [] => [.b (true)]
  | _ => []

def VH25 : Prop :=
  (True) →
  (True) ∧ (∀ (v0 : Int → Nat → Int) (v1 : Int) (v2l : Int → Int) (v2f : Int → Int → Nat → Int) (v3 : Int), v0 = neA → v1 = 3 → v2l = zL → v2f = zF → v3 = 0 → 
  (True) ∧ (∀ (v4l : Int → Int) (v4f : Int → Int → Nat → Int) (v5 : Int) (v6 : Int), v4l = (hidF reL) v0 v1 v2f v3 (setA (setA (setA (setA (setA (setA (setA (setA zA 0 0 0) 0 1 0) 0 2 10) 0 3 (-820)) 1 0 2) 1 1 9) 1 2 20) 1 3 (-820)) (2 : Int) zA (0 : Int) → v4f = (hidF reF) v0 v1 v2f v3 (setA (setA (setA (setA (setA (setA (setA (setA zA 0 0 0) 0 1 0) 0 2 10) 0 3 (-820)) 1 0 2) 1 1 9) 1 2 20) 1 3 (-820)) (2 : Int) zA (0 : Int) → v5 = (hidF reN) v0 v1 v2l v2f v3 (setA (setA (setA (setA (setA (setA (setA (setA zA 0 0 0) 0 1 0) 0 2 10) 0 3 (-820)) 1 0 2) 1 1 9) 1 2 20) 1 3 (-820)) (2 : Int) → v6 = (hidF mcE) v0 v1 v2l v2f v3 (setA (setA (setA (setA (setA (setA (setA (setA zA 0 0 0) 0 1 0) 0 2 10) 0 3 (-820)) 1 0 2) 1 1 9) 1 2 20) 1 3 (-820)) (2 : Int) → 
  (0 ≤ v1 →
  (0 ≤ v3 →
  (0 ≤ v5 →
  (v5 ≤ 9223372036854775807 →
  (True) ∧ (∀ (v7 : Int → Nat → Int) (v8 : Int) (v9l : Int → Int) (v9f : Int → Int → Nat → Int) (v10 : Int), v7 = neA → v8 = 3 → v9l = zL → v9f = zF → v10 = 0 → 
  (True) ∧ (∀ (v11l : Int → Int) (v11f : Int → Int → Nat → Int) (v12 : Int) (v13 : Int), v11l = (hidF reL) v7 v8 v9f v10 (setA (setA (setA (setA zA 0 0 0) 0 1 0) 0 2 10) 0 3 (-820)) (1 : Int) zA (0 : Int) → v11f = (hidF reF) v7 v8 v9f v10 (setA (setA (setA (setA zA 0 0 0) 0 1 0) 0 2 10) 0 3 (-820)) (1 : Int) zA (0 : Int) → v12 = (hidF reN) v7 v8 v9l v9f v10 (setA (setA (setA (setA zA 0 0 0) 0 1 0) 0 2 10) 0 3 (-820)) (1 : Int) → v13 = (hidF mcE) v7 v8 v9l v9f v10 (setA (setA (setA (setA zA 0 0 0) 0 1 0) 0 2 10) 0 3 (-820)) (1 : Int) → 
  (0 ≤ v8 →
  (0 ≤ v10 →
  (0 ≤ v12 →
  (v12 ≤ 9223372036854775807 →
  (True) ∧ (∀ (v14 : Int → Nat → Int) (v15 : Int) (v16l : Int → Int) (v16f : Int → Int → Nat → Int) (v17 : Int), v14 = neA → v15 = 3 → v16l = zL → v16f = zF → v17 = 0 → 
  (True) ∧ (∀ (v18l : Int → Int) (v18f : Int → Int → Nat → Int) (v19 : Int) (v20 : Int), v18l = (hidF reL) v14 v15 v16f v17 (setA (setA (setA (setA zA 0 0 0) 0 1 0) 0 2 10) 0 3 (-820)) (1 : Int) (setA (setA zA 0 0 1) 1 0 0) (2 : Int) → v18f = (hidF reF) v14 v15 v16f v17 (setA (setA (setA (setA zA 0 0 0) 0 1 0) 0 2 10) 0 3 (-820)) (1 : Int) (setA (setA zA 0 0 1) 1 0 0) (2 : Int) → v19 = (hidF reN) v14 v15 v16l v16f v17 (setA (setA (setA (setA zA 0 0 0) 0 1 0) 0 2 10) 0 3 (-820)) (1 : Int) → v20 = (hidF mcE) v14 v15 v16l v16f v17 (setA (setA (setA (setA zA 0 0 0) 0 1 0) 0 2 10) 0 3 (-820)) (1 : Int) → 
  (0 ≤ v15 →
  (0 ≤ v17 →
  (0 ≤ v19 →
  (v19 ≤ 9223372036854775807 →
  (True) ∧ (∀ (v21 : Int → Nat → Int) (v22 : Int) (v23l : Int → Int) (v23f : Int → Int → Nat → Int) (v24 : Int), v21 = neA → v22 = 3 → v23l = zL → v23f = zF → v24 = 0 → 
  (True) ∧ (∀ (v25l : Int → Int) (v25f : Int → Int → Nat → Int) (v26 : Int) (v27 : Int), v25l = (hidF reL) v21 v22 v23f v24 (setA (setA (setA (setA (setA (setA (setA (setA zA 0 0 0) 0 1 0) 0 2 10) 0 3 (-820)) 1 0 2) 1 1 10) 1 2 20) 1 3 (-820)) (2 : Int) zA (0 : Int) → v25f = (hidF reF) v21 v22 v23f v24 (setA (setA (setA (setA (setA (setA (setA (setA zA 0 0 0) 0 1 0) 0 2 10) 0 3 (-820)) 1 0 2) 1 1 10) 1 2 20) 1 3 (-820)) (2 : Int) zA (0 : Int) → v26 = (hidF reN) v21 v22 v23l v23f v24 (setA (setA (setA (setA (setA (setA (setA (setA zA 0 0 0) 0 1 0) 0 2 10) 0 3 (-820)) 1 0 2) 1 1 10) 1 2 20) 1 3 (-820)) (2 : Int) → v27 = (hidF mcE) v21 v22 v23l v23f v24 (setA (setA (setA (setA (setA (setA (setA (setA zA 0 0 0) 0 1 0) 0 2 10) 0 3 (-820)) 1 0 2) 1 1 10) 1 2 20) 1 3 (-820)) (2 : Int) → 
  (0 ≤ v22 →
  (0 ≤ v24 →
  (0 ≤ v26 →
  (v26 ≤ 9223372036854775807 →
  (((((v6 = 0 ∧ v13 = 0) ∧ v20 = 0) ∧ v27 = 0) → True)) ∧ (∀ (v28 : Bool), v28 = (hidF srB) v4l v4f v5 (srL (srL zL 0 0) 1 0) (srF (srF zF 0 zA) 1 zA) (2 : Int) → 
  ((((((v6 = 0 ∧ v13 = 0) ∧ v20 = 0) ∧ v27 = 0) ∧ v28 = true) → True)) ∧ (∀ (v29 : Bool), v29 = (hidF srB) v11l v11f v12 (srL zL 0 2) (srF zF 0 (setA (setA zA 0 0 1) 1 0 2)) (1 : Int) → 
  (((((((v6 = 0 ∧ v13 = 0) ∧ v20 = 0) ∧ v27 = 0) ∧ v28 = true) ∧ v29 = true) → True)) ∧ (∀ (v30 : Bool), v30 = (hidF srB) v18l v18f v19 (srL zL 0 1) (srF zF 0 (setA zA 0 0 2)) (1 : Int) → 
  ((((((((v6 = 0 ∧ v13 = 0) ∧ v20 = 0) ∧ v27 = 0) ∧ v28 = true) ∧ v29 = true) ∧ v30 = true) → True)) ∧ (∀ (v31 : Bool), v31 = (hidF srB) v25l v25f v26 (srL (srL zL 0 2) 1 2) (srF (srF zF 0 (setA (setA zA 0 0 1) 1 0 2)) 1 (setA (setA zA 0 0 0) 1 0 1)) (2 : Int) → 
  ((((((((v6 = 0 ∧ v13 = 0) ∧ v20 = 0) ∧ v27 = 0) ∧ v28 = true) ∧ v29 = true) ∧ v30 = true) ∧ v31 = true) ↔ true = true) ∧ True))))))))))))))))))))))))))))
def VC25 : Prop :=
  (True) →
  (True) ∧ (∀ (v0 : Int → Nat → Int) (v1 : Int) (v2l : Int → Int) (v2f : Int → Int → Nat → Int) (v3 : Int), v0 = neA → v1 = 3 → v2l = zL → v2f = zF → v3 = 0 → 
  (True) ∧ (∀ (v4l : Int → Int) (v4f : Int → Int → Nat → Int) (v5 : Int) (v6 : Int), v4l = reL v0 v1 v2f v3 (setA (setA (setA (setA (setA (setA (setA (setA zA 0 0 0) 0 1 0) 0 2 10) 0 3 (-820)) 1 0 2) 1 1 9) 1 2 20) 1 3 (-820)) (2 : Int) zA (0 : Int) → v4f = reF v0 v1 v2f v3 (setA (setA (setA (setA (setA (setA (setA (setA zA 0 0 0) 0 1 0) 0 2 10) 0 3 (-820)) 1 0 2) 1 1 9) 1 2 20) 1 3 (-820)) (2 : Int) zA (0 : Int) → v5 = reN v0 v1 v2l v2f v3 (setA (setA (setA (setA (setA (setA (setA (setA zA 0 0 0) 0 1 0) 0 2 10) 0 3 (-820)) 1 0 2) 1 1 9) 1 2 20) 1 3 (-820)) (2 : Int) → v6 = mcE v0 v1 v2l v2f v3 (setA (setA (setA (setA (setA (setA (setA (setA zA 0 0 0) 0 1 0) 0 2 10) 0 3 (-820)) 1 0 2) 1 1 9) 1 2 20) 1 3 (-820)) (2 : Int) → 
  (0 ≤ v1 →
  (0 ≤ v3 →
  (0 ≤ v5 →
  (v5 ≤ 9223372036854775807 →
  (True) ∧ (∀ (v7 : Int → Nat → Int) (v8 : Int) (v9l : Int → Int) (v9f : Int → Int → Nat → Int) (v10 : Int), v7 = neA → v8 = 3 → v9l = zL → v9f = zF → v10 = 0 → 
  (True) ∧ (∀ (v11l : Int → Int) (v11f : Int → Int → Nat → Int) (v12 : Int) (v13 : Int), v11l = reL v7 v8 v9f v10 (setA (setA (setA (setA zA 0 0 0) 0 1 0) 0 2 10) 0 3 (-820)) (1 : Int) zA (0 : Int) → v11f = reF v7 v8 v9f v10 (setA (setA (setA (setA zA 0 0 0) 0 1 0) 0 2 10) 0 3 (-820)) (1 : Int) zA (0 : Int) → v12 = reN v7 v8 v9l v9f v10 (setA (setA (setA (setA zA 0 0 0) 0 1 0) 0 2 10) 0 3 (-820)) (1 : Int) → v13 = mcE v7 v8 v9l v9f v10 (setA (setA (setA (setA zA 0 0 0) 0 1 0) 0 2 10) 0 3 (-820)) (1 : Int) → 
  (0 ≤ v8 →
  (0 ≤ v10 →
  (0 ≤ v12 →
  (v12 ≤ 9223372036854775807 →
  (True) ∧ (∀ (v14 : Int → Nat → Int) (v15 : Int) (v16l : Int → Int) (v16f : Int → Int → Nat → Int) (v17 : Int), v14 = neA → v15 = 3 → v16l = zL → v16f = zF → v17 = 0 → 
  (True) ∧ (∀ (v18l : Int → Int) (v18f : Int → Int → Nat → Int) (v19 : Int) (v20 : Int), v18l = reL v14 v15 v16f v17 (setA (setA (setA (setA zA 0 0 0) 0 1 0) 0 2 10) 0 3 (-820)) (1 : Int) (setA (setA zA 0 0 1) 1 0 0) (2 : Int) → v18f = reF v14 v15 v16f v17 (setA (setA (setA (setA zA 0 0 0) 0 1 0) 0 2 10) 0 3 (-820)) (1 : Int) (setA (setA zA 0 0 1) 1 0 0) (2 : Int) → v19 = reN v14 v15 v16l v16f v17 (setA (setA (setA (setA zA 0 0 0) 0 1 0) 0 2 10) 0 3 (-820)) (1 : Int) → v20 = mcE v14 v15 v16l v16f v17 (setA (setA (setA (setA zA 0 0 0) 0 1 0) 0 2 10) 0 3 (-820)) (1 : Int) → 
  (0 ≤ v15 →
  (0 ≤ v17 →
  (0 ≤ v19 →
  (v19 ≤ 9223372036854775807 →
  (True) ∧ (∀ (v21 : Int → Nat → Int) (v22 : Int) (v23l : Int → Int) (v23f : Int → Int → Nat → Int) (v24 : Int), v21 = neA → v22 = 3 → v23l = zL → v23f = zF → v24 = 0 → 
  (True) ∧ (∀ (v25l : Int → Int) (v25f : Int → Int → Nat → Int) (v26 : Int) (v27 : Int), v25l = reL v21 v22 v23f v24 (setA (setA (setA (setA (setA (setA (setA (setA zA 0 0 0) 0 1 0) 0 2 10) 0 3 (-820)) 1 0 2) 1 1 10) 1 2 20) 1 3 (-820)) (2 : Int) zA (0 : Int) → v25f = reF v21 v22 v23f v24 (setA (setA (setA (setA (setA (setA (setA (setA zA 0 0 0) 0 1 0) 0 2 10) 0 3 (-820)) 1 0 2) 1 1 10) 1 2 20) 1 3 (-820)) (2 : Int) zA (0 : Int) → v26 = reN v21 v22 v23l v23f v24 (setA (setA (setA (setA (setA (setA (setA (setA zA 0 0 0) 0 1 0) 0 2 10) 0 3 (-820)) 1 0 2) 1 1 10) 1 2 20) 1 3 (-820)) (2 : Int) → v27 = mcE v21 v22 v23l v23f v24 (setA (setA (setA (setA (setA (setA (setA (setA zA 0 0 0) 0 1 0) 0 2 10) 0 3 (-820)) 1 0 2) 1 1 10) 1 2 20) 1 3 (-820)) (2 : Int) → 
  (0 ≤ v22 →
  (0 ≤ v24 →
  (0 ≤ v26 →
  (v26 ≤ 9223372036854775807 →
  (((((v6 = 0 ∧ v13 = 0) ∧ v20 = 0) ∧ v27 = 0) → True)) ∧ (∀ (v28 : Bool), v28 = srB v4l v4f v5 (srL (srL zL 0 0) 1 0) (srF (srF zF 0 zA) 1 zA) (2 : Int) → 
  ((((((v6 = 0 ∧ v13 = 0) ∧ v20 = 0) ∧ v27 = 0) ∧ v28 = true) → True)) ∧ (∀ (v29 : Bool), v29 = srB v11l v11f v12 (srL zL 0 2) (srF zF 0 (setA (setA zA 0 0 1) 1 0 2)) (1 : Int) → 
  (((((((v6 = 0 ∧ v13 = 0) ∧ v20 = 0) ∧ v27 = 0) ∧ v28 = true) ∧ v29 = true) → True)) ∧ (∀ (v30 : Bool), v30 = srB v18l v18f v19 (srL zL 0 1) (srF zF 0 (setA zA 0 0 2)) (1 : Int) → 
  ((((((((v6 = 0 ∧ v13 = 0) ∧ v20 = 0) ∧ v27 = 0) ∧ v28 = true) ∧ v29 = true) ∧ v30 = true) → True)) ∧ (∀ (v31 : Bool), v31 = srB v25l v25f v26 (srL (srL zL 0 2) 1 2) (srF (srF zF 0 (setA (setA zA 0 0 1) 1 0 2)) 1 (setA (setA zA 0 0 0) 1 0 1)) (2 : Int) → 
  ((((((((v6 = 0 ∧ v13 = 0) ∧ v20 = 0) ∧ v27 = 0) ∧ v28 = true) ∧ v29 = true) ∧ v30 = true) ∧ v31 = true) ↔ true = true) ∧ True))))))))))))))))))))))))))))
theorem vh25 (h : VC25) : VH25 := by
  unfold VH25
  rw [hidF_eq mcE, hidF_eq reF, hidF_eq reL, hidF_eq reN, hidF_eq srB]
  exact h
end Go.Proofs.Ytgdjdaoglkfjdaa
