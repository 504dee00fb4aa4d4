/- What the functions do, and what is left to show of each. -/
import Derived.Test.YtgdjdaoglkfjdaaC
import Derived.Test.YtgdjdaoglkfjdaaD5
set_option linter.unusedVariables false
namespace Go.Proofs.Ytgdjdaoglkfjdaa
open Go Go.RowKit Go.Proofs.Ytgdjdaoglkfjdaa.Vc
/-! hotspotlaw11.MediumTells -/
def sig4 : CSig := ⟨[⟨true, [.slc [.int .i64, .int .i64, .int .i64, .int .i64], .mat [.int .i64]]⟩, ⟨false, [.slc [.int .i64, .int .i64, .int .i64, .int .i64]]⟩, ⟨false, [.slc [.bool]]⟩], [⟨false, [.bool]⟩]⟩
def pre4 : List AV → Prop
  | [.a v0, .i v1, .m v2l v2f, .i v3, .a v4, .i v5, .a v6, .i v7] => True
  | _ => False
noncomputable def raw4 : List AV → List AV
  | [.a v0, .i v1, .m v2l v2f, .i v3, .a v4, .i v5, .a v6, .i v7] => [.b (true)]
  | _ => []

def VH4 : Prop :=
  ∀ (v0 : Int → Nat → Int) (v1 : Int) (v2l : Int → Int) (v2f : Int → Int → Nat → Int) (v3 : Int) (v4 : Int → Nat → Int) (v5 : Int) (v6 : Int → Nat → Int) (v7 : Int),
  (True) →
  (0 ≤ v1 →
  (0 ≤ v3 →
  (0 ≤ v5 →
  (0 ≤ v7 →
  (True) ∧ (∀ (v8 : Bool), v8 = (hidF gr1) v1 v2l v3 v5 → 
  (v1 ≤ 9223372036854775807 →
  (v3 ≤ 9223372036854775807 →
  (v5 ≤ 9223372036854775807 →
  (v7 ≤ 9223372036854775807 →
  ((v8 = true ∨ 1000 < v7) →
    (True ↔ true = true) ∧ True) ∧
  (¬ ((v8 = true ∨ 1000 < v7)) →
    (v5 * 32) ≤ 140737488355328 ∧ ((v5 * 32) ≤ 140737488355328 →
    v5 ≤ 140737488355328 ∧ (v5 ≤ 140737488355328 →
    (True) ∧ (∀ (v9l : Int → Int) (v9f : Int → Int → Nat → Int) (v10 : Int) (v11 : Int), v9l = (hidF reL) v0 v1 v2f v3 v4 v5 v6 v7 → v9f = (hidF reF) v0 v1 v2f v3 v4 v5 v6 v7 → v10 = (hidF reN) v0 v1 v2l v2f v3 v4 v5 → v11 = (hidF mcE) v0 v1 v2l v2f v3 v4 v5 → 
    (0 ≤ v10 →
    (True) ∧ (∀ (v12l : Int → Int) (v12f : Int → Int → Nat → Int) (v13 : Int) (v14 : Int), v12l = (hidF reL) v0 v1 v2f v3 v4 v5 v6 v7 → v12f = (hidF reF) v0 v1 v2f v3 v4 v5 v6 v7 → v13 = (hidF reN) v0 v1 v2l v2f v3 v4 v5 → v14 = (hidF mcE) v0 v1 v2l v2f v3 v4 v5 → 
    (0 ≤ v13 →
    (v10 ≤ 9223372036854775807 →
    (True) ∧ (∀ (v15 : Int), v15 = (hidF mcE) v0 v1 v2l v2f v3 v4 v5 → 
    (True) ∧ (∀ (v16 : Int), v16 = (hidF mcE) v0 v1 v2l v2f v3 v4 v5 → 
    ((v15 = v16 → True)) ∧ (∀ (v17 : Bool), v17 = (hidF srB) v9l v9f v10 v12l v12f v13 → 
    ((((v15 = v16 ∧ v17 = true) ∧ v11 = v14) → True)) ∧ (∀ (v18 : Bool), v18 = (hidF smL) v4 v5 v4 v5 → 
    (v13 ≤ 9223372036854775807 →
    ((((v15 = v16 ∧ v17 = true) ∧ v11 = v14) ∧ v18 = true) ↔ true = true) ∧ True))))))))))))))))))))))
def VC4 : Prop :=
  ∀ (v0 : Int → Nat → Int) (v1 : Int) (v2l : Int → Int) (v2f : Int → Int → Nat → Int) (v3 : Int) (v4 : Int → Nat → Int) (v5 : Int) (v6 : Int → Nat → Int) (v7 : Int),
  (True) →
  (0 ≤ v1 →
  (0 ≤ v3 →
  (0 ≤ v5 →
  (0 ≤ v7 →
  (True) ∧ (∀ (v8 : Bool), v8 = gr1 v1 v2l v3 v5 → 
  (v1 ≤ 9223372036854775807 →
  (v3 ≤ 9223372036854775807 →
  (v5 ≤ 9223372036854775807 →
  (v7 ≤ 9223372036854775807 →
  ((v8 = true ∨ 1000 < v7) →
    (True ↔ true = true) ∧ True) ∧
  (¬ ((v8 = true ∨ 1000 < v7)) →
    (v5 * 32) ≤ 140737488355328 ∧ ((v5 * 32) ≤ 140737488355328 →
    v5 ≤ 140737488355328 ∧ (v5 ≤ 140737488355328 →
    (True) ∧ (∀ (v9l : Int → Int) (v9f : Int → Int → Nat → Int) (v10 : Int) (v11 : Int), v9l = reL v0 v1 v2f v3 v4 v5 v6 v7 → v9f = reF v0 v1 v2f v3 v4 v5 v6 v7 → v10 = reN v0 v1 v2l v2f v3 v4 v5 → v11 = mcE v0 v1 v2l v2f v3 v4 v5 → 
    (0 ≤ v10 →
    (True) ∧ (∀ (v12l : Int → Int) (v12f : Int → Int → Nat → Int) (v13 : Int) (v14 : Int), v12l = reL v0 v1 v2f v3 v4 v5 v6 v7 → v12f = reF v0 v1 v2f v3 v4 v5 v6 v7 → v13 = reN v0 v1 v2l v2f v3 v4 v5 → v14 = mcE v0 v1 v2l v2f v3 v4 v5 → 
    (0 ≤ v13 →
    (v10 ≤ 9223372036854775807 →
    (True) ∧ (∀ (v15 : Int), v15 = mcE v0 v1 v2l v2f v3 v4 v5 → 
    (True) ∧ (∀ (v16 : Int), v16 = mcE v0 v1 v2l v2f v3 v4 v5 → 
    ((v15 = v16 → True)) ∧ (∀ (v17 : Bool), v17 = srB v9l v9f v10 v12l v12f v13 → 
    ((((v15 = v16 ∧ v17 = true) ∧ v11 = v14) → True)) ∧ (∀ (v18 : Bool), v18 = smL v4 v5 v4 v5 → 
    (v13 ≤ 9223372036854775807 →
    ((((v15 = v16 ∧ v17 = true) ∧ v11 = v14) ∧ v18 = true) ↔ true = true) ∧ True))))))))))))))))))))))
theorem vh4 (h : VC4) : VH4 := by
  unfold VH4
  rw [hidF_eq gr1, hidF_eq mcE, hidF_eq reF, hidF_eq reL, hidF_eq reN, hidF_eq smL, hidF_eq srB]
  exact h
end Go.Proofs.Ytgdjdaoglkfjdaa
