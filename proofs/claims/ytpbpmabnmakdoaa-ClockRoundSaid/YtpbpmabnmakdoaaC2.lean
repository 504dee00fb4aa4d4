/- What the functions do, and what is left to show of each. -/
import Derived.Test.YtpbpmabnmakdoaaC
set_option linter.unusedVariables false
namespace Go.Proofs.Ytpbpmabnmakdoaa
open Go Go.RowKit Go.Proofs.Ytpbpmabnmakdoaa.Vc
/-! clock.asked -/
def sig31 : CSig := ⟨[⟨true, [.int .i64, .int .i64]⟩, ⟨false, [.int .i64]⟩], [⟨false, [.int .i64]⟩]⟩
def pre31 : List AV → Prop
  | [.i v0, .i v1, .i v2] => True
  | _ => False
noncomputable def raw31 : List AV → List AV
  | [.i v0, .i v1, .i v2] => [.i ((hidF asE) v0 v1 v2)]
  | _ => []

def VH31 : Prop :=
  ∀ (v0 : Int) (v1 : Int) (v2 : Int),
  (True) →
  (True) ∧ (∀ (v3 : Int), v3 = (hidF ckZ) v0 v1 → 
  (¬ (v3 = 0) →
    v3 = (hidF asE) v0 v1 v2 ∧ True) ∧
  (¬ (¬ (v3 = 0)) →
    ((v2 < 0 ∨ 1099511627776 < v2) →
      (2 : Int) = (hidF asE) v0 v1 v2 ∧ True) ∧
    (¬ ((v2 < 0 ∨ 1099511627776 < v2)) →
      (0 : Int) = (hidF asE) v0 v1 v2 ∧ True)))
def VC31 : Prop :=
  ∀ (v0 : Int) (v1 : Int) (v2 : Int),
  (True) →
  (True) ∧ (∀ (v3 : Int), v3 = ckZ v0 v1 → 
  (¬ (v3 = 0) →
    v3 = asE v0 v1 v2 ∧ True) ∧
  (¬ (¬ (v3 = 0)) →
    ((v2 < 0 ∨ 1099511627776 < v2) →
      (2 : Int) = asE v0 v1 v2 ∧ True) ∧
    (¬ ((v2 < 0 ∨ 1099511627776 < v2)) →
      (0 : Int) = asE v0 v1 v2 ∧ True)))
theorem vh31 (h : VC31) : VH31 := by
  unfold VH31
  rw [hidF_eq asE, hidF_eq ckZ]
  exact h
/-! clock.Local -/
def sig13 : CSig := ⟨[⟨true, [.int .i64, .int .i64]⟩, ⟨false, [.int .i64]⟩], [⟨false, [.int .i64]⟩, ⟨false, [.int .i64]⟩]⟩
def pre13 : List AV → Prop
  | [.i v0, .i v1, .i v2] => True
  | _ => False
noncomputable def raw13 : List AV → List AV
  | [.i v0, .i v1, .i v2] => [.i ((hidF lcV) v0 v1 v2), .i ((hidF asE) v0 v1 v2)]
  | _ => []

def VH13 : Prop :=
  ∀ (v0 : Int) (v1 : Int) (v2 : Int),
  (True) →
  (True) ∧ (∀ (v3 : Int), v3 = (hidF asE) v0 v1 v2 → 
  (¬ (v3 = 0) →
    (0 : Int) = (hidF lcV) v0 v1 v2 ∧ v3 = (hidF asE) v0 v1 v2 ∧ True) ∧
  (¬ (¬ (v3 = 0)) →
    (okC v0 v1 ∧ 0 ≤ v2 ∧ v2 ≤ 2^42) ∧ (∀ (v4 : Int), v4 = (hidF tmZ) v0 v1 v2 → 
    v4 = (hidF lcV) v0 v1 v2 ∧ (0 : Int) = (hidF asE) v0 v1 v2 ∧ True)))
def VC13 : Prop :=
  ∀ (v0 : Int) (v1 : Int) (v2 : Int),
  (True) →
  (True) ∧ (∀ (v3 : Int), v3 = asE v0 v1 v2 → 
  (¬ (v3 = 0) →
    (0 : Int) = lcV v0 v1 v2 ∧ v3 = asE v0 v1 v2 ∧ True) ∧
  (¬ (¬ (v3 = 0)) →
    (okC v0 v1 ∧ 0 ≤ v2 ∧ v2 ≤ 2^42) ∧ (∀ (v4 : Int), v4 = tmZ v0 v1 v2 → 
    v4 = lcV v0 v1 v2 ∧ (0 : Int) = asE v0 v1 v2 ∧ True)))
theorem vh13 (h : VC13) : VH13 := by
  unfold VH13
  rw [hidF_eq asE, hidF_eq lcV, hidF_eq tmZ]
  exact h
/-! hotspotlaw12.alive -/
def sig21 : CSig := ⟨[], [⟨false, [.bool]⟩]⟩
def pre21 : List AV → Prop
  | [] => True
  | _ => False
noncomputable def raw21 : List AV → List AV
  | [] => [.b (true)]
  | _ => []

def VH21 : Prop :=
  (True) →
  (True ↔ true = true) ∧ True
def VC21 : Prop :=
  (True) →
  (True ↔ true = true) ∧ True
theorem vh21 (h : VC21) : VH21 := by
  unfold VH21
  exact h
/-! hotspotlaw12.ClockRound -/
def sig8 : CSig := ⟨[⟨false, [.slc [.int .i64, .int .i64]]⟩, ⟨false, [.int .i64]⟩, ⟨false, [.int .i64]⟩, ⟨false, [.int .i64]⟩], [⟨false, [.bool]⟩]⟩
def pre8 : List AV → Prop
  | [.a v0, .i v1, .i v2, .i v3, .i v4] => True
  | _ => False
noncomputable def raw8 : List AV → List AV
  | [.a v0, .i v1, .i v2, .i v3, .i v4] => [.b (true)]
  | _ => []

def VH8 : Prop :=
  ∀ (v0 : Int → Nat → Int) (v1 : Int) (v2 : Int) (v3 : Int) (v4 : Int),
  (True) →
  (0 ≤ v1 →
  (True) ∧ (∀ (v5 : Bool), v5 = true → 
  (v1 ≤ 9223372036854775807 →
  ((((((32 < v1 ∨ v2 < 0) ∨ v1 ≤ v2) ∨ v4 < v3) ∨ 1099511627776 < v4) ∨ ¬ (v5 = true)) →
    (v5 = true ↔ true = true) ∧ True) ∧
  (¬ ((((((32 < v1 ∨ v2 < 0) ∨ v1 ≤ v2) ∨ v4 < v3) ∨ 1099511627776 < v4) ∨ ¬ (v5 = true))) →
    0 ≤ v2 ∧ (0 ≤ v2 →
    v2 < v1 ∧ (v2 < v1 →
    (True) ∧ (∀ (v6 : Int) (v7 : Int), v6 = (hidF lcV) (v0 v2 0) (v0 v2 1) v3 → v7 = (hidF asE) (v0 v2 0) (v0 v2 1) v3 → 
    (¬ (v7 = 0) →
      (v5 = true ↔ true = true) ∧ True) ∧
    (¬ (¬ (v7 = 0)) →
      ∃ (I0 : (Int → Int) → (Int → Int → Nat → Int) → (Int) → (Int) → Prop) (μ0 : (Int → Int) → (Int → Int → Nat → Int) → (Int) → (Int) → Nat), I0 (srL zL (-1) 0) (srF zF (-1) zA) (0 : Int) (0 : Int) ∧ (∀ (v8l : Int → Int) (v8f : Int → Int → Nat → Int) (v9 : Int) (v10 : Int), I0 v8l v8f v9 v10 →
        (0 ≤ v9 →
        (v9 ≤ 9223372036854775807 →
        (v10 < v1 →
          0 ≤ v10 ∧ (0 ≤ v10 →
          (True) ∧ (∀ (v11 : Int) (v12 : Int), v11 = (hidF lcV) (v0 v10 0) (v0 v10 1) v3 → v12 = (hidF asE) (v0 v10 0) (v0 v10 1) v3 → 
          ((¬ (v12 = 0) ∨ v6 < v11) →
            (v5 = true ↔ true = true) ∧ True) ∧
          (¬ ((¬ (v12 = 0) ∨ v6 < v11)) →
            ((v9 + 1) * 24) ≤ 140737488355328 ∧ (((v9 + 1) * 24) ≤ 140737488355328 →
            (v9 + 1) ≤ 140737488355328 ∧ ((v9 + 1) ≤ 140737488355328 →
            (-9223372036854775808 ≤ (v10 + 1) ∧ (v10 + 1) ≤ 9223372036854775807) ∧ ((-9223372036854775808 ≤ (v10 + 1) ∧ (v10 + 1) ≤ 9223372036854775807) →
            I0 (srL v8l v9 1) (srF v8f v9 (setA zA 0 0 v2)) (v9 + 1) (v10 + 1) ∧ μ0 (srL v8l v9 1) (srF v8f v9 (setA zA 0 0 v2)) (v9 + 1) (v10 + 1) < μ0 v8l v8f v9 v10))))))) ∧
        (¬ (v10 < v1) →
          (True) ∧ (∀ (v11 : Int → Nat → Int) (v12 : Int) (v13 : Int), v11 = (hidF rdA) v0 v1 v8l v8f v9 v3 → v12 = (hidF rdN) v0 v1 v8l v8f v9 v3 → v13 = (hidF rdE) v0 v1 v8l v8f v9 v3 → 
          (0 ≤ v12 →
          (v12 ≤ 9223372036854775807 →
          (¬ (v13 = 0) →
            ((v5 = true ∧ v13 = 8) ↔ true = true) ∧ True) ∧
          (¬ (¬ (v13 = 0)) →
            (¬ (v12 = v1) →
              (False ↔ true = true) ∧ True) ∧
            (¬ (¬ (v12 = v1)) →
              ∃ (I1 : (Int) → (Int) → (Int) → Prop) (μ1 : (Int) → (Int) → (Int) → Nat), I1 (0 : Int) (0 : Int) (0 : Int) ∧ (∀ (v14 : Int) (v15 : Int) (v16 : Int), I1 v14 v15 v16 →
                (v16 < v12 →
                  0 ≤ v16 ∧ (0 ≤ v16 →
                  (True) ∧ (∀ (v17 : Int) (v18 : Int), v17 = (hidF lcV) (v11 v16 0) (v11 v16 1) v3 → v18 = (hidF asE) (v11 v16 0) (v11 v16 1) v3 → 
                  (True) ∧ (∀ (v19 : Int) (v20 : Int), v19 = (hidF lcV) (v11 v16 0) (v11 v16 1) v4 → v20 = (hidF asE) (v11 v16 0) (v11 v16 1) v4 → 
                  (((¬ (v18 = 0) ∨ ¬ (v17 = v6)) ∨ ¬ (v20 = 0)) →
                    (False ↔ true = true) ∧ True) ∧
                  (¬ (((¬ (v18 = 0) ∨ ¬ (v17 = v6)) ∨ ¬ (v20 = 0))) →
                    (v16 = 0 →
                      (-9223372036854775808 ≤ (v16 + 1) ∧ (v16 + 1) ≤ 9223372036854775807) ∧ ((-9223372036854775808 ≤ (v16 + 1) ∧ (v16 + 1) ≤ 9223372036854775807) →
                      I1 (min v19 v19) (max v19 v19) (v16 + 1) ∧ μ1 (min v19 v19) (max v19 v19) (v16 + 1) < μ1 v14 v15 v16)) ∧
                    (¬ (v16 = 0) →
                      (-9223372036854775808 ≤ (v16 + 1) ∧ (v16 + 1) ≤ 9223372036854775807) ∧ ((-9223372036854775808 ≤ (v16 + 1) ∧ (v16 + 1) ≤ 9223372036854775807) →
                      I1 (min v14 v19) (max v15 v19) (v16 + 1) ∧ μ1 (min v14 v19) (max v15 v19) (v16 + 1) < μ1 v14 v15 v16))))))) ∧
                (¬ (v16 < v12) →
                  (¬ (v5 = true) ∨ (-9223372036854775808 ≤ (v15 - v14) ∧ (v15 - v14) ≤ 9223372036854775807)) ∧ ((¬ (v5 = true) ∨ (-9223372036854775808 ≤ (v15 - v14) ∧ (v15 - v14) ≤ 9223372036854775807)) →
                  (¬ (v5 = true) ∨ (-9223372036854775808 ≤ (v4 - v3) ∧ (v4 - v3) ≤ 9223372036854775807)) ∧ ((¬ (v5 = true) ∨ (-9223372036854775808 ≤ (v4 - v3) ∧ (v4 - v3) ≤ 9223372036854775807)) →
                  (¬ (v5 = true) ∨ (-9223372036854775808 ≤ (Int.tdiv (v4 - v3) 1000000) ∧ (Int.tdiv (v4 - v3) 1000000) ≤ 9223372036854775807)) ∧ ((¬ (v5 = true) ∨ (-9223372036854775808 ≤ (Int.tdiv (v4 - v3) 1000000) ∧ (Int.tdiv (v4 - v3) 1000000) ≤ 9223372036854775807)) →
                  (¬ (v5 = true) ∨ (-9223372036854775808 ≤ ((Int.tdiv (v4 - v3) 1000000) + 1) ∧ ((Int.tdiv (v4 - v3) 1000000) + 1) ≤ 9223372036854775807)) ∧ ((¬ (v5 = true) ∨ (-9223372036854775808 ≤ ((Int.tdiv (v4 - v3) 1000000) + 1) ∧ ((Int.tdiv (v4 - v3) 1000000) + 1) ≤ 9223372036854775807)) →
                  (¬ (v5 = true) ∨ (-9223372036854775808 ≤ (200 * ((Int.tdiv (v4 - v3) 1000000) + 1)) ∧ (200 * ((Int.tdiv (v4 - v3) 1000000) + 1)) ≤ 9223372036854775807)) ∧ ((¬ (v5 = true) ∨ (-9223372036854775808 ≤ (200 * ((Int.tdiv (v4 - v3) 1000000) + 1)) ∧ (200 * ((Int.tdiv (v4 - v3) 1000000) + 1)) ≤ 9223372036854775807)) →
                  (¬ (v5 = true) ∨ (-9223372036854775808 ≤ (2 + (200 * ((Int.tdiv (v4 - v3) 1000000) + 1))) ∧ (2 + (200 * ((Int.tdiv (v4 - v3) 1000000) + 1))) ≤ 9223372036854775807)) ∧ ((¬ (v5 = true) ∨ (-9223372036854775808 ≤ (2 + (200 * ((Int.tdiv (v4 - v3) 1000000) + 1))) ∧ (2 + (200 * ((Int.tdiv (v4 - v3) 1000000) + 1))) ≤ 9223372036854775807)) →
                  ((v5 = true ∧ (v15 - v14) ≤ (2 + (200 * ((Int.tdiv (v4 - v3) 1000000) + 1)))) ↔ true = true) ∧ True)))))))))))))))))))))))))
def VC8 : Prop :=
  ∀ (v0 : Int → Nat → Int) (v1 : Int) (v2 : Int) (v3 : Int) (v4 : Int),
  (True) →
  (0 ≤ v1 →
  (True) ∧ (∀ (v5 : Bool), v5 = true → 
  (v1 ≤ 9223372036854775807 →
  ((((((32 < v1 ∨ v2 < 0) ∨ v1 ≤ v2) ∨ v4 < v3) ∨ 1099511627776 < v4) ∨ ¬ (v5 = true)) →
    (v5 = true ↔ true = true) ∧ True) ∧
  (¬ ((((((32 < v1 ∨ v2 < 0) ∨ v1 ≤ v2) ∨ v4 < v3) ∨ 1099511627776 < v4) ∨ ¬ (v5 = true))) →
    0 ≤ v2 ∧ (0 ≤ v2 →
    v2 < v1 ∧ (v2 < v1 →
    (True) ∧ (∀ (v6 : Int) (v7 : Int), v6 = lcV (v0 v2 0) (v0 v2 1) v3 → v7 = asE (v0 v2 0) (v0 v2 1) v3 → 
    (¬ (v7 = 0) →
      (v5 = true ↔ true = true) ∧ True) ∧
    (¬ (¬ (v7 = 0)) →
      ∃ (I0 : (Int → Int) → (Int → Int → Nat → Int) → (Int) → (Int) → Prop) (μ0 : (Int → Int) → (Int → Int → Nat → Int) → (Int) → (Int) → Nat), I0 (srL zL (-1) 0) (srF zF (-1) zA) (0 : Int) (0 : Int) ∧ (∀ (v8l : Int → Int) (v8f : Int → Int → Nat → Int) (v9 : Int) (v10 : Int), I0 v8l v8f v9 v10 →
        (0 ≤ v9 →
        (v9 ≤ 9223372036854775807 →
        (v10 < v1 →
          0 ≤ v10 ∧ (0 ≤ v10 →
          (True) ∧ (∀ (v11 : Int) (v12 : Int), v11 = lcV (v0 v10 0) (v0 v10 1) v3 → v12 = asE (v0 v10 0) (v0 v10 1) v3 → 
          ((¬ (v12 = 0) ∨ v6 < v11) →
            (v5 = true ↔ true = true) ∧ True) ∧
          (¬ ((¬ (v12 = 0) ∨ v6 < v11)) →
            ((v9 + 1) * 24) ≤ 140737488355328 ∧ (((v9 + 1) * 24) ≤ 140737488355328 →
            (v9 + 1) ≤ 140737488355328 ∧ ((v9 + 1) ≤ 140737488355328 →
            (-9223372036854775808 ≤ (v10 + 1) ∧ (v10 + 1) ≤ 9223372036854775807) ∧ ((-9223372036854775808 ≤ (v10 + 1) ∧ (v10 + 1) ≤ 9223372036854775807) →
            I0 (srL v8l v9 1) (srF v8f v9 (setA zA 0 0 v2)) (v9 + 1) (v10 + 1) ∧ μ0 (srL v8l v9 1) (srF v8f v9 (setA zA 0 0 v2)) (v9 + 1) (v10 + 1) < μ0 v8l v8f v9 v10))))))) ∧
        (¬ (v10 < v1) →
          (True) ∧ (∀ (v11 : Int → Nat → Int) (v12 : Int) (v13 : Int), v11 = rdA v0 v1 v8l v8f v9 v3 → v12 = rdN v0 v1 v8l v8f v9 v3 → v13 = rdE v0 v1 v8l v8f v9 v3 → 
          (0 ≤ v12 →
          (v12 ≤ 9223372036854775807 →
          (¬ (v13 = 0) →
            ((v5 = true ∧ v13 = 8) ↔ true = true) ∧ True) ∧
          (¬ (¬ (v13 = 0)) →
            (¬ (v12 = v1) →
              (False ↔ true = true) ∧ True) ∧
            (¬ (¬ (v12 = v1)) →
              ∃ (I1 : (Int) → (Int) → (Int) → Prop) (μ1 : (Int) → (Int) → (Int) → Nat), I1 (0 : Int) (0 : Int) (0 : Int) ∧ (∀ (v14 : Int) (v15 : Int) (v16 : Int), I1 v14 v15 v16 →
                (v16 < v12 →
                  0 ≤ v16 ∧ (0 ≤ v16 →
                  (True) ∧ (∀ (v17 : Int) (v18 : Int), v17 = lcV (v11 v16 0) (v11 v16 1) v3 → v18 = asE (v11 v16 0) (v11 v16 1) v3 → 
                  (True) ∧ (∀ (v19 : Int) (v20 : Int), v19 = lcV (v11 v16 0) (v11 v16 1) v4 → v20 = asE (v11 v16 0) (v11 v16 1) v4 → 
                  (((¬ (v18 = 0) ∨ ¬ (v17 = v6)) ∨ ¬ (v20 = 0)) →
                    (False ↔ true = true) ∧ True) ∧
                  (¬ (((¬ (v18 = 0) ∨ ¬ (v17 = v6)) ∨ ¬ (v20 = 0))) →
                    (v16 = 0 →
                      (-9223372036854775808 ≤ (v16 + 1) ∧ (v16 + 1) ≤ 9223372036854775807) ∧ ((-9223372036854775808 ≤ (v16 + 1) ∧ (v16 + 1) ≤ 9223372036854775807) →
                      I1 (min v19 v19) (max v19 v19) (v16 + 1) ∧ μ1 (min v19 v19) (max v19 v19) (v16 + 1) < μ1 v14 v15 v16)) ∧
                    (¬ (v16 = 0) →
                      (-9223372036854775808 ≤ (v16 + 1) ∧ (v16 + 1) ≤ 9223372036854775807) ∧ ((-9223372036854775808 ≤ (v16 + 1) ∧ (v16 + 1) ≤ 9223372036854775807) →
                      I1 (min v14 v19) (max v15 v19) (v16 + 1) ∧ μ1 (min v14 v19) (max v15 v19) (v16 + 1) < μ1 v14 v15 v16))))))) ∧
                (¬ (v16 < v12) →
                  (¬ (v5 = true) ∨ (-9223372036854775808 ≤ (v15 - v14) ∧ (v15 - v14) ≤ 9223372036854775807)) ∧ ((¬ (v5 = true) ∨ (-9223372036854775808 ≤ (v15 - v14) ∧ (v15 - v14) ≤ 9223372036854775807)) →
                  (¬ (v5 = true) ∨ (-9223372036854775808 ≤ (v4 - v3) ∧ (v4 - v3) ≤ 9223372036854775807)) ∧ ((¬ (v5 = true) ∨ (-9223372036854775808 ≤ (v4 - v3) ∧ (v4 - v3) ≤ 9223372036854775807)) →
                  (¬ (v5 = true) ∨ (-9223372036854775808 ≤ (Int.tdiv (v4 - v3) 1000000) ∧ (Int.tdiv (v4 - v3) 1000000) ≤ 9223372036854775807)) ∧ ((¬ (v5 = true) ∨ (-9223372036854775808 ≤ (Int.tdiv (v4 - v3) 1000000) ∧ (Int.tdiv (v4 - v3) 1000000) ≤ 9223372036854775807)) →
                  (¬ (v5 = true) ∨ (-9223372036854775808 ≤ ((Int.tdiv (v4 - v3) 1000000) + 1) ∧ ((Int.tdiv (v4 - v3) 1000000) + 1) ≤ 9223372036854775807)) ∧ ((¬ (v5 = true) ∨ (-9223372036854775808 ≤ ((Int.tdiv (v4 - v3) 1000000) + 1) ∧ ((Int.tdiv (v4 - v3) 1000000) + 1) ≤ 9223372036854775807)) →
                  (¬ (v5 = true) ∨ (-9223372036854775808 ≤ (200 * ((Int.tdiv (v4 - v3) 1000000) + 1)) ∧ (200 * ((Int.tdiv (v4 - v3) 1000000) + 1)) ≤ 9223372036854775807)) ∧ ((¬ (v5 = true) ∨ (-9223372036854775808 ≤ (200 * ((Int.tdiv (v4 - v3) 1000000) + 1)) ∧ (200 * ((Int.tdiv (v4 - v3) 1000000) + 1)) ≤ 9223372036854775807)) →
                  (¬ (v5 = true) ∨ (-9223372036854775808 ≤ (2 + (200 * ((Int.tdiv (v4 - v3) 1000000) + 1))) ∧ (2 + (200 * ((Int.tdiv (v4 - v3) 1000000) + 1))) ≤ 9223372036854775807)) ∧ ((¬ (v5 = true) ∨ (-9223372036854775808 ≤ (2 + (200 * ((Int.tdiv (v4 - v3) 1000000) + 1))) ∧ (2 + (200 * ((Int.tdiv (v4 - v3) 1000000) + 1))) ≤ 9223372036854775807)) →
                  ((v5 = true ∧ (v15 - v14) ≤ (2 + (200 * ((Int.tdiv (v4 - v3) 1000000) + 1)))) ↔ true = true) ∧ True)))))))))))))))))))))))))
theorem vh8 (h : VC8) : VH8 := by
  unfold VH8
  rw [hidF_eq asE, hidF_eq lcV, hidF_eq rdA, hidF_eq rdE, hidF_eq rdN]
  exact h
end Go.Proofs.Ytpbpmabnmakdoaa
