/- What the functions that sort do, and what is left to show of each. -/
import Derived.Test.YtpbpmabnmakdoaaD
set_option linter.unusedVariables false
namespace Go.Proofs.Ytpbpmabnmakdoaa
open Go Go.RowKit Go.Proofs.Ytpbpmabnmakdoaa.Vc
/-! hotspot/clock.Due$2 -/
def sig40 : CSig := ⟨[⟨true, [.int .i64, .int .i64, .int .i64]⟩, ⟨true, [.int .i64, .int .i64, .int .i64]⟩], [⟨false, [.int .i64]⟩]⟩
def pre40 : List AV → Prop
  | [.i v0, .i v1, .i v2, .i v3, .i v4, .i v5] => True
  | _ => False
noncomputable def raw40 : List AV → List AV
  | [.i v0, .i v1, .i v2, .i v3, .i v4, .i v5] => [.i (cmpI v0 v3)]
  | _ => []

def VC40 : Prop :=
  ∀ (v0 : Int) (v1 : Int) (v2 : Int) (v3 : Int) (v4 : Int) (v5 : Int),
  (True) →
  (¬ (v0 = v0) →
    (¬ (v3 = v3) →
      (0 : Int) = cmpI v0 v3 ∧ True) ∧
    (¬ (¬ (v3 = v3)) →
      (-1 : Int) = cmpI v0 v3 ∧ True)) ∧
  (¬ (¬ (v0 = v0)) →
    (¬ (v3 = v3) →
      (1 : Int) = cmpI v0 v3 ∧ True) ∧
    (¬ (¬ (v3 = v3)) →
      (v0 < v3 →
        (-1 : Int) = cmpI v0 v3 ∧ True) ∧
      (¬ (v0 < v3) →
        (v3 < v0 →
          (1 : Int) = cmpI v0 v3 ∧ True) ∧
        (¬ (v3 < v0) →
          (0 : Int) = cmpI v0 v3 ∧ True))))
/-! slices.swapRangeCmpFunc[hotspot/api.Timer] -/
def sig53 : CSig := ⟨[⟨false, [.slc [.int .i64, .int .i64, .int .i64]]⟩, ⟨false, [.int .i64]⟩, ⟨false, [.int .i64]⟩, ⟨false, [.int .i64]⟩], [⟨false, [.slc [.int .i64, .int .i64, .int .i64]]⟩]⟩
def pre53 : List AV → Prop
  | [.a v0, .i v1, .i v2, .i v3, .i v4] => 0 ≤ v2 ∧ 0 ≤ v4 ∧ v2 + v4 ≤ v3 ∧ v3 + v4 ≤ v1 ∧ v1 ≤ 256
  | _ => False
noncomputable def raw53 : List AV → List AV
  | [.a v0, .i v1, .i v2, .i v3, .i v4] => [.a (swpA v0 v2 v3 v4), .i (v1)]
  | _ => []

def VC53 : Prop :=
  ∀ (v0 : Int → Nat → Int) (v1 : Int) (v2 : Int) (v3 : Int) (v4 : Int),
  (0 ≤ v2 ∧ 0 ≤ v4 ∧ v2 + v4 ≤ v3 ∧ v3 + v4 ≤ v1 ∧ v1 ≤ 256) →
  (0 ≤ v1 →
  ∃ (I0 : (Int → Nat → Int) → (Int) → Prop) (μ0 : (Int → Nat → Int) → (Int) → Nat), I0 v0 (0 : Int) ∧ (∀ (v5 : Int → Nat → Int) (v6 : Int), I0 v5 v6 →
    (v1 ≤ 9223372036854775807 →
    (v6 < v4 →
      (-9223372036854775808 ≤ (v2 + v6) ∧ (v2 + v6) ≤ 9223372036854775807) ∧ ((-9223372036854775808 ≤ (v2 + v6) ∧ (v2 + v6) ≤ 9223372036854775807) →
      (-9223372036854775808 ≤ (v3 + v6) ∧ (v3 + v6) ≤ 9223372036854775807) ∧ ((-9223372036854775808 ≤ (v3 + v6) ∧ (v3 + v6) ≤ 9223372036854775807) →
      0 ≤ (v3 + v6) ∧ (0 ≤ (v3 + v6) →
      (v3 + v6) < v1 ∧ ((v3 + v6) < v1 →
      0 ≤ (v2 + v6) ∧ (0 ≤ (v2 + v6) →
      (v2 + v6) < v1 ∧ ((v2 + v6) < v1 →
      (-9223372036854775808 ≤ (v6 + 1) ∧ (v6 + 1) ≤ 9223372036854775807) ∧ ((-9223372036854775808 ≤ (v6 + 1) ∧ (v6 + 1) ≤ 9223372036854775807) →
      I0 (setA (setA (setA (setA (setA (setA v5 (v2 + v6) 0 (v5 (v3 + v6) 0)) (v2 + v6) 1 (v5 (v3 + v6) 1)) (v2 + v6) 2 (v5 (v3 + v6) 2)) (v3 + v6) 0 (v5 (v2 + v6) 0)) (v3 + v6) 1 (v5 (v2 + v6) 1)) (v3 + v6) 2 (v5 (v2 + v6) 2)) (v6 + 1) ∧ μ0 (setA (setA (setA (setA (setA (setA v5 (v2 + v6) 0 (v5 (v3 + v6) 0)) (v2 + v6) 1 (v5 (v3 + v6) 1)) (v2 + v6) 2 (v5 (v3 + v6) 2)) (v3 + v6) 0 (v5 (v2 + v6) 0)) (v3 + v6) 1 (v5 (v2 + v6) 1)) (v3 + v6) 2 (v5 (v2 + v6) 2)) (v6 + 1) < μ0 v5 v6)))))))) ∧
    (¬ (v6 < v4) →
      v1 = v1 ∧ (v1 = v1 →
      v1 = v1 ∧ (∀ (i : Int) (f : Nat), 0 ≤ i → i < v1 → f < 3 → v5 i f = swpA v0 v2 v3 v4 i f) ∧ True)))))
/-! slices.rotateCmpFunc[hotspot/api.Timer] -/
def sig52 : CSig := ⟨[⟨false, [.slc [.int .i64, .int .i64, .int .i64]]⟩, ⟨false, [.int .i64]⟩, ⟨false, [.int .i64]⟩, ⟨false, [.int .i64]⟩], [⟨false, [.slc [.int .i64, .int .i64, .int .i64]]⟩]⟩
def pre52 : List AV → Prop
  | [.a v0, .i v1, .i v2, .i v3, .i v4] => 0 ≤ v2 ∧ v2 < v3 ∧ v3 < v4 ∧ v4 ≤ v1 ∧ v1 ≤ 256
  | _ => False
noncomputable def raw52 : List AV → List AV
  | [.a v0, .i v1, .i v2, .i v3, .i v4] => [.a (rotA v0 v2 v3 v4), .i (v1)]
  | _ => []

def VC52 : Prop :=
  ∀ (v0 : Int → Nat → Int) (v1 : Int) (v2 : Int) (v3 : Int) (v4 : Int),
  (0 ≤ v2 ∧ v2 < v3 ∧ v3 < v4 ∧ v4 ≤ v1 ∧ v1 ≤ 256) →
  (0 ≤ v1 →
  (-9223372036854775808 ≤ (v3 - v2) ∧ (v3 - v2) ≤ 9223372036854775807) ∧ ((-9223372036854775808 ≤ (v3 - v2) ∧ (v3 - v2) ≤ 9223372036854775807) →
  (-9223372036854775808 ≤ (v4 - v3) ∧ (v4 - v3) ≤ 9223372036854775807) ∧ ((-9223372036854775808 ≤ (v4 - v3) ∧ (v4 - v3) ≤ 9223372036854775807) →
  ∃ (I0 : (Int → Nat → Int) → (Int) → (Int) → Prop) (μ0 : (Int → Nat → Int) → (Int) → (Int) → Nat), I0 v0 (v3 - v2) (v4 - v3) ∧ (∀ (v5 : Int → Nat → Int) (v6 : Int) (v7 : Int), I0 v5 v6 v7 →
    (v1 ≤ 9223372036854775807 →
    (¬ (v6 = v7) →
      (v7 < v6 →
        (-9223372036854775808 ≤ (v3 - v6) ∧ (v3 - v6) ≤ 9223372036854775807) ∧ ((-9223372036854775808 ≤ (v3 - v6) ∧ (v3 - v6) ≤ 9223372036854775807) →
        0 ≤ v1 ∧ (0 ≤ v1 →
        v1 ≤ v1 ∧ (v1 ≤ v1 →
        (0 ≤ (v3 - v6) ∧ 0 ≤ v7 ∧ (v3 - v6) + v7 ≤ v3 ∧ v3 + v7 ≤ v1 ∧ v1 ≤ 256) ∧ (∀ (v8 : Int → Nat → Int) (v9 : Int), v8 = swpA v5 (v3 - v6) v3 v7 → v9 = v1 → 
        (-9223372036854775808 ≤ (v6 - v7) ∧ (v6 - v7) ≤ 9223372036854775807) ∧ ((-9223372036854775808 ≤ (v6 - v7) ∧ (v6 - v7) ≤ 9223372036854775807) →
        I0 v8 (v6 - v7) v7 ∧ μ0 v8 (v6 - v7) v7 < μ0 v5 v6 v7)))))) ∧
      (¬ (v7 < v6) →
        (-9223372036854775808 ≤ (v3 - v6) ∧ (v3 - v6) ≤ 9223372036854775807) ∧ ((-9223372036854775808 ≤ (v3 - v6) ∧ (v3 - v6) ≤ 9223372036854775807) →
        (-9223372036854775808 ≤ (v3 + v7) ∧ (v3 + v7) ≤ 9223372036854775807) ∧ ((-9223372036854775808 ≤ (v3 + v7) ∧ (v3 + v7) ≤ 9223372036854775807) →
        (-9223372036854775808 ≤ ((v3 + v7) - v6) ∧ ((v3 + v7) - v6) ≤ 9223372036854775807) ∧ ((-9223372036854775808 ≤ ((v3 + v7) - v6) ∧ ((v3 + v7) - v6) ≤ 9223372036854775807) →
        0 ≤ v1 ∧ (0 ≤ v1 →
        v1 ≤ v1 ∧ (v1 ≤ v1 →
        (0 ≤ (v3 - v6) ∧ 0 ≤ v6 ∧ (v3 - v6) + v6 ≤ ((v3 + v7) - v6) ∧ ((v3 + v7) - v6) + v6 ≤ v1 ∧ v1 ≤ 256) ∧ (∀ (v8 : Int → Nat → Int) (v9 : Int), v8 = swpA v5 (v3 - v6) ((v3 + v7) - v6) v6 → v9 = v1 → 
        (-9223372036854775808 ≤ (v7 - v6) ∧ (v7 - v6) ≤ 9223372036854775807) ∧ ((-9223372036854775808 ≤ (v7 - v6) ∧ (v7 - v6) ≤ 9223372036854775807) →
        I0 v8 v6 (v7 - v6) ∧ μ0 v8 v6 (v7 - v6) < μ0 v5 v6 v7))))))))) ∧
    (¬ (¬ (v6 = v7)) →
      (-9223372036854775808 ≤ (v3 - v6) ∧ (v3 - v6) ≤ 9223372036854775807) ∧ ((-9223372036854775808 ≤ (v3 - v6) ∧ (v3 - v6) ≤ 9223372036854775807) →
      0 ≤ v1 ∧ (0 ≤ v1 →
      v1 ≤ v1 ∧ (v1 ≤ v1 →
      (0 ≤ (v3 - v6) ∧ 0 ≤ v6 ∧ (v3 - v6) + v6 ≤ v3 ∧ v3 + v6 ≤ v1 ∧ v1 ≤ 256) ∧ (∀ (v8 : Int → Nat → Int) (v9 : Int), v8 = swpA v5 (v3 - v6) v3 v6 → v9 = v1 → 
      v1 = v1 ∧ (v1 = v1 →
      v1 = v1 ∧ (∀ (i : Int) (f : Nat), 0 ≤ i → i < v1 → f < 3 → v8 i f = rotA v0 v2 v3 v4 i f) ∧ True)))))))))))
/-! slices.insertionSortCmpFunc[hotspot/api.Timer] -/
def sig50 : CSig := ⟨[⟨false, [.slc [.int .i64, .int .i64, .int .i64]]⟩, ⟨false, [.int .i64]⟩, ⟨false, [.int .i64]⟩], [⟨false, [.slc [.int .i64, .int .i64, .int .i64]]⟩]⟩
def pre50 : List AV → Prop
  | [.a v0, .i v1, .i v2, .i v3] => Ins v0 v1 v2 v3
  | _ => False
noncomputable def raw50 : List AV → List AV
  | [.a v0, .i v1, .i v2, .i v3] => [.a (srtA v0 v2 v3), .i (v1)]
  | _ => []

def VC50 : Prop :=
  ∀ (v0 : Int → Nat → Int) (v1 : Int) (v2 : Int) (v3 : Int),
  (Ins v0 v1 v2 v3) →
  (0 ≤ v1 →
  (-9223372036854775808 ≤ (v2 + 1) ∧ (v2 + 1) ≤ 9223372036854775807) ∧ ((-9223372036854775808 ≤ (v2 + 1) ∧ (v2 + 1) ≤ 9223372036854775807) →
  ∃ (I0 : (Int → Nat → Int) → (Int) → Prop) (μ0 : (Int → Nat → Int) → (Int) → Nat), I0 v0 (v2 + 1) ∧ (∀ (v4 : Int → Nat → Int) (v5 : Int), I0 v4 v5 →
    (v1 ≤ 9223372036854775807 →
    (v5 < v3 →
      ∃ (I1 : (Int → Nat → Int) → (Int) → Prop) (μ1 : (Int → Nat → Int) → (Int) → Nat), I1 v4 v5 ∧ (∀ (v6 : Int → Nat → Int) (v7 : Int), I1 v6 v7 →
        (¬ (v2 < v7) ∨ 0 ≤ v7) ∧ ((¬ (v2 < v7) ∨ 0 ≤ v7) →
        (¬ (v2 < v7) ∨ v7 < v1) ∧ ((¬ (v2 < v7) ∨ v7 < v1) →
        (¬ (v2 < v7) ∨ 0 ≤ v7) ∧ ((¬ (v2 < v7) ∨ 0 ≤ v7) →
        (¬ (v2 < v7) ∨ v7 < v1) ∧ ((¬ (v2 < v7) ∨ v7 < v1) →
        (¬ (v2 < v7) ∨ (-9223372036854775808 ≤ (v7 - 1) ∧ (v7 - 1) ≤ 9223372036854775807)) ∧ ((¬ (v2 < v7) ∨ (-9223372036854775808 ≤ (v7 - 1) ∧ (v7 - 1) ≤ 9223372036854775807)) →
        (¬ (v2 < v7) ∨ 0 ≤ (v7 - 1)) ∧ ((¬ (v2 < v7) ∨ 0 ≤ (v7 - 1)) →
        (¬ (v2 < v7) ∨ (v7 - 1) < v1) ∧ ((¬ (v2 < v7) ∨ (v7 - 1) < v1) →
        (¬ (v2 < v7) ∨ 0 ≤ (v7 - 1)) ∧ ((¬ (v2 < v7) ∨ 0 ≤ (v7 - 1)) →
        (¬ (v2 < v7) ∨ (v7 - 1) < v1) ∧ ((¬ (v2 < v7) ∨ (v7 - 1) < v1) →
        ((v2 < v7 → True)) ∧ (∀ (v8 : Int), v8 = cmpI (v6 v7 0) (v6 (v7 - 1) 0) → 
        ((v2 < v7 ∧ v8 < 0) →
          (-9223372036854775808 ≤ (v7 - 1) ∧ (v7 - 1) ≤ 9223372036854775807) ∧ ((-9223372036854775808 ≤ (v7 - 1) ∧ (v7 - 1) ≤ 9223372036854775807) →
          0 ≤ (v7 - 1) ∧ (0 ≤ (v7 - 1) →
          (v7 - 1) < v1 ∧ ((v7 - 1) < v1 →
          0 ≤ v7 ∧ (0 ≤ v7 →
          v7 < v1 ∧ (v7 < v1 →
          I1 (setA (setA (setA (setA (setA (setA v6 v7 0 (v6 (v7 - 1) 0)) v7 1 (v6 (v7 - 1) 1)) v7 2 (v6 (v7 - 1) 2)) (v7 - 1) 0 (v6 v7 0)) (v7 - 1) 1 (v6 v7 1)) (v7 - 1) 2 (v6 v7 2)) (v7 - 1) ∧ μ1 (setA (setA (setA (setA (setA (setA v6 v7 0 (v6 (v7 - 1) 0)) v7 1 (v6 (v7 - 1) 1)) v7 2 (v6 (v7 - 1) 2)) (v7 - 1) 0 (v6 v7 0)) (v7 - 1) 1 (v6 v7 1)) (v7 - 1) 2 (v6 v7 2)) (v7 - 1) < μ1 v6 v7)))))) ∧
        (¬ ((v2 < v7 ∧ v8 < 0)) →
          (-9223372036854775808 ≤ (v5 + 1) ∧ (v5 + 1) ≤ 9223372036854775807) ∧ ((-9223372036854775808 ≤ (v5 + 1) ∧ (v5 + 1) ≤ 9223372036854775807) →
          I0 v6 (v5 + 1) ∧ μ0 v6 (v5 + 1) < μ0 v4 v5)))))))))))))) ∧
    (¬ (v5 < v3) →
      v1 = v1 ∧ (v1 = v1 →
      v1 = v1 ∧ (∀ (i : Int) (f : Nat), 0 ≤ i → i < v1 → f < 3 → v4 i f = srtA v0 v2 v3 i f) ∧ True))))))
/-! slices.symMergeCmpFunc[hotspot/api.Timer] -/
def sig51 : CSig := ⟨[⟨false, [.slc [.int .i64, .int .i64, .int .i64]]⟩, ⟨false, [.int .i64]⟩, ⟨false, [.int .i64]⟩, ⟨false, [.int .i64]⟩], [⟨false, [.slc [.int .i64, .int .i64, .int .i64]]⟩]⟩
def pre51 (M : Int) : List AV → Prop
  | [.a v0, .i v1, .i v2, .i v3, .i v4] => Mrg v0 v1 v2 v3 v4 ∧ v4 - v2 < M
  | _ => False
noncomputable def raw51 : List AV → List AV
  | [.a v0, .i v1, .i v2, .i v3, .i v4] => [.a (srtA v0 v2 v4), .i (v1)]
  | _ => []

def VC51 (M : Int) : Prop :=
  ∀ (v0 : Int → Nat → Int) (v1 : Int) (v2 : Int) (v3 : Int) (v4 : Int),
  (Mrg v0 v1 v2 v3 v4 ∧ v4 - v2 < M + 1) →
  (0 ≤ v1 →
  (-9223372036854775808 ≤ (v3 - v2) ∧ (v3 - v2) ≤ 9223372036854775807) ∧ ((-9223372036854775808 ≤ (v3 - v2) ∧ (v3 - v2) ≤ 9223372036854775807) →
  (v1 ≤ 9223372036854775807 →
  ((v3 - v2) = 1 →
    ∃ (I0 : (Int) → (Int) → Prop) (μ0 : (Int) → (Int) → Nat), I0 v3 v4 ∧ (∀ (v5 : Int) (v6 : Int), I0 v5 v6 →
      (v5 < v6 →
        (-9223372036854775808 ≤ (v5 + v6) ∧ (v5 + v6) ≤ 9223372036854775807) ∧ ((-9223372036854775808 ≤ (v5 + v6) ∧ (v5 + v6) ≤ 9223372036854775807) →
        (0 ≤ (v5 + v6) ∧ (v5 + v6) ≤ 18446744073709551615) ∧ ((0 ≤ (v5 + v6) ∧ (v5 + v6) ≤ 18446744073709551615) →
        (-9223372036854775808 ≤ (Int.fdiv (v5 + v6) (2 ^ (Int.toNat 1))) ∧ (Int.fdiv (v5 + v6) (2 ^ (Int.toNat 1))) ≤ 9223372036854775807) ∧ ((-9223372036854775808 ≤ (Int.fdiv (v5 + v6) (2 ^ (Int.toNat 1))) ∧ (Int.fdiv (v5 + v6) (2 ^ (Int.toNat 1))) ≤ 9223372036854775807) →
        0 ≤ (Int.fdiv (v5 + v6) (2 ^ (Int.toNat 1))) ∧ (0 ≤ (Int.fdiv (v5 + v6) (2 ^ (Int.toNat 1))) →
        (Int.fdiv (v5 + v6) (2 ^ (Int.toNat 1))) < v1 ∧ ((Int.fdiv (v5 + v6) (2 ^ (Int.toNat 1))) < v1 →
        0 ≤ v2 ∧ (0 ≤ v2 →
        v2 < v1 ∧ (v2 < v1 →
        (True) ∧ (∀ (v7 : Int), v7 = cmpI (v0 (Int.fdiv (v5 + v6) (2 ^ (Int.toNat 1))) 0) (v0 v2 0) → 
        (v7 < 0 →
          (-9223372036854775808 ≤ ((Int.fdiv (v5 + v6) (2 ^ (Int.toNat 1))) + 1) ∧ ((Int.fdiv (v5 + v6) (2 ^ (Int.toNat 1))) + 1) ≤ 9223372036854775807) ∧ ((-9223372036854775808 ≤ ((Int.fdiv (v5 + v6) (2 ^ (Int.toNat 1))) + 1) ∧ ((Int.fdiv (v5 + v6) (2 ^ (Int.toNat 1))) + 1) ≤ 9223372036854775807) →
          I0 ((Int.fdiv (v5 + v6) (2 ^ (Int.toNat 1))) + 1) v6 ∧ μ0 ((Int.fdiv (v5 + v6) (2 ^ (Int.toNat 1))) + 1) v6 < μ0 v5 v6)) ∧
        (¬ (v7 < 0) →
          I0 v5 (Int.fdiv (v5 + v6) (2 ^ (Int.toNat 1))) ∧ μ0 v5 (Int.fdiv (v5 + v6) (2 ^ (Int.toNat 1))) < μ0 v5 v6)))))))))) ∧
      (¬ (v5 < v6) →
        ∃ (I1 : (Int → Nat → Int) → (Int) → Prop) (μ1 : (Int → Nat → Int) → (Int) → Nat), I1 v0 v2 ∧ (∀ (v7 : Int → Nat → Int) (v8 : Int), I1 v7 v8 →
          (-9223372036854775808 ≤ (v5 - 1) ∧ (v5 - 1) ≤ 9223372036854775807) ∧ ((-9223372036854775808 ≤ (v5 - 1) ∧ (v5 - 1) ≤ 9223372036854775807) →
          (v8 < (v5 - 1) →
            (-9223372036854775808 ≤ (v8 + 1) ∧ (v8 + 1) ≤ 9223372036854775807) ∧ ((-9223372036854775808 ≤ (v8 + 1) ∧ (v8 + 1) ≤ 9223372036854775807) →
            0 ≤ (v8 + 1) ∧ (0 ≤ (v8 + 1) →
            (v8 + 1) < v1 ∧ ((v8 + 1) < v1 →
            0 ≤ v8 ∧ (0 ≤ v8 →
            v8 < v1 ∧ (v8 < v1 →
            I1 (setA (setA (setA (setA (setA (setA v7 v8 0 (v7 (v8 + 1) 0)) v8 1 (v7 (v8 + 1) 1)) v8 2 (v7 (v8 + 1) 2)) (v8 + 1) 0 (v7 v8 0)) (v8 + 1) 1 (v7 v8 1)) (v8 + 1) 2 (v7 v8 2)) (v8 + 1) ∧ μ1 (setA (setA (setA (setA (setA (setA v7 v8 0 (v7 (v8 + 1) 0)) v8 1 (v7 (v8 + 1) 1)) v8 2 (v7 (v8 + 1) 2)) (v8 + 1) 0 (v7 v8 0)) (v8 + 1) 1 (v7 v8 1)) (v8 + 1) 2 (v7 v8 2)) (v8 + 1) < μ1 v7 v8)))))) ∧
          (¬ (v8 < (v5 - 1)) →
            v1 = v1 ∧ (v1 = v1 →
            v1 = v1 ∧ (∀ (i : Int) (f : Nat), 0 ≤ i → i < v1 → f < 3 → v7 i f = srtA v0 v2 v4 i f) ∧ True))))))) ∧
  (¬ ((v3 - v2) = 1) →
    (-9223372036854775808 ≤ (v4 - v3) ∧ (v4 - v3) ≤ 9223372036854775807) ∧ ((-9223372036854775808 ≤ (v4 - v3) ∧ (v4 - v3) ≤ 9223372036854775807) →
    ((v4 - v3) = 1 →
      ∃ (I0 : (Int) → (Int) → Prop) (μ0 : (Int) → (Int) → Nat), I0 v2 v3 ∧ (∀ (v5 : Int) (v6 : Int), I0 v5 v6 →
        (v5 < v6 →
          (-9223372036854775808 ≤ (v5 + v6) ∧ (v5 + v6) ≤ 9223372036854775807) ∧ ((-9223372036854775808 ≤ (v5 + v6) ∧ (v5 + v6) ≤ 9223372036854775807) →
          (0 ≤ (v5 + v6) ∧ (v5 + v6) ≤ 18446744073709551615) ∧ ((0 ≤ (v5 + v6) ∧ (v5 + v6) ≤ 18446744073709551615) →
          (-9223372036854775808 ≤ (Int.fdiv (v5 + v6) (2 ^ (Int.toNat 1))) ∧ (Int.fdiv (v5 + v6) (2 ^ (Int.toNat 1))) ≤ 9223372036854775807) ∧ ((-9223372036854775808 ≤ (Int.fdiv (v5 + v6) (2 ^ (Int.toNat 1))) ∧ (Int.fdiv (v5 + v6) (2 ^ (Int.toNat 1))) ≤ 9223372036854775807) →
          0 ≤ v3 ∧ (0 ≤ v3 →
          v3 < v1 ∧ (v3 < v1 →
          0 ≤ (Int.fdiv (v5 + v6) (2 ^ (Int.toNat 1))) ∧ (0 ≤ (Int.fdiv (v5 + v6) (2 ^ (Int.toNat 1))) →
          (Int.fdiv (v5 + v6) (2 ^ (Int.toNat 1))) < v1 ∧ ((Int.fdiv (v5 + v6) (2 ^ (Int.toNat 1))) < v1 →
          (True) ∧ (∀ (v7 : Int), v7 = cmpI (v0 v3 0) (v0 (Int.fdiv (v5 + v6) (2 ^ (Int.toNat 1))) 0) → 
          (¬ (v7 < 0) →
            (-9223372036854775808 ≤ ((Int.fdiv (v5 + v6) (2 ^ (Int.toNat 1))) + 1) ∧ ((Int.fdiv (v5 + v6) (2 ^ (Int.toNat 1))) + 1) ≤ 9223372036854775807) ∧ ((-9223372036854775808 ≤ ((Int.fdiv (v5 + v6) (2 ^ (Int.toNat 1))) + 1) ∧ ((Int.fdiv (v5 + v6) (2 ^ (Int.toNat 1))) + 1) ≤ 9223372036854775807) →
            I0 ((Int.fdiv (v5 + v6) (2 ^ (Int.toNat 1))) + 1) v6 ∧ μ0 ((Int.fdiv (v5 + v6) (2 ^ (Int.toNat 1))) + 1) v6 < μ0 v5 v6)) ∧
          (¬ (¬ (v7 < 0)) →
            I0 v5 (Int.fdiv (v5 + v6) (2 ^ (Int.toNat 1))) ∧ μ0 v5 (Int.fdiv (v5 + v6) (2 ^ (Int.toNat 1))) < μ0 v5 v6)))))))))) ∧
        (¬ (v5 < v6) →
          ∃ (I1 : (Int → Nat → Int) → (Int) → Prop) (μ1 : (Int → Nat → Int) → (Int) → Nat), I1 v0 v3 ∧ (∀ (v7 : Int → Nat → Int) (v8 : Int), I1 v7 v8 →
            (v5 < v8 →
              (-9223372036854775808 ≤ (v8 - 1) ∧ (v8 - 1) ≤ 9223372036854775807) ∧ ((-9223372036854775808 ≤ (v8 - 1) ∧ (v8 - 1) ≤ 9223372036854775807) →
              0 ≤ (v8 - 1) ∧ (0 ≤ (v8 - 1) →
              (v8 - 1) < v1 ∧ ((v8 - 1) < v1 →
              0 ≤ v8 ∧ (0 ≤ v8 →
              v8 < v1 ∧ (v8 < v1 →
              I1 (setA (setA (setA (setA (setA (setA v7 v8 0 (v7 (v8 - 1) 0)) v8 1 (v7 (v8 - 1) 1)) v8 2 (v7 (v8 - 1) 2)) (v8 - 1) 0 (v7 v8 0)) (v8 - 1) 1 (v7 v8 1)) (v8 - 1) 2 (v7 v8 2)) (v8 - 1) ∧ μ1 (setA (setA (setA (setA (setA (setA v7 v8 0 (v7 (v8 - 1) 0)) v8 1 (v7 (v8 - 1) 1)) v8 2 (v7 (v8 - 1) 2)) (v8 - 1) 0 (v7 v8 0)) (v8 - 1) 1 (v7 v8 1)) (v8 - 1) 2 (v7 v8 2)) (v8 - 1) < μ1 v7 v8)))))) ∧
            (¬ (v5 < v8) →
              v1 = v1 ∧ (v1 = v1 →
              v1 = v1 ∧ (∀ (i : Int) (f : Nat), 0 ≤ i → i < v1 → f < 3 → v7 i f = srtA v0 v2 v4 i f) ∧ True)))))) ∧
    (¬ ((v4 - v3) = 1) →
      (-9223372036854775808 ≤ (v2 + v4) ∧ (v2 + v4) ≤ 9223372036854775807) ∧ ((-9223372036854775808 ≤ (v2 + v4) ∧ (v2 + v4) ≤ 9223372036854775807) →
      (0 ≤ (v2 + v4) ∧ (v2 + v4) ≤ 18446744073709551615) ∧ ((0 ≤ (v2 + v4) ∧ (v2 + v4) ≤ 18446744073709551615) →
      (-9223372036854775808 ≤ (Int.fdiv (v2 + v4) (2 ^ (Int.toNat 1))) ∧ (Int.fdiv (v2 + v4) (2 ^ (Int.toNat 1))) ≤ 9223372036854775807) ∧ ((-9223372036854775808 ≤ (Int.fdiv (v2 + v4) (2 ^ (Int.toNat 1))) ∧ (Int.fdiv (v2 + v4) (2 ^ (Int.toNat 1))) ≤ 9223372036854775807) →
      (-9223372036854775808 ≤ ((Int.fdiv (v2 + v4) (2 ^ (Int.toNat 1))) + v3) ∧ ((Int.fdiv (v2 + v4) (2 ^ (Int.toNat 1))) + v3) ≤ 9223372036854775807) ∧ ((-9223372036854775808 ≤ ((Int.fdiv (v2 + v4) (2 ^ (Int.toNat 1))) + v3) ∧ ((Int.fdiv (v2 + v4) (2 ^ (Int.toNat 1))) + v3) ≤ 9223372036854775807) →
      ((Int.fdiv (v2 + v4) (2 ^ (Int.toNat 1))) < v3 →
        (-9223372036854775808 ≤ (((Int.fdiv (v2 + v4) (2 ^ (Int.toNat 1))) + v3) - v4) ∧ (((Int.fdiv (v2 + v4) (2 ^ (Int.toNat 1))) + v3) - v4) ≤ 9223372036854775807) ∧ ((-9223372036854775808 ≤ (((Int.fdiv (v2 + v4) (2 ^ (Int.toNat 1))) + v3) - v4) ∧ (((Int.fdiv (v2 + v4) (2 ^ (Int.toNat 1))) + v3) - v4) ≤ 9223372036854775807) →
        (-9223372036854775808 ≤ (((Int.fdiv (v2 + v4) (2 ^ (Int.toNat 1))) + v3) - 1) ∧ (((Int.fdiv (v2 + v4) (2 ^ (Int.toNat 1))) + v3) - 1) ≤ 9223372036854775807) ∧ ((-9223372036854775808 ≤ (((Int.fdiv (v2 + v4) (2 ^ (Int.toNat 1))) + v3) - 1) ∧ (((Int.fdiv (v2 + v4) (2 ^ (Int.toNat 1))) + v3) - 1) ≤ 9223372036854775807) →
        ∃ (I0 : (Int) → (Int) → Prop) (μ0 : (Int) → (Int) → Nat), I0 (((Int.fdiv (v2 + v4) (2 ^ (Int.toNat 1))) + v3) - v4) (Int.fdiv (v2 + v4) (2 ^ (Int.toNat 1))) ∧ (∀ (v5 : Int) (v6 : Int), I0 v5 v6 →
          (v5 < v6 →
            (-9223372036854775808 ≤ (v5 + v6) ∧ (v5 + v6) ≤ 9223372036854775807) ∧ ((-9223372036854775808 ≤ (v5 + v6) ∧ (v5 + v6) ≤ 9223372036854775807) →
            (0 ≤ (v5 + v6) ∧ (v5 + v6) ≤ 18446744073709551615) ∧ ((0 ≤ (v5 + v6) ∧ (v5 + v6) ≤ 18446744073709551615) →
            (-9223372036854775808 ≤ (Int.fdiv (v5 + v6) (2 ^ (Int.toNat 1))) ∧ (Int.fdiv (v5 + v6) (2 ^ (Int.toNat 1))) ≤ 9223372036854775807) ∧ ((-9223372036854775808 ≤ (Int.fdiv (v5 + v6) (2 ^ (Int.toNat 1))) ∧ (Int.fdiv (v5 + v6) (2 ^ (Int.toNat 1))) ≤ 9223372036854775807) →
            (-9223372036854775808 ≤ ((((Int.fdiv (v2 + v4) (2 ^ (Int.toNat 1))) + v3) - 1) - (Int.fdiv (v5 + v6) (2 ^ (Int.toNat 1)))) ∧ ((((Int.fdiv (v2 + v4) (2 ^ (Int.toNat 1))) + v3) - 1) - (Int.fdiv (v5 + v6) (2 ^ (Int.toNat 1)))) ≤ 9223372036854775807) ∧ ((-9223372036854775808 ≤ ((((Int.fdiv (v2 + v4) (2 ^ (Int.toNat 1))) + v3) - 1) - (Int.fdiv (v5 + v6) (2 ^ (Int.toNat 1)))) ∧ ((((Int.fdiv (v2 + v4) (2 ^ (Int.toNat 1))) + v3) - 1) - (Int.fdiv (v5 + v6) (2 ^ (Int.toNat 1)))) ≤ 9223372036854775807) →
            0 ≤ ((((Int.fdiv (v2 + v4) (2 ^ (Int.toNat 1))) + v3) - 1) - (Int.fdiv (v5 + v6) (2 ^ (Int.toNat 1)))) ∧ (0 ≤ ((((Int.fdiv (v2 + v4) (2 ^ (Int.toNat 1))) + v3) - 1) - (Int.fdiv (v5 + v6) (2 ^ (Int.toNat 1)))) →
            ((((Int.fdiv (v2 + v4) (2 ^ (Int.toNat 1))) + v3) - 1) - (Int.fdiv (v5 + v6) (2 ^ (Int.toNat 1)))) < v1 ∧ (((((Int.fdiv (v2 + v4) (2 ^ (Int.toNat 1))) + v3) - 1) - (Int.fdiv (v5 + v6) (2 ^ (Int.toNat 1)))) < v1 →
            0 ≤ (Int.fdiv (v5 + v6) (2 ^ (Int.toNat 1))) ∧ (0 ≤ (Int.fdiv (v5 + v6) (2 ^ (Int.toNat 1))) →
            (Int.fdiv (v5 + v6) (2 ^ (Int.toNat 1))) < v1 ∧ ((Int.fdiv (v5 + v6) (2 ^ (Int.toNat 1))) < v1 →
            (True) ∧ (∀ (v7 : Int), v7 = cmpI (v0 ((((Int.fdiv (v2 + v4) (2 ^ (Int.toNat 1))) + v3) - 1) - (Int.fdiv (v5 + v6) (2 ^ (Int.toNat 1)))) 0) (v0 (Int.fdiv (v5 + v6) (2 ^ (Int.toNat 1))) 0) → 
            (¬ (v7 < 0) →
              (-9223372036854775808 ≤ ((Int.fdiv (v5 + v6) (2 ^ (Int.toNat 1))) + 1) ∧ ((Int.fdiv (v5 + v6) (2 ^ (Int.toNat 1))) + 1) ≤ 9223372036854775807) ∧ ((-9223372036854775808 ≤ ((Int.fdiv (v5 + v6) (2 ^ (Int.toNat 1))) + 1) ∧ ((Int.fdiv (v5 + v6) (2 ^ (Int.toNat 1))) + 1) ≤ 9223372036854775807) →
              I0 ((Int.fdiv (v5 + v6) (2 ^ (Int.toNat 1))) + 1) v6 ∧ μ0 ((Int.fdiv (v5 + v6) (2 ^ (Int.toNat 1))) + 1) v6 < μ0 v5 v6)) ∧
            (¬ (¬ (v7 < 0)) →
              I0 v5 (Int.fdiv (v5 + v6) (2 ^ (Int.toNat 1))) ∧ μ0 v5 (Int.fdiv (v5 + v6) (2 ^ (Int.toNat 1))) < μ0 v5 v6))))))))))) ∧
          (¬ (v5 < v6) →
            (-9223372036854775808 ≤ (((Int.fdiv (v2 + v4) (2 ^ (Int.toNat 1))) + v3) - v5) ∧ (((Int.fdiv (v2 + v4) (2 ^ (Int.toNat 1))) + v3) - v5) ≤ 9223372036854775807) ∧ ((-9223372036854775808 ≤ (((Int.fdiv (v2 + v4) (2 ^ (Int.toNat 1))) + v3) - v5) ∧ (((Int.fdiv (v2 + v4) (2 ^ (Int.toNat 1))) + v3) - v5) ≤ 9223372036854775807) →
            ((v5 < v3 ∧ v3 < (((Int.fdiv (v2 + v4) (2 ^ (Int.toNat 1))) + v3) - v5)) →
              0 ≤ v1 ∧ (0 ≤ v1 →
              v1 ≤ v1 ∧ (v1 ≤ v1 →
              (0 ≤ v5 ∧ v5 < v3 ∧ v3 < (((Int.fdiv (v2 + v4) (2 ^ (Int.toNat 1))) + v3) - v5) ∧ (((Int.fdiv (v2 + v4) (2 ^ (Int.toNat 1))) + v3) - v5) ≤ v1 ∧ v1 ≤ 256) ∧ (∀ (v7 : Int → Nat → Int) (v8 : Int), v7 = rotA v0 v5 v3 (((Int.fdiv (v2 + v4) (2 ^ (Int.toNat 1))) + v3) - v5) → v8 = v1 → 
              ((v2 < v5 ∧ v5 < (Int.fdiv (v2 + v4) (2 ^ (Int.toNat 1)))) →
                0 ≤ v1 ∧ (0 ≤ v1 →
                v1 ≤ v1 ∧ (v1 ≤ v1 →
                (Mrg v7 v1 v2 v5 (Int.fdiv (v2 + v4) (2 ^ (Int.toNat 1))) ∧ (Int.fdiv (v2 + v4) (2 ^ (Int.toNat 1))) - v2 < M) ∧ (∀ (v9 : Int → Nat → Int) (v10 : Int), v9 = srtA v7 v2 (Int.fdiv (v2 + v4) (2 ^ (Int.toNat 1))) → v10 = v1 → 
                (((Int.fdiv (v2 + v4) (2 ^ (Int.toNat 1))) < (((Int.fdiv (v2 + v4) (2 ^ (Int.toNat 1))) + v3) - v5) ∧ (((Int.fdiv (v2 + v4) (2 ^ (Int.toNat 1))) + v3) - v5) < v4) →
                  0 ≤ v1 ∧ (0 ≤ v1 →
                  v1 ≤ v1 ∧ (v1 ≤ v1 →
                  (Mrg v9 v1 (Int.fdiv (v2 + v4) (2 ^ (Int.toNat 1))) (((Int.fdiv (v2 + v4) (2 ^ (Int.toNat 1))) + v3) - v5) v4 ∧ v4 - (Int.fdiv (v2 + v4) (2 ^ (Int.toNat 1))) < M) ∧ (∀ (v11 : Int → Nat → Int) (v12 : Int), v11 = srtA v9 (Int.fdiv (v2 + v4) (2 ^ (Int.toNat 1))) v4 → v12 = v1 → 
                  v1 = v1 ∧ (v1 = v1 →
                  v1 = v1 ∧ (∀ (i : Int) (f : Nat), 0 ≤ i → i < v1 → f < 3 → v11 i f = srtA v0 v2 v4 i f) ∧ True))))) ∧
                (¬ (((Int.fdiv (v2 + v4) (2 ^ (Int.toNat 1))) < (((Int.fdiv (v2 + v4) (2 ^ (Int.toNat 1))) + v3) - v5) ∧ (((Int.fdiv (v2 + v4) (2 ^ (Int.toNat 1))) + v3) - v5) < v4)) →
                  v1 = v1 ∧ (v1 = v1 →
                  v1 = v1 ∧ (∀ (i : Int) (f : Nat), 0 ≤ i → i < v1 → f < 3 → v9 i f = srtA v0 v2 v4 i f) ∧ True)))))) ∧
              (¬ ((v2 < v5 ∧ v5 < (Int.fdiv (v2 + v4) (2 ^ (Int.toNat 1))))) →
                (((Int.fdiv (v2 + v4) (2 ^ (Int.toNat 1))) < (((Int.fdiv (v2 + v4) (2 ^ (Int.toNat 1))) + v3) - v5) ∧ (((Int.fdiv (v2 + v4) (2 ^ (Int.toNat 1))) + v3) - v5) < v4) →
                  0 ≤ v1 ∧ (0 ≤ v1 →
                  v1 ≤ v1 ∧ (v1 ≤ v1 →
                  (Mrg v7 v1 (Int.fdiv (v2 + v4) (2 ^ (Int.toNat 1))) (((Int.fdiv (v2 + v4) (2 ^ (Int.toNat 1))) + v3) - v5) v4 ∧ v4 - (Int.fdiv (v2 + v4) (2 ^ (Int.toNat 1))) < M) ∧ (∀ (v9 : Int → Nat → Int) (v10 : Int), v9 = srtA v7 (Int.fdiv (v2 + v4) (2 ^ (Int.toNat 1))) v4 → v10 = v1 → 
                  v1 = v1 ∧ (v1 = v1 →
                  v1 = v1 ∧ (∀ (i : Int) (f : Nat), 0 ≤ i → i < v1 → f < 3 → v9 i f = srtA v0 v2 v4 i f) ∧ True))))) ∧
                (¬ (((Int.fdiv (v2 + v4) (2 ^ (Int.toNat 1))) < (((Int.fdiv (v2 + v4) (2 ^ (Int.toNat 1))) + v3) - v5) ∧ (((Int.fdiv (v2 + v4) (2 ^ (Int.toNat 1))) + v3) - v5) < v4)) →
                  v1 = v1 ∧ (v1 = v1 →
                  v1 = v1 ∧ (∀ (i : Int) (f : Nat), 0 ≤ i → i < v1 → f < 3 → v7 i f = srtA v0 v2 v4 i f) ∧ True))))))) ∧
            (¬ ((v5 < v3 ∧ v3 < (((Int.fdiv (v2 + v4) (2 ^ (Int.toNat 1))) + v3) - v5))) →
              ((v2 < v5 ∧ v5 < (Int.fdiv (v2 + v4) (2 ^ (Int.toNat 1)))) →
                0 ≤ v1 ∧ (0 ≤ v1 →
                v1 ≤ v1 ∧ (v1 ≤ v1 →
                (Mrg v0 v1 v2 v5 (Int.fdiv (v2 + v4) (2 ^ (Int.toNat 1))) ∧ (Int.fdiv (v2 + v4) (2 ^ (Int.toNat 1))) - v2 < M) ∧ (∀ (v7 : Int → Nat → Int) (v8 : Int), v7 = srtA v0 v2 (Int.fdiv (v2 + v4) (2 ^ (Int.toNat 1))) → v8 = v1 → 
                (((Int.fdiv (v2 + v4) (2 ^ (Int.toNat 1))) < (((Int.fdiv (v2 + v4) (2 ^ (Int.toNat 1))) + v3) - v5) ∧ (((Int.fdiv (v2 + v4) (2 ^ (Int.toNat 1))) + v3) - v5) < v4) →
                  0 ≤ v1 ∧ (0 ≤ v1 →
                  v1 ≤ v1 ∧ (v1 ≤ v1 →
                  (Mrg v7 v1 (Int.fdiv (v2 + v4) (2 ^ (Int.toNat 1))) (((Int.fdiv (v2 + v4) (2 ^ (Int.toNat 1))) + v3) - v5) v4 ∧ v4 - (Int.fdiv (v2 + v4) (2 ^ (Int.toNat 1))) < M) ∧ (∀ (v9 : Int → Nat → Int) (v10 : Int), v9 = srtA v7 (Int.fdiv (v2 + v4) (2 ^ (Int.toNat 1))) v4 → v10 = v1 → 
                  v1 = v1 ∧ (v1 = v1 →
                  v1 = v1 ∧ (∀ (i : Int) (f : Nat), 0 ≤ i → i < v1 → f < 3 → v9 i f = srtA v0 v2 v4 i f) ∧ True))))) ∧
                (¬ (((Int.fdiv (v2 + v4) (2 ^ (Int.toNat 1))) < (((Int.fdiv (v2 + v4) (2 ^ (Int.toNat 1))) + v3) - v5) ∧ (((Int.fdiv (v2 + v4) (2 ^ (Int.toNat 1))) + v3) - v5) < v4)) →
                  v1 = v1 ∧ (v1 = v1 →
                  v1 = v1 ∧ (∀ (i : Int) (f : Nat), 0 ≤ i → i < v1 → f < 3 → v7 i f = srtA v0 v2 v4 i f) ∧ True)))))) ∧
              (¬ ((v2 < v5 ∧ v5 < (Int.fdiv (v2 + v4) (2 ^ (Int.toNat 1))))) →
                (((Int.fdiv (v2 + v4) (2 ^ (Int.toNat 1))) < (((Int.fdiv (v2 + v4) (2 ^ (Int.toNat 1))) + v3) - v5) ∧ (((Int.fdiv (v2 + v4) (2 ^ (Int.toNat 1))) + v3) - v5) < v4) →
                  0 ≤ v1 ∧ (0 ≤ v1 →
                  v1 ≤ v1 ∧ (v1 ≤ v1 →
                  (Mrg v0 v1 (Int.fdiv (v2 + v4) (2 ^ (Int.toNat 1))) (((Int.fdiv (v2 + v4) (2 ^ (Int.toNat 1))) + v3) - v5) v4 ∧ v4 - (Int.fdiv (v2 + v4) (2 ^ (Int.toNat 1))) < M) ∧ (∀ (v7 : Int → Nat → Int) (v8 : Int), v7 = srtA v0 (Int.fdiv (v2 + v4) (2 ^ (Int.toNat 1))) v4 → v8 = v1 → 
                  v1 = v1 ∧ (v1 = v1 →
                  v1 = v1 ∧ (∀ (i : Int) (f : Nat), 0 ≤ i → i < v1 → f < 3 → v7 i f = srtA v0 v2 v4 i f) ∧ True))))) ∧
                (¬ (((Int.fdiv (v2 + v4) (2 ^ (Int.toNat 1))) < (((Int.fdiv (v2 + v4) (2 ^ (Int.toNat 1))) + v3) - v5) ∧ (((Int.fdiv (v2 + v4) (2 ^ (Int.toNat 1))) + v3) - v5) < v4)) →
                  v1 = v1 ∧ (v1 = v1 →
                  v1 = v1 ∧ (∀ (i : Int) (f : Nat), 0 ≤ i → i < v1 → f < 3 → v0 i f = srtA v0 v2 v4 i f) ∧ True)))))))))) ∧
      (¬ ((Int.fdiv (v2 + v4) (2 ^ (Int.toNat 1))) < v3) →
        (-9223372036854775808 ≤ (((Int.fdiv (v2 + v4) (2 ^ (Int.toNat 1))) + v3) - 1) ∧ (((Int.fdiv (v2 + v4) (2 ^ (Int.toNat 1))) + v3) - 1) ≤ 9223372036854775807) ∧ ((-9223372036854775808 ≤ (((Int.fdiv (v2 + v4) (2 ^ (Int.toNat 1))) + v3) - 1) ∧ (((Int.fdiv (v2 + v4) (2 ^ (Int.toNat 1))) + v3) - 1) ≤ 9223372036854775807) →
        ∃ (I0 : (Int) → (Int) → Prop) (μ0 : (Int) → (Int) → Nat), I0 v2 v3 ∧ (∀ (v5 : Int) (v6 : Int), I0 v5 v6 →
          (v5 < v6 →
            (-9223372036854775808 ≤ (v5 + v6) ∧ (v5 + v6) ≤ 9223372036854775807) ∧ ((-9223372036854775808 ≤ (v5 + v6) ∧ (v5 + v6) ≤ 9223372036854775807) →
            (0 ≤ (v5 + v6) ∧ (v5 + v6) ≤ 18446744073709551615) ∧ ((0 ≤ (v5 + v6) ∧ (v5 + v6) ≤ 18446744073709551615) →
            (-9223372036854775808 ≤ (Int.fdiv (v5 + v6) (2 ^ (Int.toNat 1))) ∧ (Int.fdiv (v5 + v6) (2 ^ (Int.toNat 1))) ≤ 9223372036854775807) ∧ ((-9223372036854775808 ≤ (Int.fdiv (v5 + v6) (2 ^ (Int.toNat 1))) ∧ (Int.fdiv (v5 + v6) (2 ^ (Int.toNat 1))) ≤ 9223372036854775807) →
            (-9223372036854775808 ≤ ((((Int.fdiv (v2 + v4) (2 ^ (Int.toNat 1))) + v3) - 1) - (Int.fdiv (v5 + v6) (2 ^ (Int.toNat 1)))) ∧ ((((Int.fdiv (v2 + v4) (2 ^ (Int.toNat 1))) + v3) - 1) - (Int.fdiv (v5 + v6) (2 ^ (Int.toNat 1)))) ≤ 9223372036854775807) ∧ ((-9223372036854775808 ≤ ((((Int.fdiv (v2 + v4) (2 ^ (Int.toNat 1))) + v3) - 1) - (Int.fdiv (v5 + v6) (2 ^ (Int.toNat 1)))) ∧ ((((Int.fdiv (v2 + v4) (2 ^ (Int.toNat 1))) + v3) - 1) - (Int.fdiv (v5 + v6) (2 ^ (Int.toNat 1)))) ≤ 9223372036854775807) →
            0 ≤ ((((Int.fdiv (v2 + v4) (2 ^ (Int.toNat 1))) + v3) - 1) - (Int.fdiv (v5 + v6) (2 ^ (Int.toNat 1)))) ∧ (0 ≤ ((((Int.fdiv (v2 + v4) (2 ^ (Int.toNat 1))) + v3) - 1) - (Int.fdiv (v5 + v6) (2 ^ (Int.toNat 1)))) →
            ((((Int.fdiv (v2 + v4) (2 ^ (Int.toNat 1))) + v3) - 1) - (Int.fdiv (v5 + v6) (2 ^ (Int.toNat 1)))) < v1 ∧ (((((Int.fdiv (v2 + v4) (2 ^ (Int.toNat 1))) + v3) - 1) - (Int.fdiv (v5 + v6) (2 ^ (Int.toNat 1)))) < v1 →
            0 ≤ (Int.fdiv (v5 + v6) (2 ^ (Int.toNat 1))) ∧ (0 ≤ (Int.fdiv (v5 + v6) (2 ^ (Int.toNat 1))) →
            (Int.fdiv (v5 + v6) (2 ^ (Int.toNat 1))) < v1 ∧ ((Int.fdiv (v5 + v6) (2 ^ (Int.toNat 1))) < v1 →
            (True) ∧ (∀ (v7 : Int), v7 = cmpI (v0 ((((Int.fdiv (v2 + v4) (2 ^ (Int.toNat 1))) + v3) - 1) - (Int.fdiv (v5 + v6) (2 ^ (Int.toNat 1)))) 0) (v0 (Int.fdiv (v5 + v6) (2 ^ (Int.toNat 1))) 0) → 
            (¬ (v7 < 0) →
              (-9223372036854775808 ≤ ((Int.fdiv (v5 + v6) (2 ^ (Int.toNat 1))) + 1) ∧ ((Int.fdiv (v5 + v6) (2 ^ (Int.toNat 1))) + 1) ≤ 9223372036854775807) ∧ ((-9223372036854775808 ≤ ((Int.fdiv (v5 + v6) (2 ^ (Int.toNat 1))) + 1) ∧ ((Int.fdiv (v5 + v6) (2 ^ (Int.toNat 1))) + 1) ≤ 9223372036854775807) →
              I0 ((Int.fdiv (v5 + v6) (2 ^ (Int.toNat 1))) + 1) v6 ∧ μ0 ((Int.fdiv (v5 + v6) (2 ^ (Int.toNat 1))) + 1) v6 < μ0 v5 v6)) ∧
            (¬ (¬ (v7 < 0)) →
              I0 v5 (Int.fdiv (v5 + v6) (2 ^ (Int.toNat 1))) ∧ μ0 v5 (Int.fdiv (v5 + v6) (2 ^ (Int.toNat 1))) < μ0 v5 v6))))))))))) ∧
          (¬ (v5 < v6) →
            (-9223372036854775808 ≤ (((Int.fdiv (v2 + v4) (2 ^ (Int.toNat 1))) + v3) - v5) ∧ (((Int.fdiv (v2 + v4) (2 ^ (Int.toNat 1))) + v3) - v5) ≤ 9223372036854775807) ∧ ((-9223372036854775808 ≤ (((Int.fdiv (v2 + v4) (2 ^ (Int.toNat 1))) + v3) - v5) ∧ (((Int.fdiv (v2 + v4) (2 ^ (Int.toNat 1))) + v3) - v5) ≤ 9223372036854775807) →
            ((v5 < v3 ∧ v3 < (((Int.fdiv (v2 + v4) (2 ^ (Int.toNat 1))) + v3) - v5)) →
              0 ≤ v1 ∧ (0 ≤ v1 →
              v1 ≤ v1 ∧ (v1 ≤ v1 →
              (0 ≤ v5 ∧ v5 < v3 ∧ v3 < (((Int.fdiv (v2 + v4) (2 ^ (Int.toNat 1))) + v3) - v5) ∧ (((Int.fdiv (v2 + v4) (2 ^ (Int.toNat 1))) + v3) - v5) ≤ v1 ∧ v1 ≤ 256) ∧ (∀ (v7 : Int → Nat → Int) (v8 : Int), v7 = rotA v0 v5 v3 (((Int.fdiv (v2 + v4) (2 ^ (Int.toNat 1))) + v3) - v5) → v8 = v1 → 
              ((v2 < v5 ∧ v5 < (Int.fdiv (v2 + v4) (2 ^ (Int.toNat 1)))) →
                0 ≤ v1 ∧ (0 ≤ v1 →
                v1 ≤ v1 ∧ (v1 ≤ v1 →
                (Mrg v7 v1 v2 v5 (Int.fdiv (v2 + v4) (2 ^ (Int.toNat 1))) ∧ (Int.fdiv (v2 + v4) (2 ^ (Int.toNat 1))) - v2 < M) ∧ (∀ (v9 : Int → Nat → Int) (v10 : Int), v9 = srtA v7 v2 (Int.fdiv (v2 + v4) (2 ^ (Int.toNat 1))) → v10 = v1 → 
                (((Int.fdiv (v2 + v4) (2 ^ (Int.toNat 1))) < (((Int.fdiv (v2 + v4) (2 ^ (Int.toNat 1))) + v3) - v5) ∧ (((Int.fdiv (v2 + v4) (2 ^ (Int.toNat 1))) + v3) - v5) < v4) →
                  0 ≤ v1 ∧ (0 ≤ v1 →
                  v1 ≤ v1 ∧ (v1 ≤ v1 →
                  (Mrg v9 v1 (Int.fdiv (v2 + v4) (2 ^ (Int.toNat 1))) (((Int.fdiv (v2 + v4) (2 ^ (Int.toNat 1))) + v3) - v5) v4 ∧ v4 - (Int.fdiv (v2 + v4) (2 ^ (Int.toNat 1))) < M) ∧ (∀ (v11 : Int → Nat → Int) (v12 : Int), v11 = srtA v9 (Int.fdiv (v2 + v4) (2 ^ (Int.toNat 1))) v4 → v12 = v1 → 
                  v1 = v1 ∧ (v1 = v1 →
                  v1 = v1 ∧ (∀ (i : Int) (f : Nat), 0 ≤ i → i < v1 → f < 3 → v11 i f = srtA v0 v2 v4 i f) ∧ True))))) ∧
                (¬ (((Int.fdiv (v2 + v4) (2 ^ (Int.toNat 1))) < (((Int.fdiv (v2 + v4) (2 ^ (Int.toNat 1))) + v3) - v5) ∧ (((Int.fdiv (v2 + v4) (2 ^ (Int.toNat 1))) + v3) - v5) < v4)) →
                  v1 = v1 ∧ (v1 = v1 →
                  v1 = v1 ∧ (∀ (i : Int) (f : Nat), 0 ≤ i → i < v1 → f < 3 → v9 i f = srtA v0 v2 v4 i f) ∧ True)))))) ∧
              (¬ ((v2 < v5 ∧ v5 < (Int.fdiv (v2 + v4) (2 ^ (Int.toNat 1))))) →
                (((Int.fdiv (v2 + v4) (2 ^ (Int.toNat 1))) < (((Int.fdiv (v2 + v4) (2 ^ (Int.toNat 1))) + v3) - v5) ∧ (((Int.fdiv (v2 + v4) (2 ^ (Int.toNat 1))) + v3) - v5) < v4) →
                  0 ≤ v1 ∧ (0 ≤ v1 →
                  v1 ≤ v1 ∧ (v1 ≤ v1 →
                  (Mrg v7 v1 (Int.fdiv (v2 + v4) (2 ^ (Int.toNat 1))) (((Int.fdiv (v2 + v4) (2 ^ (Int.toNat 1))) + v3) - v5) v4 ∧ v4 - (Int.fdiv (v2 + v4) (2 ^ (Int.toNat 1))) < M) ∧ (∀ (v9 : Int → Nat → Int) (v10 : Int), v9 = srtA v7 (Int.fdiv (v2 + v4) (2 ^ (Int.toNat 1))) v4 → v10 = v1 → 
                  v1 = v1 ∧ (v1 = v1 →
                  v1 = v1 ∧ (∀ (i : Int) (f : Nat), 0 ≤ i → i < v1 → f < 3 → v9 i f = srtA v0 v2 v4 i f) ∧ True))))) ∧
                (¬ (((Int.fdiv (v2 + v4) (2 ^ (Int.toNat 1))) < (((Int.fdiv (v2 + v4) (2 ^ (Int.toNat 1))) + v3) - v5) ∧ (((Int.fdiv (v2 + v4) (2 ^ (Int.toNat 1))) + v3) - v5) < v4)) →
                  v1 = v1 ∧ (v1 = v1 →
                  v1 = v1 ∧ (∀ (i : Int) (f : Nat), 0 ≤ i → i < v1 → f < 3 → v7 i f = srtA v0 v2 v4 i f) ∧ True))))))) ∧
            (¬ ((v5 < v3 ∧ v3 < (((Int.fdiv (v2 + v4) (2 ^ (Int.toNat 1))) + v3) - v5))) →
              ((v2 < v5 ∧ v5 < (Int.fdiv (v2 + v4) (2 ^ (Int.toNat 1)))) →
                0 ≤ v1 ∧ (0 ≤ v1 →
                v1 ≤ v1 ∧ (v1 ≤ v1 →
                (Mrg v0 v1 v2 v5 (Int.fdiv (v2 + v4) (2 ^ (Int.toNat 1))) ∧ (Int.fdiv (v2 + v4) (2 ^ (Int.toNat 1))) - v2 < M) ∧ (∀ (v7 : Int → Nat → Int) (v8 : Int), v7 = srtA v0 v2 (Int.fdiv (v2 + v4) (2 ^ (Int.toNat 1))) → v8 = v1 → 
                (((Int.fdiv (v2 + v4) (2 ^ (Int.toNat 1))) < (((Int.fdiv (v2 + v4) (2 ^ (Int.toNat 1))) + v3) - v5) ∧ (((Int.fdiv (v2 + v4) (2 ^ (Int.toNat 1))) + v3) - v5) < v4) →
                  0 ≤ v1 ∧ (0 ≤ v1 →
                  v1 ≤ v1 ∧ (v1 ≤ v1 →
                  (Mrg v7 v1 (Int.fdiv (v2 + v4) (2 ^ (Int.toNat 1))) (((Int.fdiv (v2 + v4) (2 ^ (Int.toNat 1))) + v3) - v5) v4 ∧ v4 - (Int.fdiv (v2 + v4) (2 ^ (Int.toNat 1))) < M) ∧ (∀ (v9 : Int → Nat → Int) (v10 : Int), v9 = srtA v7 (Int.fdiv (v2 + v4) (2 ^ (Int.toNat 1))) v4 → v10 = v1 → 
                  v1 = v1 ∧ (v1 = v1 →
                  v1 = v1 ∧ (∀ (i : Int) (f : Nat), 0 ≤ i → i < v1 → f < 3 → v9 i f = srtA v0 v2 v4 i f) ∧ True))))) ∧
                (¬ (((Int.fdiv (v2 + v4) (2 ^ (Int.toNat 1))) < (((Int.fdiv (v2 + v4) (2 ^ (Int.toNat 1))) + v3) - v5) ∧ (((Int.fdiv (v2 + v4) (2 ^ (Int.toNat 1))) + v3) - v5) < v4)) →
                  v1 = v1 ∧ (v1 = v1 →
                  v1 = v1 ∧ (∀ (i : Int) (f : Nat), 0 ≤ i → i < v1 → f < 3 → v7 i f = srtA v0 v2 v4 i f) ∧ True)))))) ∧
              (¬ ((v2 < v5 ∧ v5 < (Int.fdiv (v2 + v4) (2 ^ (Int.toNat 1))))) →
                (((Int.fdiv (v2 + v4) (2 ^ (Int.toNat 1))) < (((Int.fdiv (v2 + v4) (2 ^ (Int.toNat 1))) + v3) - v5) ∧ (((Int.fdiv (v2 + v4) (2 ^ (Int.toNat 1))) + v3) - v5) < v4) →
                  0 ≤ v1 ∧ (0 ≤ v1 →
                  v1 ≤ v1 ∧ (v1 ≤ v1 →
                  (Mrg v0 v1 (Int.fdiv (v2 + v4) (2 ^ (Int.toNat 1))) (((Int.fdiv (v2 + v4) (2 ^ (Int.toNat 1))) + v3) - v5) v4 ∧ v4 - (Int.fdiv (v2 + v4) (2 ^ (Int.toNat 1))) < M) ∧ (∀ (v7 : Int → Nat → Int) (v8 : Int), v7 = srtA v0 (Int.fdiv (v2 + v4) (2 ^ (Int.toNat 1))) v4 → v8 = v1 → 
                  v1 = v1 ∧ (v1 = v1 →
                  v1 = v1 ∧ (∀ (i : Int) (f : Nat), 0 ≤ i → i < v1 → f < 3 → v7 i f = srtA v0 v2 v4 i f) ∧ True))))) ∧
                (¬ (((Int.fdiv (v2 + v4) (2 ^ (Int.toNat 1))) < (((Int.fdiv (v2 + v4) (2 ^ (Int.toNat 1))) + v3) - v5) ∧ (((Int.fdiv (v2 + v4) (2 ^ (Int.toNat 1))) + v3) - v5) < v4)) →
                  v1 = v1 ∧ (v1 = v1 →
                  v1 = v1 ∧ (∀ (i : Int) (f : Nat), 0 ≤ i → i < v1 → f < 3 → v0 i f = srtA v0 v2 v4 i f) ∧ True)))))))))))))))))))
def pre51F : List AV → Prop
  | [.a v0, .i v1, .i v2, .i v3, .i v4] => Mrg v0 v1 v2 v3 v4
  | _ => False
/-! slices.stableCmpFunc[hotspot/api.Timer] -/
def sig47 : CSig := ⟨[⟨false, [.slc [.int .i64, .int .i64, .int .i64]]⟩, ⟨false, [.int .i64]⟩], [⟨false, [.slc [.int .i64, .int .i64, .int .i64]]⟩]⟩
def pre47 : List AV → Prop
  | [.a v0, .i v1, .i v2] => Stb v0 v1 v2
  | _ => False
noncomputable def raw47 : List AV → List AV
  | [.a v0, .i v1, .i v2] => [.a (srtA v0 0 v2), .i (v1)]
  | _ => []

def VC47 : Prop :=
  ∀ (v0 : Int → Nat → Int) (v1 : Int) (v2 : Int),
  (Stb v0 v1 v2) →
  (0 ≤ v1 →
  ∃ (I0 : (Int → Nat → Int) → (Int) → (Int) → Prop) (μ0 : (Int → Nat → Int) → (Int) → (Int) → Nat), I0 v0 (0 : Int) (20 : Int) ∧ (∀ (v3 : Int → Nat → Int) (v4 : Int) (v5 : Int), I0 v3 v4 v5 →
    (v1 ≤ 9223372036854775807 →
    (v5 ≤ v2 →
      0 ≤ v1 ∧ (0 ≤ v1 →
      v1 ≤ v1 ∧ (v1 ≤ v1 →
      (Ins v3 v1 v4 v5) ∧ (∀ (v6 : Int → Nat → Int) (v7 : Int), v6 = srtA v3 v4 v5 → v7 = v1 → 
      (-9223372036854775808 ≤ (v5 + 20) ∧ (v5 + 20) ≤ 9223372036854775807) ∧ ((-9223372036854775808 ≤ (v5 + 20) ∧ (v5 + 20) ≤ 9223372036854775807) →
      I0 v6 v5 (v5 + 20) ∧ μ0 v6 v5 (v5 + 20) < μ0 v3 v4 v5))))) ∧
    (¬ (v5 ≤ v2) →
      0 ≤ v1 ∧ (0 ≤ v1 →
      v1 ≤ v1 ∧ (v1 ≤ v1 →
      (Ins v3 v1 v4 v2) ∧ (∀ (v6 : Int → Nat → Int) (v7 : Int), v6 = srtA v3 v4 v2 → v7 = v1 → 
      ∃ (I1 : (Int → Nat → Int) → (Int) → Prop) (μ1 : (Int → Nat → Int) → (Int) → Nat), I1 v6 (20 : Int) ∧ (∀ (v8 : Int → Nat → Int) (v9 : Int), I1 v8 v9 →
        (v9 < v2 →
          (-9223372036854775808 ≤ (2 * v9) ∧ (2 * v9) ≤ 9223372036854775807) ∧ ((-9223372036854775808 ≤ (2 * v9) ∧ (2 * v9) ≤ 9223372036854775807) →
          ∃ (I2 : (Int → Nat → Int) → (Int) → (Int) → Prop) (μ2 : (Int → Nat → Int) → (Int) → (Int) → Nat), I2 v8 (0 : Int) (2 * v9) ∧ (∀ (v10 : Int → Nat → Int) (v11 : Int) (v12 : Int), I2 v10 v11 v12 →
            (v12 ≤ v2 →
              (-9223372036854775808 ≤ (v11 + v9) ∧ (v11 + v9) ≤ 9223372036854775807) ∧ ((-9223372036854775808 ≤ (v11 + v9) ∧ (v11 + v9) ≤ 9223372036854775807) →
              0 ≤ v1 ∧ (0 ≤ v1 →
              v1 ≤ v1 ∧ (v1 ≤ v1 →
              (Mrg v10 v1 v11 (v11 + v9) v12) ∧ (∀ (v13 : Int → Nat → Int) (v14 : Int), v13 = srtA v10 v11 v12 → v14 = v1 → 
              (-9223372036854775808 ≤ (v12 + (2 * v9)) ∧ (v12 + (2 * v9)) ≤ 9223372036854775807) ∧ ((-9223372036854775808 ≤ (v12 + (2 * v9)) ∧ (v12 + (2 * v9)) ≤ 9223372036854775807) →
              I2 v13 v12 (v12 + (2 * v9)) ∧ μ2 v13 v12 (v12 + (2 * v9)) < μ2 v10 v11 v12)))))) ∧
            (¬ (v12 ≤ v2) →
              (-9223372036854775808 ≤ (v11 + v9) ∧ (v11 + v9) ≤ 9223372036854775807) ∧ ((-9223372036854775808 ≤ (v11 + v9) ∧ (v11 + v9) ≤ 9223372036854775807) →
              ((v11 + v9) < v2 →
                0 ≤ v1 ∧ (0 ≤ v1 →
                v1 ≤ v1 ∧ (v1 ≤ v1 →
                (Mrg v10 v1 v11 (v11 + v9) v2) ∧ (∀ (v13 : Int → Nat → Int) (v14 : Int), v13 = srtA v10 v11 v2 → v14 = v1 → 
                (-9223372036854775808 ≤ (v9 * 2) ∧ (v9 * 2) ≤ 9223372036854775807) ∧ ((-9223372036854775808 ≤ (v9 * 2) ∧ (v9 * 2) ≤ 9223372036854775807) →
                I1 v13 (v9 * 2) ∧ μ1 v13 (v9 * 2) < μ1 v8 v9))))) ∧
              (¬ ((v11 + v9) < v2) →
                (-9223372036854775808 ≤ (v9 * 2) ∧ (v9 * 2) ≤ 9223372036854775807) ∧ ((-9223372036854775808 ≤ (v9 * 2) ∧ (v9 * 2) ≤ 9223372036854775807) →
                I1 v10 (v9 * 2) ∧ μ1 v10 (v9 * 2) < μ1 v8 v9))))))) ∧
        (¬ (v9 < v2) →
          v1 = v1 ∧ (v1 = v1 →
          v1 = v1 ∧ (∀ (i : Int) (f : Nat), 0 ≤ i → i < v1 → f < 3 → v8 i f = srtA v0 0 v2 i f) ∧ True))))))))))
end Go.Proofs.Ytpbpmabnmakdoaa
