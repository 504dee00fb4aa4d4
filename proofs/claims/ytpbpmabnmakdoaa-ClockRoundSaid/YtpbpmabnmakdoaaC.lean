/- What the functions do, and what is left to show of each. -/
import Derived.Test.YtpbpmabnmakdoaaW
import Derived.Test.YtpbpmabnmakdoaaD
set_option linter.unusedVariables false
namespace Go.Proofs.Ytpbpmabnmakdoaa
open Go Go.RowKit Go.Proofs.Ytpbpmabnmakdoaa.Vc
/-- a function that the kernel does not open -/
noncomputable def hideS {α : Type} (x : α) : {y : α // y = x} := Classical.choice ⟨⟨x, rfl⟩⟩
noncomputable def hidF {α : Type} (x : α) : α := (hideS x).1
theorem hidF_eq {α : Type} (x : α) : hidF x = x := (hideS x).2
/-! clock.Check -/
def sig19 : CSig := ⟨[⟨true, [.int .i64, .int .i64]⟩], [⟨false, [.int .i64]⟩]⟩
def pre19 : List AV → Prop
  | [.i v0, .i v1] => True
  | _ => False
noncomputable def raw19 : List AV → List AV
  | [.i v0, .i v1] => [.i ((hidF ckZ) v0 v1)]
  | _ => []

def VH19 : Prop :=
  ∀ (v0 : Int) (v1 : Int),
  (True) →
  ((((v0 < (-1099511627776) ∨ 1099511627776 < v0) ∨ v1 < (-100)) ∨ 100 < v1) →
    (8 : Int) = (hidF ckZ) v0 v1 ∧ True) ∧
  (¬ ((((v0 < (-1099511627776) ∨ 1099511627776 < v0) ∨ v1 < (-100)) ∨ 100 < v1)) →
    (0 : Int) = (hidF ckZ) v0 v1 ∧ True)
def VC19 : Prop :=
  ∀ (v0 : Int) (v1 : Int),
  (True) →
  ((((v0 < (-1099511627776) ∨ 1099511627776 < v0) ∨ v1 < (-100)) ∨ 100 < v1) →
    (8 : Int) = ckZ v0 v1 ∧ True) ∧
  (¬ ((((v0 < (-1099511627776) ∨ 1099511627776 < v0) ∨ v1 < (-100)) ∨ 100 < v1)) →
    (0 : Int) = ckZ v0 v1 ∧ True)
theorem vh19 (h : VC19) : VH19 := by
  unfold VH19
  rw [hidF_eq ckZ]
  exact h
/-! clock.floor -/
def sig33 : CSig := ⟨[⟨false, [.int .i64]⟩, ⟨false, [.int .i64]⟩], [⟨false, [.int .i64]⟩]⟩
def pre33 : List AV → Prop
  | [.i v0, .i v1] => 0 < v1 ∧ -(2^62) ≤ v0 ∧ v0 ≤ 2^62 ∧ v1 ≤ 2^62
  | _ => False
noncomputable def raw33 : List AV → List AV
  | [.i v0, .i v1] => [.i (Int.fdiv v0 v1)]
  | _ => []

def VH33 : Prop :=
  ∀ (v0 : Int) (v1 : Int),
  (0 < v1 ∧ -(2^62) ≤ v0 ∧ v0 ≤ 2^62 ∧ v1 ≤ 2^62) →
  ¬ (v1 = 0) ∧ (¬ (v1 = 0) →
  (-9223372036854775808 ≤ (Int.tdiv v0 v1) ∧ (Int.tdiv v0 v1) ≤ 9223372036854775807) ∧ ((-9223372036854775808 ≤ (Int.tdiv v0 v1) ∧ (Int.tdiv v0 v1) ≤ 9223372036854775807) →
  (-9223372036854775808 ≤ ((Int.tdiv v0 v1) * v1) ∧ ((Int.tdiv v0 v1) * v1) ≤ 9223372036854775807) ∧ ((-9223372036854775808 ≤ ((Int.tdiv v0 v1) * v1) ∧ ((Int.tdiv v0 v1) * v1) ≤ 9223372036854775807) →
  (((Int.tdiv v0 v1) * v1) ≤ v0 →
    (Int.tdiv v0 v1) = Int.fdiv v0 v1 ∧ True) ∧
  (¬ (((Int.tdiv v0 v1) * v1) ≤ v0) →
    (-9223372036854775808 ≤ ((Int.tdiv v0 v1) - 1) ∧ ((Int.tdiv v0 v1) - 1) ≤ 9223372036854775807) ∧ ((-9223372036854775808 ≤ ((Int.tdiv v0 v1) - 1) ∧ ((Int.tdiv v0 v1) - 1) ≤ 9223372036854775807) →
    ((Int.tdiv v0 v1) - 1) = Int.fdiv v0 v1 ∧ True)))))
def VC33 : Prop :=
  ∀ (v0 : Int) (v1 : Int),
  (0 < v1 ∧ -(2^62) ≤ v0 ∧ v0 ≤ 2^62 ∧ v1 ≤ 2^62) →
  ¬ (v1 = 0) ∧ (¬ (v1 = 0) →
  (-9223372036854775808 ≤ (Int.tdiv v0 v1) ∧ (Int.tdiv v0 v1) ≤ 9223372036854775807) ∧ ((-9223372036854775808 ≤ (Int.tdiv v0 v1) ∧ (Int.tdiv v0 v1) ≤ 9223372036854775807) →
  (-9223372036854775808 ≤ ((Int.tdiv v0 v1) * v1) ∧ ((Int.tdiv v0 v1) * v1) ≤ 9223372036854775807) ∧ ((-9223372036854775808 ≤ ((Int.tdiv v0 v1) * v1) ∧ ((Int.tdiv v0 v1) * v1) ≤ 9223372036854775807) →
  (((Int.tdiv v0 v1) * v1) ≤ v0 →
    (Int.tdiv v0 v1) = Int.fdiv v0 v1 ∧ True) ∧
  (¬ (((Int.tdiv v0 v1) * v1) ≤ v0) →
    (-9223372036854775808 ≤ ((Int.tdiv v0 v1) - 1) ∧ ((Int.tdiv v0 v1) - 1) ≤ 9223372036854775807) ∧ ((-9223372036854775808 ≤ ((Int.tdiv v0 v1) - 1) ∧ ((Int.tdiv v0 v1) - 1) ≤ 9223372036854775807) →
    ((Int.tdiv v0 v1) - 1) = Int.fdiv v0 v1 ∧ True)))))
theorem vh33 (h : VC33) : VH33 := by
  unfold VH33
  exact h
/-! clock.local -/
def sig27 : CSig := ⟨[⟨true, [.int .i64, .int .i64]⟩, ⟨false, [.int .i64]⟩], [⟨false, [.int .i64]⟩]⟩
def pre27 : List AV → Prop
  | [.i v0, .i v1, .i v2] => okC v0 v1 ∧ 0 ≤ v2 ∧ v2 ≤ 2^42
  | _ => False
noncomputable def raw27 : List AV → List AV
  | [.i v0, .i v1, .i v2] => [.i ((hidF tmZ) v0 v1 v2)]
  | _ => []

def VH27 : Prop :=
  ∀ (v0 : Int) (v1 : Int) (v2 : Int),
  (okC v0 v1 ∧ 0 ≤ v2 ∧ v2 ≤ 2^42) →
  (-9223372036854775808 ≤ (v2 + v0) ∧ (v2 + v0) ≤ 9223372036854775807) ∧ ((-9223372036854775808 ≤ (v2 + v0) ∧ (v2 + v0) ≤ 9223372036854775807) →
  (-9223372036854775808 ≤ (v2 * v1) ∧ (v2 * v1) ≤ 9223372036854775807) ∧ ((-9223372036854775808 ≤ (v2 * v1) ∧ (v2 * v1) ≤ 9223372036854775807) →
  (0 < (1000000 : Int) ∧ -(2^62) ≤ (v2 * v1) ∧ (v2 * v1) ≤ 2^62 ∧ (1000000 : Int) ≤ 2^62) ∧ (∀ (v3 : Int), v3 = Int.fdiv (v2 * v1) (1000000 : Int) → 
  (-9223372036854775808 ≤ ((v2 + v0) + v3) ∧ ((v2 + v0) + v3) ≤ 9223372036854775807) ∧ ((-9223372036854775808 ≤ ((v2 + v0) + v3) ∧ ((v2 + v0) + v3) ≤ 9223372036854775807) →
  ((v2 + v0) + v3) = (hidF tmZ) v0 v1 v2 ∧ True))))
def VC27 : Prop :=
  ∀ (v0 : Int) (v1 : Int) (v2 : Int),
  (okC v0 v1 ∧ 0 ≤ v2 ∧ v2 ≤ 2^42) →
  (-9223372036854775808 ≤ (v2 + v0) ∧ (v2 + v0) ≤ 9223372036854775807) ∧ ((-9223372036854775808 ≤ (v2 + v0) ∧ (v2 + v0) ≤ 9223372036854775807) →
  (-9223372036854775808 ≤ (v2 * v1) ∧ (v2 * v1) ≤ 9223372036854775807) ∧ ((-9223372036854775808 ≤ (v2 * v1) ∧ (v2 * v1) ≤ 9223372036854775807) →
  (0 < (1000000 : Int) ∧ -(2^62) ≤ (v2 * v1) ∧ (v2 * v1) ≤ 2^62 ∧ (1000000 : Int) ≤ 2^62) ∧ (∀ (v3 : Int), v3 = Int.fdiv (v2 * v1) (1000000 : Int) → 
  (-9223372036854775808 ≤ ((v2 + v0) + v3) ∧ ((v2 + v0) + v3) ≤ 9223372036854775807) ∧ ((-9223372036854775808 ≤ ((v2 + v0) + v3) ∧ ((v2 + v0) + v3) ≤ 9223372036854775807) →
  ((v2 + v0) + v3) = tmZ v0 v1 v2 ∧ True))))
theorem vh27 (h : VC27) : VH27 := by
  unfold VH27
  rw [hidF_eq tmZ]
  exact h
/-! clock.adopt -/
def sig28 : CSig := ⟨[⟨true, [.int .i64, .int .i64]⟩, ⟨false, [.int .i64]⟩, ⟨false, [.int .i64]⟩], [⟨true, [.int .i64, .int .i64]⟩, ⟨false, [.int .i64]⟩]⟩
def pre28 : List AV → Prop
  | [.i v0, .i v1, .i v2, .i v3] => okC v0 v1 ∧ 0 ≤ v2 ∧ v2 ≤ 2^42 ∧ -(2^44) ≤ v3 ∧ v3 ≤ 2^44
  | _ => False
noncomputable def raw28 : List AV → List AV
  | [.i v0, .i v1, .i v2, .i v3] => [.i ((hidF adO) v0 v1 v2 v3), .i ((hidF adP) v0 v1 v2 v3), .i ((hidF ckZ) ((hidF adZ) v0 v1 v2 v3) v1)]
  | _ => []

def VH28 : Prop :=
  ∀ (v0 : Int) (v1 : Int) (v2 : Int) (v3 : Int),
  (okC v0 v1 ∧ 0 ≤ v2 ∧ v2 ≤ 2^42 ∧ -(2^44) ≤ v3 ∧ v3 ≤ 2^44) →
  (okC v0 v1 ∧ 0 ≤ v2 ∧ v2 ≤ 2^42) ∧ (∀ (v4 : Int), v4 = (hidF tmZ) v0 v1 v2 → 
  (-9223372036854775808 ≤ (v3 - v4) ∧ (v3 - v4) ≤ 9223372036854775807) ∧ ((-9223372036854775808 ≤ (v3 - v4) ∧ (v3 - v4) ≤ 9223372036854775807) →
  (-9223372036854775808 ≤ (v0 + (max (v3 - v4) 0)) ∧ (v0 + (max (v3 - v4) 0)) ≤ 9223372036854775807) ∧ ((-9223372036854775808 ≤ (v0 + (max (v3 - v4) 0)) ∧ (v0 + (max (v3 - v4) 0)) ≤ 9223372036854775807) →
  (True) ∧ (∀ (v5 : Int), v5 = (hidF ckZ) (v0 + (max (v3 - v4) 0)) v1 → 
  (¬ (v5 = 0) →
    (0 : Int) = (hidF adO) v0 v1 v2 v3 ∧ (0 : Int) = (hidF adP) v0 v1 v2 v3 ∧ v5 = (hidF ckZ) ((hidF adZ) v0 v1 v2 v3) v1 ∧ True) ∧
  (¬ (¬ (v5 = 0)) →
    (v0 + (max (v3 - v4) 0)) = (hidF adO) v0 v1 v2 v3 ∧ v1 = (hidF adP) v0 v1 v2 v3 ∧ (0 : Int) = (hidF ckZ) ((hidF adZ) v0 v1 v2 v3) v1 ∧ True)))))
def VC28 : Prop :=
  ∀ (v0 : Int) (v1 : Int) (v2 : Int) (v3 : Int),
  (okC v0 v1 ∧ 0 ≤ v2 ∧ v2 ≤ 2^42 ∧ -(2^44) ≤ v3 ∧ v3 ≤ 2^44) →
  (okC v0 v1 ∧ 0 ≤ v2 ∧ v2 ≤ 2^42) ∧ (∀ (v4 : Int), v4 = tmZ v0 v1 v2 → 
  (-9223372036854775808 ≤ (v3 - v4) ∧ (v3 - v4) ≤ 9223372036854775807) ∧ ((-9223372036854775808 ≤ (v3 - v4) ∧ (v3 - v4) ≤ 9223372036854775807) →
  (-9223372036854775808 ≤ (v0 + (max (v3 - v4) 0)) ∧ (v0 + (max (v3 - v4) 0)) ≤ 9223372036854775807) ∧ ((-9223372036854775808 ≤ (v0 + (max (v3 - v4) 0)) ∧ (v0 + (max (v3 - v4) 0)) ≤ 9223372036854775807) →
  (True) ∧ (∀ (v5 : Int), v5 = ckZ (v0 + (max (v3 - v4) 0)) v1 → 
  (¬ (v5 = 0) →
    (0 : Int) = adO v0 v1 v2 v3 ∧ (0 : Int) = adP v0 v1 v2 v3 ∧ v5 = ckZ (adZ v0 v1 v2 v3) v1 ∧ True) ∧
  (¬ (¬ (v5 = 0)) →
    (v0 + (max (v3 - v4) 0)) = adO v0 v1 v2 v3 ∧ v1 = adP v0 v1 v2 v3 ∧ (0 : Int) = ckZ (adZ v0 v1 v2 v3) v1 ∧ True)))))
theorem vh28 (h : VC28) : VH28 := by
  unfold VH28
  rw [hidF_eq adO, hidF_eq adP, hidF_eq adZ, hidF_eq ckZ, hidF_eq tmZ]
  exact h
/-! clock.Round -/
def sig10 : CSig := ⟨[⟨false, [.slc [.int .i64, .int .i64]]⟩, ⟨false, [.mat [.int .i64]]⟩, ⟨false, [.int .i64]⟩], [⟨false, [.slc [.int .i64, .int .i64]]⟩, ⟨false, [.int .i64]⟩]⟩
def pre10 : List AV → Prop
  | [.a v0, .i v1, .m v2l v2f, .i v3, .i v4] => True
  | _ => False
noncomputable def raw10 : List AV → List AV
  | [.a v0, .i v1, .m v2l v2f, .i v3, .i v4] => [.a ((hidF rdA) v0 v1 v2l v2f v3 v4), .i ((hidF rdN) v0 v1 v2l v2f v3 v4), .i ((hidF rdE) v0 v1 v2l v2f v3 v4)]
  | _ => []

def VH10 : Prop :=
  ∀ (v0 : Int → Nat → Int) (v1 : Int) (v2l : Int → Int) (v2f : Int → Int → Nat → Int) (v3 : Int) (v4 : Int),
  (True) →
  (0 ≤ v1 →
  (0 ≤ v3 →
  ∃ (I0 : (Int) → Prop) (μ0 : (Int) → Nat), I0 (0 : Int) ∧ (∀ (v5 : Int), I0 v5 →
    (v1 ≤ 9223372036854775807 →
    (v3 ≤ 9223372036854775807 →
    (v5 < v1 →
      0 ≤ v5 ∧ (0 ≤ v5 →
      (True) ∧ (∀ (v6 : Int), v6 = (hidF ckZ) (v0 v5 0) (v0 v5 1) → 
      (¬ (v6 = 0) →
        (0 : Int) = (hidF rdN) v0 v1 v2l v2f v3 v4 ∧ (∀ (i : Int) (f : Nat), 0 ≤ i → i < (hidF rdN) v0 v1 v2l v2f v3 v4 → f < 2 → zA i f = (hidF rdA) v0 v1 v2l v2f v3 v4 i f) ∧ v6 = (hidF rdE) v0 v1 v2l v2f v3 v4 ∧ True) ∧
      (¬ (¬ (v6 = 0)) →
        (-9223372036854775808 ≤ (v5 + 1) ∧ (v5 + 1) ≤ 9223372036854775807) ∧ ((-9223372036854775808 ≤ (v5 + 1) ∧ (v5 + 1) ≤ 9223372036854775807) →
        I0 (v5 + 1) ∧ μ0 (v5 + 1) < μ0 v5))))) ∧
    (¬ (v5 < v1) →
      (¬ ((((32 < v1 ∨ ¬ (v3 = v1)) ∨ v4 < 0) ∨ 1099511627776 < v4)) →
        ∃ (I1 : (Int) → Prop) (μ1 : (Int) → Nat), I1 (0 : Int) ∧ (∀ (v6 : Int), I1 v6 →
          (v6 < v3 →
            0 ≤ v6 ∧ (0 ≤ v6 →
            ∃ (I2 : (Int) → Prop) (μ2 : (Int) → Nat), I2 (0 : Int) ∧ (∀ (v7 : Int), I2 v7 →
              (0 ≤ (v2l v6) →
              ((v2l v6) ≤ 9223372036854775807 →
              (v7 < (v2l v6) →
                0 ≤ v7 ∧ (0 ≤ v7 →
                ((((rowA v2f v6) v7 0) < 0 ∨ v1 ≤ ((rowA v2f v6) v7 0)) →
                  (0 : Int) = (hidF rdN) v0 v1 v2l v2f v3 v4 ∧ (∀ (i : Int) (f : Nat), 0 ≤ i → i < (hidF rdN) v0 v1 v2l v2f v3 v4 → f < 2 → zA i f = (hidF rdA) v0 v1 v2l v2f v3 v4 i f) ∧ (2 : Int) = (hidF rdE) v0 v1 v2l v2f v3 v4 ∧ True) ∧
                (¬ ((((rowA v2f v6) v7 0) < 0 ∨ v1 ≤ ((rowA v2f v6) v7 0))) →
                  (-9223372036854775808 ≤ (v7 + 1) ∧ (v7 + 1) ≤ 9223372036854775807) ∧ ((-9223372036854775808 ≤ (v7 + 1) ∧ (v7 + 1) ≤ 9223372036854775807) →
                  I2 (v7 + 1) ∧ μ2 (v7 + 1) < μ2 v7)))) ∧
              (¬ (v7 < (v2l v6)) →
                (-9223372036854775808 ≤ (v6 + 1) ∧ (v6 + 1) ≤ 9223372036854775807) ∧ ((-9223372036854775808 ≤ (v6 + 1) ∧ (v6 + 1) ≤ 9223372036854775807) →
                I1 (v6 + 1) ∧ μ1 (v6 + 1) < μ1 v6))))))) ∧
          (¬ (v6 < v3) →
            ∃ (I2 : (Int) → (Int → Nat → Int) → (Int) → (Int) → Prop) (μ2 : (Int) → (Int → Nat → Int) → (Int) → (Int) → Nat), I2 (0 : Int) zA (0 : Int) (0 : Int) ∧ (∀ (v7 : Int) (v8 : Int → Nat → Int) (v9 : Int) (v10 : Int), I2 v7 v8 v9 v10 →
              (0 ≤ v9 →
              (v9 ≤ 9223372036854775807 →
              (v7 < v1 →
                0 ≤ v7 ∧ (0 ≤ v7 →
                (okC (v0 v7 0) (v0 v7 1) ∧ 0 ≤ v4 ∧ v4 ≤ 2^42) ∧ (∀ (v11 : Int), v11 = (hidF tmZ) (v0 v7 0) (v0 v7 1) v4 → 
                v7 < v3 ∧ (v7 < v3 →
                ∃ (I3 : (Int) → (Int) → Prop) (μ3 : (Int) → (Int) → Nat), I3 v11 (0 : Int) ∧ (∀ (v12 : Int) (v13 : Int), I3 v12 v13 →
                  (0 ≤ (v2l v7) →
                  ((v2l v7) ≤ 9223372036854775807 →
                  (v13 < (v2l v7) →
                    0 ≤ v13 ∧ (0 ≤ v13 →
                    0 ≤ ((rowA v2f v7) v13 0) ∧ (0 ≤ ((rowA v2f v7) v13 0) →
                    ((rowA v2f v7) v13 0) < v1 ∧ (((rowA v2f v7) v13 0) < v1 →
                    (okC (v0 ((rowA v2f v7) v13 0) 0) (v0 ((rowA v2f v7) v13 0) 1) ∧ 0 ≤ v4 ∧ v4 ≤ 2^42) ∧ (∀ (v14 : Int), v14 = (hidF tmZ) (v0 ((rowA v2f v7) v13 0) 0) (v0 ((rowA v2f v7) v13 0) 1) v4 → 
                    (-9223372036854775808 ≤ (v13 + 1) ∧ (v13 + 1) ≤ 9223372036854775807) ∧ ((-9223372036854775808 ≤ (v13 + 1) ∧ (v13 + 1) ≤ 9223372036854775807) →
                    I3 (max v12 v14) (v13 + 1) ∧ μ3 (max v12 v14) (v13 + 1) < μ3 v12 v13)))))) ∧
                  (¬ (v13 < (v2l v7)) →
                    (okC (v0 v7 0) (v0 v7 1) ∧ 0 ≤ v4 ∧ v4 ≤ 2^42 ∧ -(2^44) ≤ v12 ∧ v12 ≤ 2^44) ∧ (∀ (v14 : Int) (v15 : Int) (v16 : Int), v14 = (hidF adO) (v0 v7 0) (v0 v7 1) v4 v12 → v15 = (hidF adP) (v0 v7 0) (v0 v7 1) v4 v12 → v16 = (hidF ckZ) ((hidF adZ) (v0 v7 0) (v0 v7 1) v4 v12) (v0 v7 1) → 
                    (¬ (v16 = 0) →
                      (0 : Int) = (hidF rdN) v0 v1 v2l v2f v3 v4 ∧ (∀ (i : Int) (f : Nat), 0 ≤ i → i < (hidF rdN) v0 v1 v2l v2f v3 v4 → f < 2 → zA i f = (hidF rdA) v0 v1 v2l v2f v3 v4 i f) ∧ v16 = (hidF rdE) v0 v1 v2l v2f v3 v4 ∧ True) ∧
                    (¬ (¬ (v16 = 0)) →
                      ((v9 + 1) * 16) ≤ 140737488355328 ∧ (((v9 + 1) * 16) ≤ 140737488355328 →
                      (v9 + 1) ≤ 140737488355328 ∧ ((v9 + 1) ≤ 140737488355328 →
                      (-9223372036854775808 ≤ (v7 + 1) ∧ (v7 + 1) ≤ 9223372036854775807) ∧ ((-9223372036854775808 ≤ (v7 + 1) ∧ (v7 + 1) ≤ 9223372036854775807) →
                      I2 (v7 + 1) (appA v8 v9 (setA (setA zA 0 0 v14) 0 1 v15)) (v9 + 1) v16 ∧ μ2 (v7 + 1) (appA v8 v9 (setA (setA zA 0 0 v14) 0 1 v15)) (v9 + 1) v16 < μ2 v7 v8 v9 v10))))))))))))) ∧
              (¬ (v7 < v1) →
                v9 = (hidF rdN) v0 v1 v2l v2f v3 v4 ∧ (∀ (i : Int) (f : Nat), 0 ≤ i → i < (hidF rdN) v0 v1 v2l v2f v3 v4 → f < 2 → v8 i f = (hidF rdA) v0 v1 v2l v2f v3 v4 i f) ∧ (0 : Int) = (hidF rdE) v0 v1 v2l v2f v3 v4 ∧ True))))))) ∧
      (¬ (¬ ((((32 < v1 ∨ ¬ (v3 = v1)) ∨ v4 < 0) ∨ 1099511627776 < v4))) →
        (0 : Int) = (hidF rdN) v0 v1 v2l v2f v3 v4 ∧ (∀ (i : Int) (f : Nat), 0 ≤ i → i < (hidF rdN) v0 v1 v2l v2f v3 v4 → f < 2 → zA i f = (hidF rdA) v0 v1 v2l v2f v3 v4 i f) ∧ (2 : Int) = (hidF rdE) v0 v1 v2l v2f v3 v4 ∧ True)))))))
def VC10 : Prop :=
  ∀ (v0 : Int → Nat → Int) (v1 : Int) (v2l : Int → Int) (v2f : Int → Int → Nat → Int) (v3 : Int) (v4 : Int),
  (True) →
  (0 ≤ v1 →
  (0 ≤ v3 →
  ∃ (I0 : (Int) → Prop) (μ0 : (Int) → Nat), I0 (0 : Int) ∧ (∀ (v5 : Int), I0 v5 →
    (v1 ≤ 9223372036854775807 →
    (v3 ≤ 9223372036854775807 →
    (v5 < v1 →
      0 ≤ v5 ∧ (0 ≤ v5 →
      (True) ∧ (∀ (v6 : Int), v6 = ckZ (v0 v5 0) (v0 v5 1) → 
      (¬ (v6 = 0) →
        (0 : Int) = rdN v0 v1 v2l v2f v3 v4 ∧ (∀ (i : Int) (f : Nat), 0 ≤ i → i < rdN v0 v1 v2l v2f v3 v4 → f < 2 → zA i f = rdA v0 v1 v2l v2f v3 v4 i f) ∧ v6 = rdE v0 v1 v2l v2f v3 v4 ∧ True) ∧
      (¬ (¬ (v6 = 0)) →
        (-9223372036854775808 ≤ (v5 + 1) ∧ (v5 + 1) ≤ 9223372036854775807) ∧ ((-9223372036854775808 ≤ (v5 + 1) ∧ (v5 + 1) ≤ 9223372036854775807) →
        I0 (v5 + 1) ∧ μ0 (v5 + 1) < μ0 v5))))) ∧
    (¬ (v5 < v1) →
      (¬ ((((32 < v1 ∨ ¬ (v3 = v1)) ∨ v4 < 0) ∨ 1099511627776 < v4)) →
        ∃ (I1 : (Int) → Prop) (μ1 : (Int) → Nat), I1 (0 : Int) ∧ (∀ (v6 : Int), I1 v6 →
          (v6 < v3 →
            0 ≤ v6 ∧ (0 ≤ v6 →
            ∃ (I2 : (Int) → Prop) (μ2 : (Int) → Nat), I2 (0 : Int) ∧ (∀ (v7 : Int), I2 v7 →
              (0 ≤ (v2l v6) →
              ((v2l v6) ≤ 9223372036854775807 →
              (v7 < (v2l v6) →
                0 ≤ v7 ∧ (0 ≤ v7 →
                ((((rowA v2f v6) v7 0) < 0 ∨ v1 ≤ ((rowA v2f v6) v7 0)) →
                  (0 : Int) = rdN v0 v1 v2l v2f v3 v4 ∧ (∀ (i : Int) (f : Nat), 0 ≤ i → i < rdN v0 v1 v2l v2f v3 v4 → f < 2 → zA i f = rdA v0 v1 v2l v2f v3 v4 i f) ∧ (2 : Int) = rdE v0 v1 v2l v2f v3 v4 ∧ True) ∧
                (¬ ((((rowA v2f v6) v7 0) < 0 ∨ v1 ≤ ((rowA v2f v6) v7 0))) →
                  (-9223372036854775808 ≤ (v7 + 1) ∧ (v7 + 1) ≤ 9223372036854775807) ∧ ((-9223372036854775808 ≤ (v7 + 1) ∧ (v7 + 1) ≤ 9223372036854775807) →
                  I2 (v7 + 1) ∧ μ2 (v7 + 1) < μ2 v7)))) ∧
              (¬ (v7 < (v2l v6)) →
                (-9223372036854775808 ≤ (v6 + 1) ∧ (v6 + 1) ≤ 9223372036854775807) ∧ ((-9223372036854775808 ≤ (v6 + 1) ∧ (v6 + 1) ≤ 9223372036854775807) →
                I1 (v6 + 1) ∧ μ1 (v6 + 1) < μ1 v6))))))) ∧
          (¬ (v6 < v3) →
            ∃ (I2 : (Int) → (Int → Nat → Int) → (Int) → (Int) → Prop) (μ2 : (Int) → (Int → Nat → Int) → (Int) → (Int) → Nat), I2 (0 : Int) zA (0 : Int) (0 : Int) ∧ (∀ (v7 : Int) (v8 : Int → Nat → Int) (v9 : Int) (v10 : Int), I2 v7 v8 v9 v10 →
              (0 ≤ v9 →
              (v9 ≤ 9223372036854775807 →
              (v7 < v1 →
                0 ≤ v7 ∧ (0 ≤ v7 →
                (okC (v0 v7 0) (v0 v7 1) ∧ 0 ≤ v4 ∧ v4 ≤ 2^42) ∧ (∀ (v11 : Int), v11 = tmZ (v0 v7 0) (v0 v7 1) v4 → 
                v7 < v3 ∧ (v7 < v3 →
                ∃ (I3 : (Int) → (Int) → Prop) (μ3 : (Int) → (Int) → Nat), I3 v11 (0 : Int) ∧ (∀ (v12 : Int) (v13 : Int), I3 v12 v13 →
                  (0 ≤ (v2l v7) →
                  ((v2l v7) ≤ 9223372036854775807 →
                  (v13 < (v2l v7) →
                    0 ≤ v13 ∧ (0 ≤ v13 →
                    0 ≤ ((rowA v2f v7) v13 0) ∧ (0 ≤ ((rowA v2f v7) v13 0) →
                    ((rowA v2f v7) v13 0) < v1 ∧ (((rowA v2f v7) v13 0) < v1 →
                    (okC (v0 ((rowA v2f v7) v13 0) 0) (v0 ((rowA v2f v7) v13 0) 1) ∧ 0 ≤ v4 ∧ v4 ≤ 2^42) ∧ (∀ (v14 : Int), v14 = tmZ (v0 ((rowA v2f v7) v13 0) 0) (v0 ((rowA v2f v7) v13 0) 1) v4 → 
                    (-9223372036854775808 ≤ (v13 + 1) ∧ (v13 + 1) ≤ 9223372036854775807) ∧ ((-9223372036854775808 ≤ (v13 + 1) ∧ (v13 + 1) ≤ 9223372036854775807) →
                    I3 (max v12 v14) (v13 + 1) ∧ μ3 (max v12 v14) (v13 + 1) < μ3 v12 v13)))))) ∧
                  (¬ (v13 < (v2l v7)) →
                    (okC (v0 v7 0) (v0 v7 1) ∧ 0 ≤ v4 ∧ v4 ≤ 2^42 ∧ -(2^44) ≤ v12 ∧ v12 ≤ 2^44) ∧ (∀ (v14 : Int) (v15 : Int) (v16 : Int), v14 = adO (v0 v7 0) (v0 v7 1) v4 v12 → v15 = adP (v0 v7 0) (v0 v7 1) v4 v12 → v16 = ckZ (adZ (v0 v7 0) (v0 v7 1) v4 v12) (v0 v7 1) → 
                    (¬ (v16 = 0) →
                      (0 : Int) = rdN v0 v1 v2l v2f v3 v4 ∧ (∀ (i : Int) (f : Nat), 0 ≤ i → i < rdN v0 v1 v2l v2f v3 v4 → f < 2 → zA i f = rdA v0 v1 v2l v2f v3 v4 i f) ∧ v16 = rdE v0 v1 v2l v2f v3 v4 ∧ True) ∧
                    (¬ (¬ (v16 = 0)) →
                      ((v9 + 1) * 16) ≤ 140737488355328 ∧ (((v9 + 1) * 16) ≤ 140737488355328 →
                      (v9 + 1) ≤ 140737488355328 ∧ ((v9 + 1) ≤ 140737488355328 →
                      (-9223372036854775808 ≤ (v7 + 1) ∧ (v7 + 1) ≤ 9223372036854775807) ∧ ((-9223372036854775808 ≤ (v7 + 1) ∧ (v7 + 1) ≤ 9223372036854775807) →
                      I2 (v7 + 1) (appA v8 v9 (setA (setA zA 0 0 v14) 0 1 v15)) (v9 + 1) v16 ∧ μ2 (v7 + 1) (appA v8 v9 (setA (setA zA 0 0 v14) 0 1 v15)) (v9 + 1) v16 < μ2 v7 v8 v9 v10))))))))))))) ∧
              (¬ (v7 < v1) →
                v9 = rdN v0 v1 v2l v2f v3 v4 ∧ (∀ (i : Int) (f : Nat), 0 ≤ i → i < rdN v0 v1 v2l v2f v3 v4 → f < 2 → v8 i f = rdA v0 v1 v2l v2f v3 v4 i f) ∧ (0 : Int) = rdE v0 v1 v2l v2f v3 v4 ∧ True))))))) ∧
      (¬ (¬ ((((32 < v1 ∨ ¬ (v3 = v1)) ∨ v4 < 0) ∨ 1099511627776 < v4))) →
        (0 : Int) = rdN v0 v1 v2l v2f v3 v4 ∧ (∀ (i : Int) (f : Nat), 0 ≤ i → i < rdN v0 v1 v2l v2f v3 v4 → f < 2 → zA i f = rdA v0 v1 v2l v2f v3 v4 i f) ∧ (2 : Int) = rdE v0 v1 v2l v2f v3 v4 ∧ True)))))))
theorem vh10 (h : VC10) : VH10 := by
  unfold VH10
  rw [hidF_eq adO, hidF_eq adP, hidF_eq adZ, hidF_eq ckZ, hidF_eq rdA, hidF_eq rdE, hidF_eq rdN, hidF_eq tmZ]
  exact h
end Go.Proofs.Ytpbpmabnmakdoaa
