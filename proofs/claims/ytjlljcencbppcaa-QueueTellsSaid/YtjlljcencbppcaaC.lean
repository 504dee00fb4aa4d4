/- What the functions do, and what is left to show of each. -/
import Derived.Test.YtjlljcencbppcaaW
import Derived.Test.YtjlljcencbppcaaD
set_option linter.unusedVariables false
namespace Go.Proofs.Ytjlljcencbppcaa
open Go Go.RowKit Go.Proofs.Ytjlljcencbppcaa.Vc
/-- a function that the kernel does not open -/
noncomputable def hideS {α : Type} (x : α) : {y : α // y = x} := Classical.choice ⟨⟨x, rfl⟩⟩
noncomputable def hidF {α : Type} (x : α) : α := (hideS x).1
theorem hidF_eq {α : Type} (x : α) : hidF x = x := (hideS x).2
/-! queue.Check -/
def sig10 : CSig := ⟨[⟨true, [.slc [.int .i64, .int .i64, .int .i64], .int .i64, .int .i64]⟩], [⟨false, [.int .i64]⟩]⟩
def pre10 : List AV → Prop
  | [.a v0, .i v1, .i v2, .i v3] => True
  | _ => False
noncomputable def raw10 : List AV → List AV
  | [.a v0, .i v1, .i v2, .i v3] => [.i ((hidF ckQ) v0 v1 v2 v3)]
  | _ => []

def VH10 : Prop :=
  ∀ (v0 : Int → Nat → Int) (v1 : Int) (v2 : Int) (v3 : Int),
  (True) →
  (0 ≤ v1 →
  (v1 ≤ 9223372036854775807 →
  ((((((256 < v1 ∨ v2 < 0) ∨ 2199023255552 < v2) ∨ v3 < 0) ∨ 256 < v3) ∨ (v2 = 0 ∧ ¬ (v3 = 0))) →
    (8 : Int) = (hidF ckQ) v0 v1 v2 v3 ∧ True) ∧
  (¬ ((((((256 < v1 ∨ v2 < 0) ∨ 2199023255552 < v2) ∨ v3 < 0) ∨ 256 < v3) ∨ (v2 = 0 ∧ ¬ (v3 = 0)))) →
    ∃ (I0 : (Int) → (Int) → Prop) (μ0 : (Int) → (Int) → Nat), I0 (0 : Int) (0 : Int) ∧ (∀ (v4 : Int) (v5 : Int), I0 v4 v5 →
      (v5 < v1 →
        0 ≤ v5 ∧ (0 ≤ v5 →
        (((((v0 v5 2) < v4 ∨ 1099511627776 < (v0 v5 2)) ∨ (v0 v5 1) < 0) ∨ 2304 < (v0 v5 1)) →
          (8 : Int) = (hidF ckQ) v0 v1 v2 v3 ∧ True) ∧
        (¬ (((((v0 v5 2) < v4 ∨ 1099511627776 < (v0 v5 2)) ∨ (v0 v5 1) < 0) ∨ 2304 < (v0 v5 1))) →
          (-9223372036854775808 ≤ (v5 + 1) ∧ (v5 + 1) ≤ 9223372036854775807) ∧ ((-9223372036854775808 ≤ (v5 + 1) ∧ (v5 + 1) ≤ 9223372036854775807) →
          I0 (v0 v5 2) (v5 + 1) ∧ μ0 (v0 v5 2) (v5 + 1) < μ0 v4 v5)))) ∧
      (¬ (v5 < v1) →
        (0 : Int) = (hidF ckQ) v0 v1 v2 v3 ∧ True)))))
def VC10 : Prop :=
  ∀ (v0 : Int → Nat → Int) (v1 : Int) (v2 : Int) (v3 : Int),
  (True) →
  (0 ≤ v1 →
  (v1 ≤ 9223372036854775807 →
  ((((((256 < v1 ∨ v2 < 0) ∨ 2199023255552 < v2) ∨ v3 < 0) ∨ 256 < v3) ∨ (v2 = 0 ∧ ¬ (v3 = 0))) →
    (8 : Int) = ckQ v0 v1 v2 v3 ∧ True) ∧
  (¬ ((((((256 < v1 ∨ v2 < 0) ∨ 2199023255552 < v2) ∨ v3 < 0) ∨ 256 < v3) ∨ (v2 = 0 ∧ ¬ (v3 = 0)))) →
    ∃ (I0 : (Int) → (Int) → Prop) (μ0 : (Int) → (Int) → Nat), I0 (0 : Int) (0 : Int) ∧ (∀ (v4 : Int) (v5 : Int), I0 v4 v5 →
      (v5 < v1 →
        0 ≤ v5 ∧ (0 ≤ v5 →
        (((((v0 v5 2) < v4 ∨ 1099511627776 < (v0 v5 2)) ∨ (v0 v5 1) < 0) ∨ 2304 < (v0 v5 1)) →
          (8 : Int) = ckQ v0 v1 v2 v3 ∧ True) ∧
        (¬ (((((v0 v5 2) < v4 ∨ 1099511627776 < (v0 v5 2)) ∨ (v0 v5 1) < 0) ∨ 2304 < (v0 v5 1))) →
          (-9223372036854775808 ≤ (v5 + 1) ∧ (v5 + 1) ≤ 9223372036854775807) ∧ ((-9223372036854775808 ≤ (v5 + 1) ∧ (v5 + 1) ≤ 9223372036854775807) →
          I0 (v0 v5 2) (v5 + 1) ∧ μ0 (v0 v5 2) (v5 + 1) < μ0 v4 v5)))) ∧
      (¬ (v5 < v1) →
        (0 : Int) = ckQ v0 v1 v2 v3 ∧ True)))))
theorem vh10 (h : VC10) : VH10 := by
  unfold VH10
  rw [hidF_eq ckQ]
  exact h
/-! hotspotref43.Check -/
def sig20 : CSig := ⟨[⟨true, [.slc [.int .i64, .int .i64, .int .i64], .int .i64, .int .i64]⟩], [⟨false, [.int .i64]⟩]⟩
def pre20 : List AV → Prop
  | [.a v0, .i v1, .i v2, .i v3] => True
  | _ => False
noncomputable def raw20 : List AV → List AV
  | [.a v0, .i v1, .i v2, .i v3] => [.i ((hidF ckQ) v0 v1 v2 v3)]
  | _ => []

def VH20 : Prop :=
  ∀ (v0 : Int → Nat → Int) (v1 : Int) (v2 : Int) (v3 : Int),
  (True) →
  (0 ≤ v1 →
  (v1 ≤ 9223372036854775807 →
  ((((((256 < v1 ∨ v2 < 0) ∨ 2199023255552 < v2) ∨ v3 < 0) ∨ 256 < v3) ∨ (v2 = 0 ∧ 0 < v3)) →
    (8 : Int) = (hidF ckQ) v0 v1 v2 v3 ∧ True) ∧
  (¬ ((((((256 < v1 ∨ v2 < 0) ∨ 2199023255552 < v2) ∨ v3 < 0) ∨ 256 < v3) ∨ (v2 = 0 ∧ 0 < v3))) →
    ∃ (I0 : (Int) → Prop) (μ0 : (Int) → Nat), I0 (0 : Int) ∧ (∀ (v4 : Int), I0 v4 →
      (v4 < v1 →
        0 ≤ v4 ∧ (0 ≤ v4 →
        (¬ ((¬ (((((v0 v4 2) < 0 ∨ 1099511627776 < (v0 v4 2)) ∨ (v0 v4 1) < 0) ∨ 2304 < (v0 v4 1))) ∧ 0 < v4)) ∨ (-9223372036854775808 ≤ (v4 - 1) ∧ (v4 - 1) ≤ 9223372036854775807)) ∧ ((¬ ((¬ (((((v0 v4 2) < 0 ∨ 1099511627776 < (v0 v4 2)) ∨ (v0 v4 1) < 0) ∨ 2304 < (v0 v4 1))) ∧ 0 < v4)) ∨ (-9223372036854775808 ≤ (v4 - 1) ∧ (v4 - 1) ≤ 9223372036854775807)) →
        (¬ ((¬ (((((v0 v4 2) < 0 ∨ 1099511627776 < (v0 v4 2)) ∨ (v0 v4 1) < 0) ∨ 2304 < (v0 v4 1))) ∧ 0 < v4)) ∨ 0 ≤ (v4 - 1)) ∧ ((¬ ((¬ (((((v0 v4 2) < 0 ∨ 1099511627776 < (v0 v4 2)) ∨ (v0 v4 1) < 0) ∨ 2304 < (v0 v4 1))) ∧ 0 < v4)) ∨ 0 ≤ (v4 - 1)) →
        (¬ ((¬ (((((v0 v4 2) < 0 ∨ 1099511627776 < (v0 v4 2)) ∨ (v0 v4 1) < 0) ∨ 2304 < (v0 v4 1))) ∧ 0 < v4)) ∨ (v4 - 1) < v1) ∧ ((¬ ((¬ (((((v0 v4 2) < 0 ∨ 1099511627776 < (v0 v4 2)) ∨ (v0 v4 1) < 0) ∨ 2304 < (v0 v4 1))) ∧ 0 < v4)) ∨ (v4 - 1) < v1) →
        (¬ ((¬ (((((v0 v4 2) < 0 ∨ 1099511627776 < (v0 v4 2)) ∨ (v0 v4 1) < 0) ∨ 2304 < (v0 v4 1))) ∧ 0 < v4)) ∨ 0 ≤ (v4 - 1)) ∧ ((¬ ((¬ (((((v0 v4 2) < 0 ∨ 1099511627776 < (v0 v4 2)) ∨ (v0 v4 1) < 0) ∨ 2304 < (v0 v4 1))) ∧ 0 < v4)) ∨ 0 ≤ (v4 - 1)) →
        (¬ ((¬ (((((v0 v4 2) < 0 ∨ 1099511627776 < (v0 v4 2)) ∨ (v0 v4 1) < 0) ∨ 2304 < (v0 v4 1))) ∧ 0 < v4)) ∨ (v4 - 1) < v1) ∧ ((¬ ((¬ (((((v0 v4 2) < 0 ∨ 1099511627776 < (v0 v4 2)) ∨ (v0 v4 1) < 0) ∨ 2304 < (v0 v4 1))) ∧ 0 < v4)) ∨ (v4 - 1) < v1) →
        ((((((v0 v4 2) < 0 ∨ 1099511627776 < (v0 v4 2)) ∨ (v0 v4 1) < 0) ∨ 2304 < (v0 v4 1)) ∨ (0 < v4 ∧ (v0 v4 2) < (v0 (v4 - 1) 2))) →
          (8 : Int) = (hidF ckQ) v0 v1 v2 v3 ∧ True) ∧
        (¬ ((((((v0 v4 2) < 0 ∨ 1099511627776 < (v0 v4 2)) ∨ (v0 v4 1) < 0) ∨ 2304 < (v0 v4 1)) ∨ (0 < v4 ∧ (v0 v4 2) < (v0 (v4 - 1) 2)))) →
          (-9223372036854775808 ≤ (v4 + 1) ∧ (v4 + 1) ≤ 9223372036854775807) ∧ ((-9223372036854775808 ≤ (v4 + 1) ∧ (v4 + 1) ≤ 9223372036854775807) →
          I0 (v4 + 1) ∧ μ0 (v4 + 1) < μ0 v4))))))))) ∧
      (¬ (v4 < v1) →
        (0 : Int) = (hidF ckQ) v0 v1 v2 v3 ∧ True)))))
def VC20 : Prop :=
  ∀ (v0 : Int → Nat → Int) (v1 : Int) (v2 : Int) (v3 : Int),
  (True) →
  (0 ≤ v1 →
  (v1 ≤ 9223372036854775807 →
  ((((((256 < v1 ∨ v2 < 0) ∨ 2199023255552 < v2) ∨ v3 < 0) ∨ 256 < v3) ∨ (v2 = 0 ∧ 0 < v3)) →
    (8 : Int) = ckQ v0 v1 v2 v3 ∧ True) ∧
  (¬ ((((((256 < v1 ∨ v2 < 0) ∨ 2199023255552 < v2) ∨ v3 < 0) ∨ 256 < v3) ∨ (v2 = 0 ∧ 0 < v3))) →
    ∃ (I0 : (Int) → Prop) (μ0 : (Int) → Nat), I0 (0 : Int) ∧ (∀ (v4 : Int), I0 v4 →
      (v4 < v1 →
        0 ≤ v4 ∧ (0 ≤ v4 →
        (¬ ((¬ (((((v0 v4 2) < 0 ∨ 1099511627776 < (v0 v4 2)) ∨ (v0 v4 1) < 0) ∨ 2304 < (v0 v4 1))) ∧ 0 < v4)) ∨ (-9223372036854775808 ≤ (v4 - 1) ∧ (v4 - 1) ≤ 9223372036854775807)) ∧ ((¬ ((¬ (((((v0 v4 2) < 0 ∨ 1099511627776 < (v0 v4 2)) ∨ (v0 v4 1) < 0) ∨ 2304 < (v0 v4 1))) ∧ 0 < v4)) ∨ (-9223372036854775808 ≤ (v4 - 1) ∧ (v4 - 1) ≤ 9223372036854775807)) →
        (¬ ((¬ (((((v0 v4 2) < 0 ∨ 1099511627776 < (v0 v4 2)) ∨ (v0 v4 1) < 0) ∨ 2304 < (v0 v4 1))) ∧ 0 < v4)) ∨ 0 ≤ (v4 - 1)) ∧ ((¬ ((¬ (((((v0 v4 2) < 0 ∨ 1099511627776 < (v0 v4 2)) ∨ (v0 v4 1) < 0) ∨ 2304 < (v0 v4 1))) ∧ 0 < v4)) ∨ 0 ≤ (v4 - 1)) →
        (¬ ((¬ (((((v0 v4 2) < 0 ∨ 1099511627776 < (v0 v4 2)) ∨ (v0 v4 1) < 0) ∨ 2304 < (v0 v4 1))) ∧ 0 < v4)) ∨ (v4 - 1) < v1) ∧ ((¬ ((¬ (((((v0 v4 2) < 0 ∨ 1099511627776 < (v0 v4 2)) ∨ (v0 v4 1) < 0) ∨ 2304 < (v0 v4 1))) ∧ 0 < v4)) ∨ (v4 - 1) < v1) →
        (¬ ((¬ (((((v0 v4 2) < 0 ∨ 1099511627776 < (v0 v4 2)) ∨ (v0 v4 1) < 0) ∨ 2304 < (v0 v4 1))) ∧ 0 < v4)) ∨ 0 ≤ (v4 - 1)) ∧ ((¬ ((¬ (((((v0 v4 2) < 0 ∨ 1099511627776 < (v0 v4 2)) ∨ (v0 v4 1) < 0) ∨ 2304 < (v0 v4 1))) ∧ 0 < v4)) ∨ 0 ≤ (v4 - 1)) →
        (¬ ((¬ (((((v0 v4 2) < 0 ∨ 1099511627776 < (v0 v4 2)) ∨ (v0 v4 1) < 0) ∨ 2304 < (v0 v4 1))) ∧ 0 < v4)) ∨ (v4 - 1) < v1) ∧ ((¬ ((¬ (((((v0 v4 2) < 0 ∨ 1099511627776 < (v0 v4 2)) ∨ (v0 v4 1) < 0) ∨ 2304 < (v0 v4 1))) ∧ 0 < v4)) ∨ (v4 - 1) < v1) →
        ((((((v0 v4 2) < 0 ∨ 1099511627776 < (v0 v4 2)) ∨ (v0 v4 1) < 0) ∨ 2304 < (v0 v4 1)) ∨ (0 < v4 ∧ (v0 v4 2) < (v0 (v4 - 1) 2))) →
          (8 : Int) = ckQ v0 v1 v2 v3 ∧ True) ∧
        (¬ ((((((v0 v4 2) < 0 ∨ 1099511627776 < (v0 v4 2)) ∨ (v0 v4 1) < 0) ∨ 2304 < (v0 v4 1)) ∨ (0 < v4 ∧ (v0 v4 2) < (v0 (v4 - 1) 2)))) →
          (-9223372036854775808 ≤ (v4 + 1) ∧ (v4 + 1) ≤ 9223372036854775807) ∧ ((-9223372036854775808 ≤ (v4 + 1) ∧ (v4 + 1) ≤ 9223372036854775807) →
          I0 (v4 + 1) ∧ μ0 (v4 + 1) < μ0 v4))))))))) ∧
      (¬ (v4 < v1) →
        (0 : Int) = ckQ v0 v1 v2 v3 ∧ True)))))
theorem vh20 (h : VC20) : VH20 := by
  unfold VH20
  rw [hidF_eq ckQ]
  exact h
/-! queue.latest -/
def sig28 : CSig := ⟨[⟨true, [.slc [.int .i64, .int .i64, .int .i64], .int .i64, .int .i64]⟩], [⟨false, [.int .i64]⟩]⟩
def pre28 : List AV → Prop
  | [.a v0, .i v1, .i v2, .i v3] => True
  | _ => False
noncomputable def raw28 : List AV → List AV
  | [.a v0, .i v1, .i v2, .i v3] => [.i ((hidF ltQ) v0 v1)]
  | _ => []

def VH28 : Prop :=
  ∀ (v0 : Int → Nat → Int) (v1 : Int) (v2 : Int) (v3 : Int),
  (True) →
  (0 ≤ v1 →
  (v1 ≤ 9223372036854775807 →
  (v1 = 0 →
    (0 : Int) = (hidF ltQ) v0 v1 ∧ True) ∧
  (¬ (v1 = 0) →
    (-9223372036854775808 ≤ (v1 - 1) ∧ (v1 - 1) ≤ 9223372036854775807) ∧ ((-9223372036854775808 ≤ (v1 - 1) ∧ (v1 - 1) ≤ 9223372036854775807) →
    0 ≤ (v1 - 1) ∧ (0 ≤ (v1 - 1) →
    (v1 - 1) < v1 ∧ ((v1 - 1) < v1 →
    (v0 (v1 - 1) 2) = (hidF ltQ) v0 v1 ∧ True))))))
def VC28 : Prop :=
  ∀ (v0 : Int → Nat → Int) (v1 : Int) (v2 : Int) (v3 : Int),
  (True) →
  (0 ≤ v1 →
  (v1 ≤ 9223372036854775807 →
  (v1 = 0 →
    (0 : Int) = ltQ v0 v1 ∧ True) ∧
  (¬ (v1 = 0) →
    (-9223372036854775808 ≤ (v1 - 1) ∧ (v1 - 1) ≤ 9223372036854775807) ∧ ((-9223372036854775808 ≤ (v1 - 1) ∧ (v1 - 1) ≤ 9223372036854775807) →
    0 ≤ (v1 - 1) ∧ (0 ≤ (v1 - 1) →
    (v1 - 1) < v1 ∧ ((v1 - 1) < v1 →
    (v0 (v1 - 1) 2) = ltQ v0 v1 ∧ True))))))
theorem vh28 (h : VC28) : VH28 := by
  unfold VH28
  rw [hidF_eq ltQ]
  exact h
/-! queue.asked -/
def sig22 : CSig := ⟨[⟨true, [.slc [.int .i64, .int .i64, .int .i64], .int .i64, .int .i64]⟩, ⟨false, [.int .i64]⟩], [⟨false, [.int .i64]⟩]⟩
def pre22 : List AV → Prop
  | [.a v0, .i v1, .i v2, .i v3, .i v4] => True
  | _ => False
noncomputable def raw22 : List AV → List AV
  | [.a v0, .i v1, .i v2, .i v3, .i v4] => [.i ((hidF asE) v0 v1 v2 v3 v4)]
  | _ => []

def VH22 : Prop :=
  ∀ (v0 : Int → Nat → Int) (v1 : Int) (v2 : Int) (v3 : Int) (v4 : Int),
  (True) →
  (0 ≤ v1 →
  (True) ∧ (∀ (v5 : Int), v5 = (hidF ckQ) v0 v1 v2 v3 → 
  (v1 ≤ 9223372036854775807 →
  (¬ (v5 = 0) →
    v5 = (hidF asE) v0 v1 v2 v3 v4 ∧ True) ∧
  (¬ (¬ (v5 = 0)) →
    (True) ∧ (∀ (v6 : Int), v6 = (hidF ltQ) v0 v1 → 
    ((v4 < v6 ∨ 1099511627776 < v4) →
      (2 : Int) = (hidF asE) v0 v1 v2 v3 v4 ∧ True) ∧
    (¬ ((v4 < v6 ∨ 1099511627776 < v4)) →
      (0 : Int) = (hidF asE) v0 v1 v2 v3 v4 ∧ True))))))
def VC22 : Prop :=
  ∀ (v0 : Int → Nat → Int) (v1 : Int) (v2 : Int) (v3 : Int) (v4 : Int),
  (True) →
  (0 ≤ v1 →
  (True) ∧ (∀ (v5 : Int), v5 = ckQ v0 v1 v2 v3 → 
  (v1 ≤ 9223372036854775807 →
  (¬ (v5 = 0) →
    v5 = asE v0 v1 v2 v3 v4 ∧ True) ∧
  (¬ (¬ (v5 = 0)) →
    (True) ∧ (∀ (v6 : Int), v6 = ltQ v0 v1 → 
    ((v4 < v6 ∨ 1099511627776 < v4) →
      (2 : Int) = asE v0 v1 v2 v3 v4 ∧ True) ∧
    (¬ ((v4 < v6 ∨ 1099511627776 < v4)) →
      (0 : Int) = asE v0 v1 v2 v3 v4 ∧ True))))))
theorem vh22 (h : VC22) : VH22 := by
  unfold VH22
  rw [hidF_eq asE, hidF_eq ckQ, hidF_eq ltQ]
  exact h
/-! hotspotref43.When -/
def sig26 : CSig := ⟨[⟨true, [.slc [.int .i64, .int .i64, .int .i64], .int .i64, .int .i64]⟩, ⟨false, [.int .i64]⟩], [⟨false, [.bool]⟩]⟩
def pre26 : List AV → Prop
  | [.a v0, .i v1, .i v2, .i v3, .i v4] => True
  | _ => False
noncomputable def raw26 : List AV → List AV
  | [.a v0, .i v1, .i v2, .i v3, .i v4] => [.b (decide (0 ≤ v4 ∧ v4 ≤ 1099511627776 ∧ (v1 = 0 ∨ v0 (v1 - 1) 2 ≤ v4)))]
  | _ => []

def VH26 : Prop :=
  ∀ (v0 : Int → Nat → Int) (v1 : Int) (v2 : Int) (v3 : Int) (v4 : Int),
  (True) →
  (0 ≤ v1 →
  (v1 ≤ 9223372036854775807 →
  ((v4 < 0 ∨ 1099511627776 < v4) →
    (False ↔ decide (0 ≤ v4 ∧ v4 ≤ 1099511627776 ∧ (v1 = 0 ∨ v0 (v1 - 1) 2 ≤ v4)) = true) ∧ True) ∧
  (¬ ((v4 < 0 ∨ 1099511627776 < v4)) →
    (v1 = 0 ∨ (-9223372036854775808 ≤ (v1 - 1) ∧ (v1 - 1) ≤ 9223372036854775807)) ∧ ((v1 = 0 ∨ (-9223372036854775808 ≤ (v1 - 1) ∧ (v1 - 1) ≤ 9223372036854775807)) →
    (v1 = 0 ∨ 0 ≤ (v1 - 1)) ∧ ((v1 = 0 ∨ 0 ≤ (v1 - 1)) →
    (v1 = 0 ∨ (v1 - 1) < v1) ∧ ((v1 = 0 ∨ (v1 - 1) < v1) →
    (v1 = 0 ∨ 0 ≤ (v1 - 1)) ∧ ((v1 = 0 ∨ 0 ≤ (v1 - 1)) →
    (v1 = 0 ∨ (v1 - 1) < v1) ∧ ((v1 = 0 ∨ (v1 - 1) < v1) →
    ((v1 = 0 ∨ (v0 (v1 - 1) 2) ≤ v4) ↔ decide (0 ≤ v4 ∧ v4 ≤ 1099511627776 ∧ (v1 = 0 ∨ v0 (v1 - 1) 2 ≤ v4)) = true) ∧ True))))))))
def VC26 : Prop :=
  ∀ (v0 : Int → Nat → Int) (v1 : Int) (v2 : Int) (v3 : Int) (v4 : Int),
  (True) →
  (0 ≤ v1 →
  (v1 ≤ 9223372036854775807 →
  ((v4 < 0 ∨ 1099511627776 < v4) →
    (False ↔ decide (0 ≤ v4 ∧ v4 ≤ 1099511627776 ∧ (v1 = 0 ∨ v0 (v1 - 1) 2 ≤ v4)) = true) ∧ True) ∧
  (¬ ((v4 < 0 ∨ 1099511627776 < v4)) →
    (v1 = 0 ∨ (-9223372036854775808 ≤ (v1 - 1) ∧ (v1 - 1) ≤ 9223372036854775807)) ∧ ((v1 = 0 ∨ (-9223372036854775808 ≤ (v1 - 1) ∧ (v1 - 1) ≤ 9223372036854775807)) →
    (v1 = 0 ∨ 0 ≤ (v1 - 1)) ∧ ((v1 = 0 ∨ 0 ≤ (v1 - 1)) →
    (v1 = 0 ∨ (v1 - 1) < v1) ∧ ((v1 = 0 ∨ (v1 - 1) < v1) →
    (v1 = 0 ∨ 0 ≤ (v1 - 1)) ∧ ((v1 = 0 ∨ 0 ≤ (v1 - 1)) →
    (v1 = 0 ∨ (v1 - 1) < v1) ∧ ((v1 = 0 ∨ (v1 - 1) < v1) →
    ((v1 = 0 ∨ (v0 (v1 - 1) 2) ≤ v4) ↔ decide (0 ≤ v4 ∧ v4 ≤ 1099511627776 ∧ (v1 = 0 ∨ v0 (v1 - 1) 2 ≤ v4)) = true) ∧ True))))))))
theorem vh26 (h : VC26) : VH26 := by
  unfold VH26
  exact h
/-! queue.Put -/
def sig11 : CSig := ⟨[⟨true, [.slc [.int .i64, .int .i64, .int .i64], .int .i64, .int .i64]⟩, ⟨false, [.int .i64]⟩, ⟨false, [.int .i64]⟩, ⟨false, [.int .i64]⟩], [⟨true, [.slc [.int .i64, .int .i64, .int .i64], .int .i64, .int .i64]⟩, ⟨false, [.int .i64]⟩]⟩
def pre11 : List AV → Prop
  | [.a v0, .i v1, .i v2, .i v3, .i v4, .i v5, .i v6] => True
  | _ => False
noncomputable def raw11 : List AV → List AV
  | [.a v0, .i v1, .i v2, .i v3, .i v4, .i v5, .i v6] => [.a ((hidF puA) v0 v1 v4 v5 v6), .i ((hidF puN) v0 v1 v2 v3 v5 v6), .i ((hidF puU) v0 v1 v2 v3 v5 v6), .i ((hidF puK) v0 v1 v2 v3 v5 v6), .i ((hidF puE) v0 v1 v2 v3 v5 v6)]
  | _ => []

def VH11 : Prop :=
  ∀ (v0 : Int → Nat → Int) (v1 : Int) (v2 : Int) (v3 : Int) (v4 : Int) (v5 : Int) (v6 : Int),
  (True) →
  (0 ≤ v1 →
  (True) ∧ (∀ (v7 : Int), v7 = (hidF asE) v0 v1 v2 v3 v6 → 
  (v1 ≤ 9223372036854775807 →
  (v7 = 8 →
    (0 : Int) = (hidF puN) v0 v1 v2 v3 v5 v6 ∧ (∀ (i : Int) (f : Nat), 0 ≤ i → i < (hidF puN) v0 v1 v2 v3 v5 v6 → f < 3 → zA i f = (hidF puA) v0 v1 v4 v5 v6 i f) ∧ (0 : Int) = (hidF puU) v0 v1 v2 v3 v5 v6 ∧ (0 : Int) = (hidF puK) v0 v1 v2 v3 v5 v6 ∧ v7 = (hidF puE) v0 v1 v2 v3 v5 v6 ∧ True) ∧
  (¬ (v7 = 8) →
    (((¬ (v7 = 0) ∨ v5 < 0) ∨ 2304 < v5) →
      (0 : Int) = (hidF puN) v0 v1 v2 v3 v5 v6 ∧ (∀ (i : Int) (f : Nat), 0 ≤ i → i < (hidF puN) v0 v1 v2 v3 v5 v6 → f < 3 → zA i f = (hidF puA) v0 v1 v4 v5 v6 i f) ∧ (0 : Int) = (hidF puU) v0 v1 v2 v3 v5 v6 ∧ (0 : Int) = (hidF puK) v0 v1 v2 v3 v5 v6 ∧ (2 : Int) = (hidF puE) v0 v1 v2 v3 v5 v6 ∧ True) ∧
    (¬ (((¬ (v7 = 0) ∨ v5 < 0) ∨ 2304 < v5)) →
      (v1 = 256 →
        (0 : Int) = (hidF puN) v0 v1 v2 v3 v5 v6 ∧ (∀ (i : Int) (f : Nat), 0 ≤ i → i < (hidF puN) v0 v1 v2 v3 v5 v6 → f < 3 → zA i f = (hidF puA) v0 v1 v4 v5 v6 i f) ∧ (0 : Int) = (hidF puU) v0 v1 v2 v3 v5 v6 ∧ (0 : Int) = (hidF puK) v0 v1 v2 v3 v5 v6 ∧ (22 : Int) = (hidF puE) v0 v1 v2 v3 v5 v6 ∧ True) ∧
      (¬ (v1 = 256) →
        (∀ (v8 : Bool),
        ((¬ (v8 = true) ∨ v1 = 0) →
        (v8 = true →
          (1 : Int) = (hidF puN) v0 v1 v2 v3 v5 v6 ∧ (∀ (i : Int) (f : Nat), 0 ≤ i → i < (hidF puN) v0 v1 v2 v3 v5 v6 → f < 3 → (setA (setA (setA zA 0 0 v4) 0 1 v5) 0 2 v6) i f = (hidF puA) v0 v1 v4 v5 v6 i f) ∧ v2 = (hidF puU) v0 v1 v2 v3 v5 v6 ∧ v3 = (hidF puK) v0 v1 v2 v3 v5 v6 ∧ (0 : Int) = (hidF puE) v0 v1 v2 v3 v5 v6 ∧ True) ∧
        (¬ (v8 = true) →
          (v1 * 24) ≤ 140737488355328 ∧ ((v1 * 24) ≤ 140737488355328 →
          v1 ≤ 140737488355328 ∧ (v1 ≤ 140737488355328 →
          ((v1 + 1) * 24) ≤ 140737488355328 ∧ (((v1 + 1) * 24) ≤ 140737488355328 →
          (v1 + 1) ≤ 140737488355328 ∧ ((v1 + 1) ≤ 140737488355328 →
          (v1 + 1) = (hidF puN) v0 v1 v2 v3 v5 v6 ∧ (∀ (i : Int) (f : Nat), 0 ≤ i → i < (hidF puN) v0 v1 v2 v3 v5 v6 → f < 3 → (appA v0 v1 (setA (setA (setA zA 0 0 v4) 0 1 v5) 0 2 v6)) i f = (hidF puA) v0 v1 v4 v5 v6 i f) ∧ v2 = (hidF puU) v0 v1 v2 v3 v5 v6 ∧ v3 = (hidF puK) v0 v1 v2 v3 v5 v6 ∧ (0 : Int) = (hidF puE) v0 v1 v2 v3 v5 v6 ∧ True)))))))))))))
def VC11 : Prop :=
  ∀ (v0 : Int → Nat → Int) (v1 : Int) (v2 : Int) (v3 : Int) (v4 : Int) (v5 : Int) (v6 : Int),
  (True) →
  (0 ≤ v1 →
  (True) ∧ (∀ (v7 : Int), v7 = asE v0 v1 v2 v3 v6 → 
  (v1 ≤ 9223372036854775807 →
  (v7 = 8 →
    (0 : Int) = puN v0 v1 v2 v3 v5 v6 ∧ (∀ (i : Int) (f : Nat), 0 ≤ i → i < puN v0 v1 v2 v3 v5 v6 → f < 3 → zA i f = puA v0 v1 v4 v5 v6 i f) ∧ (0 : Int) = puU v0 v1 v2 v3 v5 v6 ∧ (0 : Int) = puK v0 v1 v2 v3 v5 v6 ∧ v7 = puE v0 v1 v2 v3 v5 v6 ∧ True) ∧
  (¬ (v7 = 8) →
    (((¬ (v7 = 0) ∨ v5 < 0) ∨ 2304 < v5) →
      (0 : Int) = puN v0 v1 v2 v3 v5 v6 ∧ (∀ (i : Int) (f : Nat), 0 ≤ i → i < puN v0 v1 v2 v3 v5 v6 → f < 3 → zA i f = puA v0 v1 v4 v5 v6 i f) ∧ (0 : Int) = puU v0 v1 v2 v3 v5 v6 ∧ (0 : Int) = puK v0 v1 v2 v3 v5 v6 ∧ (2 : Int) = puE v0 v1 v2 v3 v5 v6 ∧ True) ∧
    (¬ (((¬ (v7 = 0) ∨ v5 < 0) ∨ 2304 < v5)) →
      (v1 = 256 →
        (0 : Int) = puN v0 v1 v2 v3 v5 v6 ∧ (∀ (i : Int) (f : Nat), 0 ≤ i → i < puN v0 v1 v2 v3 v5 v6 → f < 3 → zA i f = puA v0 v1 v4 v5 v6 i f) ∧ (0 : Int) = puU v0 v1 v2 v3 v5 v6 ∧ (0 : Int) = puK v0 v1 v2 v3 v5 v6 ∧ (22 : Int) = puE v0 v1 v2 v3 v5 v6 ∧ True) ∧
      (¬ (v1 = 256) →
        (∀ (v8 : Bool),
        ((¬ (v8 = true) ∨ v1 = 0) →
        (v8 = true →
          (1 : Int) = puN v0 v1 v2 v3 v5 v6 ∧ (∀ (i : Int) (f : Nat), 0 ≤ i → i < puN v0 v1 v2 v3 v5 v6 → f < 3 → (setA (setA (setA zA 0 0 v4) 0 1 v5) 0 2 v6) i f = puA v0 v1 v4 v5 v6 i f) ∧ v2 = puU v0 v1 v2 v3 v5 v6 ∧ v3 = puK v0 v1 v2 v3 v5 v6 ∧ (0 : Int) = puE v0 v1 v2 v3 v5 v6 ∧ True) ∧
        (¬ (v8 = true) →
          (v1 * 24) ≤ 140737488355328 ∧ ((v1 * 24) ≤ 140737488355328 →
          v1 ≤ 140737488355328 ∧ (v1 ≤ 140737488355328 →
          ((v1 + 1) * 24) ≤ 140737488355328 ∧ (((v1 + 1) * 24) ≤ 140737488355328 →
          (v1 + 1) ≤ 140737488355328 ∧ ((v1 + 1) ≤ 140737488355328 →
          (v1 + 1) = puN v0 v1 v2 v3 v5 v6 ∧ (∀ (i : Int) (f : Nat), 0 ≤ i → i < puN v0 v1 v2 v3 v5 v6 → f < 3 → (appA v0 v1 (setA (setA (setA zA 0 0 v4) 0 1 v5) 0 2 v6)) i f = puA v0 v1 v4 v5 v6 i f) ∧ v2 = puU v0 v1 v2 v3 v5 v6 ∧ v3 = puK v0 v1 v2 v3 v5 v6 ∧ (0 : Int) = puE v0 v1 v2 v3 v5 v6 ∧ True)))))))))))))
theorem vh11 (h : VC11) : VH11 := by
  unfold VH11
  rw [hidF_eq asE, hidF_eq puA, hidF_eq puE, hidF_eq puK, hidF_eq puN, hidF_eq puU]
  exact h
/-! hotspotref43.Put -/
def sig17 : CSig := ⟨[⟨true, [.slc [.int .i64, .int .i64, .int .i64], .int .i64, .int .i64]⟩, ⟨false, [.int .i64]⟩, ⟨false, [.int .i64]⟩, ⟨false, [.int .i64]⟩], [⟨true, [.slc [.int .i64, .int .i64, .int .i64], .int .i64, .int .i64]⟩, ⟨false, [.int .i64]⟩]⟩
def pre17 : List AV → Prop
  | [.a v0, .i v1, .i v2, .i v3, .i v4, .i v5, .i v6] => True
  | _ => False
noncomputable def raw17 : List AV → List AV
  | [.a v0, .i v1, .i v2, .i v3, .i v4, .i v5, .i v6] => [.a ((hidF puA) v0 v1 v4 v5 v6), .i ((hidF puN) v0 v1 v2 v3 v5 v6), .i ((hidF puU) v0 v1 v2 v3 v5 v6), .i ((hidF puK) v0 v1 v2 v3 v5 v6), .i ((hidF puE) v0 v1 v2 v3 v5 v6)]
  | _ => []

def VH17 : Prop :=
  ∀ (v0 : Int → Nat → Int) (v1 : Int) (v2 : Int) (v3 : Int) (v4 : Int) (v5 : Int) (v6 : Int),
  (True) →
  (0 ≤ v1 →
  (True) ∧ (∀ (v7 : Int), v7 = (hidF ckQ) v0 v1 v2 v3 → 
  (v1 ≤ 9223372036854775807 →
  (¬ (v7 = 0) →
    (0 : Int) = (hidF puN) v0 v1 v2 v3 v5 v6 ∧ (∀ (i : Int) (f : Nat), 0 ≤ i → i < (hidF puN) v0 v1 v2 v3 v5 v6 → f < 3 → zA i f = (hidF puA) v0 v1 v4 v5 v6 i f) ∧ (0 : Int) = (hidF puU) v0 v1 v2 v3 v5 v6 ∧ (0 : Int) = (hidF puK) v0 v1 v2 v3 v5 v6 ∧ (8 : Int) = (hidF puE) v0 v1 v2 v3 v5 v6 ∧ True) ∧
  (¬ (¬ (v7 = 0)) →
    ((¬ ((v5 < 0 ∨ 2304 < v5)) → True)) ∧ (∀ (v8 : Bool), v8 = decide (0 ≤ v6 ∧ v6 ≤ 1099511627776 ∧ (v1 = 0 ∨ v0 (v1 - 1) 2 ≤ v6)) → 
    (((v5 < 0 ∨ 2304 < v5) ∨ ¬ (v8 = true)) →
      (0 : Int) = (hidF puN) v0 v1 v2 v3 v5 v6 ∧ (∀ (i : Int) (f : Nat), 0 ≤ i → i < (hidF puN) v0 v1 v2 v3 v5 v6 → f < 3 → zA i f = (hidF puA) v0 v1 v4 v5 v6 i f) ∧ (0 : Int) = (hidF puU) v0 v1 v2 v3 v5 v6 ∧ (0 : Int) = (hidF puK) v0 v1 v2 v3 v5 v6 ∧ (2 : Int) = (hidF puE) v0 v1 v2 v3 v5 v6 ∧ True) ∧
    (¬ (((v5 < 0 ∨ 2304 < v5) ∨ ¬ (v8 = true))) →
      (256 ≤ v1 →
        (0 : Int) = (hidF puN) v0 v1 v2 v3 v5 v6 ∧ (∀ (i : Int) (f : Nat), 0 ≤ i → i < (hidF puN) v0 v1 v2 v3 v5 v6 → f < 3 → zA i f = (hidF puA) v0 v1 v4 v5 v6 i f) ∧ (0 : Int) = (hidF puU) v0 v1 v2 v3 v5 v6 ∧ (0 : Int) = (hidF puK) v0 v1 v2 v3 v5 v6 ∧ (22 : Int) = (hidF puE) v0 v1 v2 v3 v5 v6 ∧ True) ∧
      (¬ (256 ≤ v1) →
        (v1 * 24) ≤ 140737488355328 ∧ ((v1 * 24) ≤ 140737488355328 →
        v1 ≤ 140737488355328 ∧ (v1 ≤ 140737488355328 →
        ((v1 + 1) * 24) ≤ 140737488355328 ∧ (((v1 + 1) * 24) ≤ 140737488355328 →
        (v1 + 1) ≤ 140737488355328 ∧ ((v1 + 1) ≤ 140737488355328 →
        (v1 + 1) = (hidF puN) v0 v1 v2 v3 v5 v6 ∧ (∀ (i : Int) (f : Nat), 0 ≤ i → i < (hidF puN) v0 v1 v2 v3 v5 v6 → f < 3 → (appA v0 v1 (setA (setA (setA zA 0 0 v4) 0 1 v5) 0 2 v6)) i f = (hidF puA) v0 v1 v4 v5 v6 i f) ∧ v2 = (hidF puU) v0 v1 v2 v3 v5 v6 ∧ v3 = (hidF puK) v0 v1 v2 v3 v5 v6 ∧ (0 : Int) = (hidF puE) v0 v1 v2 v3 v5 v6 ∧ True)))))))))))
def VC17 : Prop :=
  ∀ (v0 : Int → Nat → Int) (v1 : Int) (v2 : Int) (v3 : Int) (v4 : Int) (v5 : Int) (v6 : Int),
  (True) →
  (0 ≤ v1 →
  (True) ∧ (∀ (v7 : Int), v7 = ckQ v0 v1 v2 v3 → 
  (v1 ≤ 9223372036854775807 →
  (¬ (v7 = 0) →
    (0 : Int) = puN v0 v1 v2 v3 v5 v6 ∧ (∀ (i : Int) (f : Nat), 0 ≤ i → i < puN v0 v1 v2 v3 v5 v6 → f < 3 → zA i f = puA v0 v1 v4 v5 v6 i f) ∧ (0 : Int) = puU v0 v1 v2 v3 v5 v6 ∧ (0 : Int) = puK v0 v1 v2 v3 v5 v6 ∧ (8 : Int) = puE v0 v1 v2 v3 v5 v6 ∧ True) ∧
  (¬ (¬ (v7 = 0)) →
    ((¬ ((v5 < 0 ∨ 2304 < v5)) → True)) ∧ (∀ (v8 : Bool), v8 = decide (0 ≤ v6 ∧ v6 ≤ 1099511627776 ∧ (v1 = 0 ∨ v0 (v1 - 1) 2 ≤ v6)) → 
    (((v5 < 0 ∨ 2304 < v5) ∨ ¬ (v8 = true)) →
      (0 : Int) = puN v0 v1 v2 v3 v5 v6 ∧ (∀ (i : Int) (f : Nat), 0 ≤ i → i < puN v0 v1 v2 v3 v5 v6 → f < 3 → zA i f = puA v0 v1 v4 v5 v6 i f) ∧ (0 : Int) = puU v0 v1 v2 v3 v5 v6 ∧ (0 : Int) = puK v0 v1 v2 v3 v5 v6 ∧ (2 : Int) = puE v0 v1 v2 v3 v5 v6 ∧ True) ∧
    (¬ (((v5 < 0 ∨ 2304 < v5) ∨ ¬ (v8 = true))) →
      (256 ≤ v1 →
        (0 : Int) = puN v0 v1 v2 v3 v5 v6 ∧ (∀ (i : Int) (f : Nat), 0 ≤ i → i < puN v0 v1 v2 v3 v5 v6 → f < 3 → zA i f = puA v0 v1 v4 v5 v6 i f) ∧ (0 : Int) = puU v0 v1 v2 v3 v5 v6 ∧ (0 : Int) = puK v0 v1 v2 v3 v5 v6 ∧ (22 : Int) = puE v0 v1 v2 v3 v5 v6 ∧ True) ∧
      (¬ (256 ≤ v1) →
        (v1 * 24) ≤ 140737488355328 ∧ ((v1 * 24) ≤ 140737488355328 →
        v1 ≤ 140737488355328 ∧ (v1 ≤ 140737488355328 →
        ((v1 + 1) * 24) ≤ 140737488355328 ∧ (((v1 + 1) * 24) ≤ 140737488355328 →
        (v1 + 1) ≤ 140737488355328 ∧ ((v1 + 1) ≤ 140737488355328 →
        (v1 + 1) = puN v0 v1 v2 v3 v5 v6 ∧ (∀ (i : Int) (f : Nat), 0 ≤ i → i < puN v0 v1 v2 v3 v5 v6 → f < 3 → (appA v0 v1 (setA (setA (setA zA 0 0 v4) 0 1 v5) 0 2 v6)) i f = puA v0 v1 v4 v5 v6 i f) ∧ v2 = puU v0 v1 v2 v3 v5 v6 ∧ v3 = puK v0 v1 v2 v3 v5 v6 ∧ (0 : Int) = puE v0 v1 v2 v3 v5 v6 ∧ True)))))))))))
theorem vh17 (h : VC17) : VH17 := by
  unfold VH17
  rw [hidF_eq ckQ, hidF_eq puA, hidF_eq puE, hidF_eq puK, hidF_eq puN, hidF_eq puU]
  exact h
/-! queue.split[api.Item] -/
def sig24 : CSig := ⟨[⟨false, [.slc [.int .i64, .int .i64, .int .i64]]⟩, ⟨false, [.int .i64]⟩], [⟨false, [.slc [.int .i64, .int .i64, .int .i64]]⟩, ⟨false, [.slc [.int .i64, .int .i64, .int .i64]]⟩]⟩
def pre24 : List AV → Prop
  | [.a v0, .i v1, .i v2] => 0 ≤ v2 ∧ v1 ≤ 1000
  | _ => False
noncomputable def raw24 : List AV → List AV
  | [.a v0, .i v1, .i v2] => [.a (v0), .i (min v2 v1), .a (shA v0 (min v2 v1)), .i (v1 - min v2 v1)]
  | _ => []

def VH24 : Prop :=
  ∀ (v0 : Int → Nat → Int) (v1 : Int) (v2 : Int),
  (0 ≤ v2 ∧ v1 ≤ 1000) →
  (0 ≤ v1 →
  0 ≤ (min v2 v1) ∧ (0 ≤ (min v2 v1) →
  (min v2 v1) ≤ v1 ∧ ((min v2 v1) ≤ v1 →
  ((min v2 v1) * 24) ≤ 140737488355328 ∧ (((min v2 v1) * 24) ≤ 140737488355328 →
  (min v2 v1) ≤ 140737488355328 ∧ ((min v2 v1) ≤ 140737488355328 →
  v1 ≤ v1 ∧ (v1 ≤ v1 →
  ((min v2 v1) + (v1 - (min v2 v1))) ≤ v1 ∧ (((min v2 v1) + (v1 - (min v2 v1))) ≤ v1 →
  0 ≤ (v1 - (min v2 v1)) ∧ (0 ≤ (v1 - (min v2 v1)) →
  ((v1 - (min v2 v1)) * 24) ≤ 140737488355328 ∧ (((v1 - (min v2 v1)) * 24) ≤ 140737488355328 →
  (v1 - (min v2 v1)) ≤ 140737488355328 ∧ ((v1 - (min v2 v1)) ≤ 140737488355328 →
  (v1 ≤ 9223372036854775807 →
  ((min v2 v1) ≤ 9223372036854775807 →
  ((v1 - (min v2 v1)) ≤ 9223372036854775807 →
  (min v2 v1) = min v2 v1 ∧ (∀ (i : Int) (f : Nat), 0 ≤ i → i < min v2 v1 → f < 3 → v0 i f = v0 i f) ∧ (v1 - (min v2 v1)) = v1 - min v2 v1 ∧ (∀ (i : Int) (f : Nat), 0 ≤ i → i < v1 - min v2 v1 → f < 3 → (shA v0 (min v2 v1)) i f = shA v0 (min v2 v1) i f) ∧ True)))))))))))))
def VC24 : Prop :=
  ∀ (v0 : Int → Nat → Int) (v1 : Int) (v2 : Int),
  (0 ≤ v2 ∧ v1 ≤ 1000) →
  (0 ≤ v1 →
  0 ≤ (min v2 v1) ∧ (0 ≤ (min v2 v1) →
  (min v2 v1) ≤ v1 ∧ ((min v2 v1) ≤ v1 →
  ((min v2 v1) * 24) ≤ 140737488355328 ∧ (((min v2 v1) * 24) ≤ 140737488355328 →
  (min v2 v1) ≤ 140737488355328 ∧ ((min v2 v1) ≤ 140737488355328 →
  v1 ≤ v1 ∧ (v1 ≤ v1 →
  ((min v2 v1) + (v1 - (min v2 v1))) ≤ v1 ∧ (((min v2 v1) + (v1 - (min v2 v1))) ≤ v1 →
  0 ≤ (v1 - (min v2 v1)) ∧ (0 ≤ (v1 - (min v2 v1)) →
  ((v1 - (min v2 v1)) * 24) ≤ 140737488355328 ∧ (((v1 - (min v2 v1)) * 24) ≤ 140737488355328 →
  (v1 - (min v2 v1)) ≤ 140737488355328 ∧ ((v1 - (min v2 v1)) ≤ 140737488355328 →
  (v1 ≤ 9223372036854775807 →
  ((min v2 v1) ≤ 9223372036854775807 →
  ((v1 - (min v2 v1)) ≤ 9223372036854775807 →
  (min v2 v1) = min v2 v1 ∧ (∀ (i : Int) (f : Nat), 0 ≤ i → i < min v2 v1 → f < 3 → v0 i f = v0 i f) ∧ (v1 - (min v2 v1)) = v1 - min v2 v1 ∧ (∀ (i : Int) (f : Nat), 0 ≤ i → i < v1 - min v2 v1 → f < 3 → (shA v0 (min v2 v1)) i f = shA v0 (min v2 v1) i f) ∧ True)))))))))))))
theorem vh24 (h : VC24) : VH24 := by
  unfold VH24
  exact h
/-! queue.Take -/
def sig13 : CSig := ⟨[⟨true, [.slc [.int .i64, .int .i64, .int .i64], .int .i64, .int .i64]⟩, ⟨false, [.int .i64]⟩], [⟨true, [.slc [.int .i64, .int .i64, .int .i64], .int .i64, .int .i64]⟩, ⟨true, [.int .i64, .int .i64, .int .i64]⟩, ⟨false, [.bool]⟩, ⟨false, [.slc [.int .i64, .int .i64, .int .i64]]⟩, ⟨false, [.int .i64]⟩]⟩
def pre13 : List AV → Prop
  | [.a v0, .i v1, .i v2, .i v3, .i v4] => True
  | _ => False
noncomputable def raw13 : List AV → List AV
  | [.a v0, .i v1, .i v2, .i v3, .i v4] => [.a (shA v0 ((hidF tkD) v0 v1 v2 v3 v4 + 1)), .i ((hidF tkN) v0 v1 v2 v3 v4), .i ((hidF tkU) v0 v1 v2 v3 v4), .i ((hidF tkK) v0 v1 v2 v3 v4), .i ((hidF tkI) v0 v1 v2 v3 v4 0), .i ((hidF tkI) v0 v1 v2 v3 v4 1), .i ((hidF tkI) v0 v1 v2 v3 v4 2), .b (decide ((hidF tkG) v0 v1 v2 v3 v4 = 1)), .a (v0), .i ((hidF tkD) v0 v1 v2 v3 v4), .i ((hidF asE) v0 v1 v2 v3 v4)]
  | _ => []

def VH13 : Prop :=
  ∀ (v0 : Int → Nat → Int) (v1 : Int) (v2 : Int) (v3 : Int) (v4 : Int),
  (True) →
  (0 ≤ v1 →
  (True) ∧ (∀ (v5 : Int), v5 = (hidF asE) v0 v1 v2 v3 v4 → 
  (v1 ≤ 9223372036854775807 →
  (¬ (v5 = 0) →
    (0 : Int) = (hidF tkN) v0 v1 v2 v3 v4 ∧ (∀ (i : Int) (f : Nat), 0 ≤ i → i < (hidF tkN) v0 v1 v2 v3 v4 → f < 3 → zA i f = shA v0 ((hidF tkD) v0 v1 v2 v3 v4 + 1) i f) ∧ (0 : Int) = (hidF tkU) v0 v1 v2 v3 v4 ∧ (0 : Int) = (hidF tkK) v0 v1 v2 v3 v4 ∧ (0 : Int) = (hidF tkI) v0 v1 v2 v3 v4 0 ∧ (0 : Int) = (hidF tkI) v0 v1 v2 v3 v4 1 ∧ (0 : Int) = (hidF tkI) v0 v1 v2 v3 v4 2 ∧ (False ↔ decide ((hidF tkG) v0 v1 v2 v3 v4 = 1) = true) ∧ (0 : Int) = (hidF tkD) v0 v1 v2 v3 v4 ∧ (∀ (i : Int) (f : Nat), 0 ≤ i → i < (hidF tkD) v0 v1 v2 v3 v4 → f < 3 → zA i f = v0 i f) ∧ v5 = (hidF asE) v0 v1 v2 v3 v4 ∧ True) ∧
  (¬ (¬ (v5 = 0)) →
    (v1 = 0 →
      (0 : Int) = (hidF tkN) v0 v1 v2 v3 v4 ∧ (∀ (i : Int) (f : Nat), 0 ≤ i → i < (hidF tkN) v0 v1 v2 v3 v4 → f < 3 → zA i f = shA v0 ((hidF tkD) v0 v1 v2 v3 v4 + 1) i f) ∧ (0 : Int) = (hidF tkU) v0 v1 v2 v3 v4 ∧ (0 : Int) = (hidF tkK) v0 v1 v2 v3 v4 ∧ (0 : Int) = (hidF tkI) v0 v1 v2 v3 v4 0 ∧ (0 : Int) = (hidF tkI) v0 v1 v2 v3 v4 1 ∧ (0 : Int) = (hidF tkI) v0 v1 v2 v3 v4 2 ∧ (False ↔ decide ((hidF tkG) v0 v1 v2 v3 v4 = 1) = true) ∧ (0 : Int) = (hidF tkD) v0 v1 v2 v3 v4 ∧ (∀ (i : Int) (f : Nat), 0 ≤ i → i < (hidF tkD) v0 v1 v2 v3 v4 → f < 3 → zA i f = v0 i f) ∧ (0 : Int) = (hidF asE) v0 v1 v2 v3 v4 ∧ True) ∧
    (¬ (v1 = 0) →
      0 < v1 ∧ (0 < v1 →
      (-9223372036854775808 ≤ (v4 - (v0 0 2)) ∧ (v4 - (v0 0 2)) ≤ 9223372036854775807) ∧ ((-9223372036854775808 ≤ (v4 - (v0 0 2)) ∧ (v4 - (v0 0 2)) ≤ 9223372036854775807) →
      (¬ (5000 ≤ (v4 - (v0 0 2))) →
        (0 ≤ (1 : Int) ∧ v1 ≤ 1000) ∧ (∀ (v6 : Int → Nat → Int) (v7 : Int) (v8 : Int → Nat → Int) (v9 : Int), v6 = v0 → v7 = min (1 : Int) v1 → v8 = shA v0 (min (1 : Int) v1) → v9 = v1 - min (1 : Int) v1 → 
        (0 ≤ v7 →
        (0 ≤ v9 →
        (v7 ≤ 9223372036854775807 →
        (v9 ≤ 9223372036854775807 →
        (v7 = 0 →
          (0 : Int) = (hidF tkN) v0 v1 v2 v3 v4 ∧ (∀ (i : Int) (f : Nat), 0 ≤ i → i < (hidF tkN) v0 v1 v2 v3 v4 → f < 3 → zA i f = shA v0 ((hidF tkD) v0 v1 v2 v3 v4 + 1) i f) ∧ (0 : Int) = (hidF tkU) v0 v1 v2 v3 v4 ∧ (0 : Int) = (hidF tkK) v0 v1 v2 v3 v4 ∧ (0 : Int) = (hidF tkI) v0 v1 v2 v3 v4 0 ∧ (0 : Int) = (hidF tkI) v0 v1 v2 v3 v4 1 ∧ (0 : Int) = (hidF tkI) v0 v1 v2 v3 v4 2 ∧ (False ↔ decide ((hidF tkG) v0 v1 v2 v3 v4 = 1) = true) ∧ (0 : Int) = (hidF tkD) v0 v1 v2 v3 v4 ∧ (∀ (i : Int) (f : Nat), 0 ≤ i → i < (hidF tkD) v0 v1 v2 v3 v4 → f < 3 → zA i f = v0 i f) ∧ (0 : Int) = (hidF asE) v0 v1 v2 v3 v4 ∧ True) ∧
        (¬ (v7 = 0) →
          0 < v7 ∧ (0 < v7 →
          v9 = (hidF tkN) v0 v1 v2 v3 v4 ∧ (∀ (i : Int) (f : Nat), 0 ≤ i → i < (hidF tkN) v0 v1 v2 v3 v4 → f < 3 → v8 i f = shA v0 ((hidF tkD) v0 v1 v2 v3 v4 + 1) i f) ∧ (0 : Int) = (hidF tkU) v0 v1 v2 v3 v4 ∧ (0 : Int) = (hidF tkK) v0 v1 v2 v3 v4 ∧ (v6 0 0) = (hidF tkI) v0 v1 v2 v3 v4 0 ∧ (v6 0 1) = (hidF tkI) v0 v1 v2 v3 v4 1 ∧ (v6 0 2) = (hidF tkI) v0 v1 v2 v3 v4 2 ∧ (True ↔ decide ((hidF tkG) v0 v1 v2 v3 v4 = 1) = true) ∧ (0 : Int) = (hidF tkD) v0 v1 v2 v3 v4 ∧ (∀ (i : Int) (f : Nat), 0 ≤ i → i < (hidF tkD) v0 v1 v2 v3 v4 → f < 3 → zA i f = v0 i f) ∧ (0 : Int) = (hidF asE) v0 v1 v2 v3 v4 ∧ True)))))))) ∧
      (¬ (¬ (5000 ≤ (v4 - (v0 0 2)))) →
        (v2 = 0 →
          (-9223372036854775808 ≤ (v4 + 100000) ∧ (v4 + 100000) ≤ 9223372036854775807) ∧ ((-9223372036854775808 ≤ (v4 + 100000) ∧ (v4 + 100000) ≤ 9223372036854775807) →
          (0 ≤ (1 : Int) ∧ v1 ≤ 1000) ∧ (∀ (v6 : Int → Nat → Int) (v7 : Int) (v8 : Int → Nat → Int) (v9 : Int), v6 = v0 → v7 = min (1 : Int) v1 → v8 = shA v0 (min (1 : Int) v1) → v9 = v1 - min (1 : Int) v1 → 
          (0 ≤ v7 →
          (0 ≤ v9 →
          (v7 ≤ 9223372036854775807 →
          (v9 ≤ 9223372036854775807 →
          (v7 = 0 →
            (0 : Int) = (hidF tkN) v0 v1 v2 v3 v4 ∧ (∀ (i : Int) (f : Nat), 0 ≤ i → i < (hidF tkN) v0 v1 v2 v3 v4 → f < 3 → zA i f = shA v0 ((hidF tkD) v0 v1 v2 v3 v4 + 1) i f) ∧ (0 : Int) = (hidF tkU) v0 v1 v2 v3 v4 ∧ (0 : Int) = (hidF tkK) v0 v1 v2 v3 v4 ∧ (0 : Int) = (hidF tkI) v0 v1 v2 v3 v4 0 ∧ (0 : Int) = (hidF tkI) v0 v1 v2 v3 v4 1 ∧ (0 : Int) = (hidF tkI) v0 v1 v2 v3 v4 2 ∧ (False ↔ decide ((hidF tkG) v0 v1 v2 v3 v4 = 1) = true) ∧ (0 : Int) = (hidF tkD) v0 v1 v2 v3 v4 ∧ (∀ (i : Int) (f : Nat), 0 ≤ i → i < (hidF tkD) v0 v1 v2 v3 v4 → f < 3 → zA i f = v0 i f) ∧ (0 : Int) = (hidF asE) v0 v1 v2 v3 v4 ∧ True) ∧
          (¬ (v7 = 0) →
            0 < v7 ∧ (0 < v7 →
            v9 = (hidF tkN) v0 v1 v2 v3 v4 ∧ (∀ (i : Int) (f : Nat), 0 ≤ i → i < (hidF tkN) v0 v1 v2 v3 v4 → f < 3 → v8 i f = shA v0 ((hidF tkD) v0 v1 v2 v3 v4 + 1) i f) ∧ (v4 + 100000) = (hidF tkU) v0 v1 v2 v3 v4 ∧ v3 = (hidF tkK) v0 v1 v2 v3 v4 ∧ (v6 0 0) = (hidF tkI) v0 v1 v2 v3 v4 0 ∧ (v6 0 1) = (hidF tkI) v0 v1 v2 v3 v4 1 ∧ (v6 0 2) = (hidF tkI) v0 v1 v2 v3 v4 2 ∧ (True ↔ decide ((hidF tkG) v0 v1 v2 v3 v4 = 1) = true) ∧ (0 : Int) = (hidF tkD) v0 v1 v2 v3 v4 ∧ (∀ (i : Int) (f : Nat), 0 ≤ i → i < (hidF tkD) v0 v1 v2 v3 v4 → f < 3 → zA i f = v0 i f) ∧ (0 : Int) = (hidF asE) v0 v1 v2 v3 v4 ∧ True))))))))) ∧
        (¬ (v2 = 0) →
          (v2 ≤ v4 →
            (0 ≤ (1 : Int) ∧ v1 ≤ 1000) ∧ (∀ (v6 : Int → Nat → Int) (v7 : Int) (v8 : Int → Nat → Int) (v9 : Int), v6 = v0 → v7 = min (1 : Int) v1 → v8 = shA v0 (min (1 : Int) v1) → v9 = v1 - min (1 : Int) v1 → 
            (0 ≤ v7 →
            (0 ≤ v9 →
            (-9223372036854775808 ≤ (v3 + 1) ∧ (v3 + 1) ≤ 9223372036854775807) ∧ ((-9223372036854775808 ≤ (v3 + 1) ∧ (v3 + 1) ≤ 9223372036854775807) →
            (-9223372036854775808 ≤ ((min (v3 + 1) 256) + 1) ∧ ((min (v3 + 1) 256) + 1) ≤ 9223372036854775807) ∧ ((-9223372036854775808 ≤ ((min (v3 + 1) 256) + 1) ∧ ((min (v3 + 1) 256) + 1) ≤ 9223372036854775807) →
            ¬ (((min (v3 + 1) 256) + 1) = 0) ∧ (¬ (((min (v3 + 1) 256) + 1) = 0) →
            (-9223372036854775808 ≤ (Int.tdiv 100000 ((min (v3 + 1) 256) + 1)) ∧ (Int.tdiv 100000 ((min (v3 + 1) 256) + 1)) ≤ 9223372036854775807) ∧ ((-9223372036854775808 ≤ (Int.tdiv 100000 ((min (v3 + 1) 256) + 1)) ∧ (Int.tdiv 100000 ((min (v3 + 1) 256) + 1)) ≤ 9223372036854775807) →
            (-9223372036854775808 ≤ (v4 + (Int.tdiv 100000 ((min (v3 + 1) 256) + 1))) ∧ (v4 + (Int.tdiv 100000 ((min (v3 + 1) 256) + 1))) ≤ 9223372036854775807) ∧ ((-9223372036854775808 ≤ (v4 + (Int.tdiv 100000 ((min (v3 + 1) 256) + 1))) ∧ (v4 + (Int.tdiv 100000 ((min (v3 + 1) 256) + 1))) ≤ 9223372036854775807) →
            (0 ≤ (1 : Int) ∧ v9 ≤ 1000) ∧ (∀ (v10 : Int → Nat → Int) (v11 : Int) (v12 : Int → Nat → Int) (v13 : Int), v10 = v8 → v11 = min (1 : Int) v9 → v12 = shA v8 (min (1 : Int) v9) → v13 = v9 - min (1 : Int) v9 → 
            (v9 ≤ 9223372036854775807 →
            (0 ≤ v11 →
            (0 ≤ v13 →
            (v7 ≤ 9223372036854775807 →
            (v11 ≤ 9223372036854775807 →
            (v13 ≤ 9223372036854775807 →
            (v11 = 0 →
              (0 : Int) = (hidF tkN) v0 v1 v2 v3 v4 ∧ (∀ (i : Int) (f : Nat), 0 ≤ i → i < (hidF tkN) v0 v1 v2 v3 v4 → f < 3 → zA i f = shA v0 ((hidF tkD) v0 v1 v2 v3 v4 + 1) i f) ∧ (0 : Int) = (hidF tkU) v0 v1 v2 v3 v4 ∧ (0 : Int) = (hidF tkK) v0 v1 v2 v3 v4 ∧ (0 : Int) = (hidF tkI) v0 v1 v2 v3 v4 0 ∧ (0 : Int) = (hidF tkI) v0 v1 v2 v3 v4 1 ∧ (0 : Int) = (hidF tkI) v0 v1 v2 v3 v4 2 ∧ (False ↔ decide ((hidF tkG) v0 v1 v2 v3 v4 = 1) = true) ∧ v7 = (hidF tkD) v0 v1 v2 v3 v4 ∧ (∀ (i : Int) (f : Nat), 0 ≤ i → i < (hidF tkD) v0 v1 v2 v3 v4 → f < 3 → v6 i f = v0 i f) ∧ (0 : Int) = (hidF asE) v0 v1 v2 v3 v4 ∧ True) ∧
            (¬ (v11 = 0) →
              0 < v11 ∧ (0 < v11 →
              v13 = (hidF tkN) v0 v1 v2 v3 v4 ∧ (∀ (i : Int) (f : Nat), 0 ≤ i → i < (hidF tkN) v0 v1 v2 v3 v4 → f < 3 → v12 i f = shA v0 ((hidF tkD) v0 v1 v2 v3 v4 + 1) i f) ∧ (v4 + (Int.tdiv 100000 ((min (v3 + 1) 256) + 1))) = (hidF tkU) v0 v1 v2 v3 v4 ∧ (min (v3 + 1) 256) = (hidF tkK) v0 v1 v2 v3 v4 ∧ (v10 0 0) = (hidF tkI) v0 v1 v2 v3 v4 0 ∧ (v10 0 1) = (hidF tkI) v0 v1 v2 v3 v4 1 ∧ (v10 0 2) = (hidF tkI) v0 v1 v2 v3 v4 2 ∧ (True ↔ decide ((hidF tkG) v0 v1 v2 v3 v4 = 1) = true) ∧ v7 = (hidF tkD) v0 v1 v2 v3 v4 ∧ (∀ (i : Int) (f : Nat), 0 ≤ i → i < (hidF tkD) v0 v1 v2 v3 v4 → f < 3 → v6 i f = v0 i f) ∧ (0 : Int) = (hidF asE) v0 v1 v2 v3 v4 ∧ True)))))))))))))))))) ∧
          (¬ (v2 ≤ v4) →
            (0 ≤ (1 : Int) ∧ v1 ≤ 1000) ∧ (∀ (v6 : Int → Nat → Int) (v7 : Int) (v8 : Int → Nat → Int) (v9 : Int), v6 = v0 → v7 = min (1 : Int) v1 → v8 = shA v0 (min (1 : Int) v1) → v9 = v1 - min (1 : Int) v1 → 
            (0 ≤ v7 →
            (0 ≤ v9 →
            (v7 ≤ 9223372036854775807 →
            (v9 ≤ 9223372036854775807 →
            (v7 = 0 →
              (0 : Int) = (hidF tkN) v0 v1 v2 v3 v4 ∧ (∀ (i : Int) (f : Nat), 0 ≤ i → i < (hidF tkN) v0 v1 v2 v3 v4 → f < 3 → zA i f = shA v0 ((hidF tkD) v0 v1 v2 v3 v4 + 1) i f) ∧ (0 : Int) = (hidF tkU) v0 v1 v2 v3 v4 ∧ (0 : Int) = (hidF tkK) v0 v1 v2 v3 v4 ∧ (0 : Int) = (hidF tkI) v0 v1 v2 v3 v4 0 ∧ (0 : Int) = (hidF tkI) v0 v1 v2 v3 v4 1 ∧ (0 : Int) = (hidF tkI) v0 v1 v2 v3 v4 2 ∧ (False ↔ decide ((hidF tkG) v0 v1 v2 v3 v4 = 1) = true) ∧ (0 : Int) = (hidF tkD) v0 v1 v2 v3 v4 ∧ (∀ (i : Int) (f : Nat), 0 ≤ i → i < (hidF tkD) v0 v1 v2 v3 v4 → f < 3 → zA i f = v0 i f) ∧ (0 : Int) = (hidF asE) v0 v1 v2 v3 v4 ∧ True) ∧
            (¬ (v7 = 0) →
              0 < v7 ∧ (0 < v7 →
              v9 = (hidF tkN) v0 v1 v2 v3 v4 ∧ (∀ (i : Int) (f : Nat), 0 ≤ i → i < (hidF tkN) v0 v1 v2 v3 v4 → f < 3 → v8 i f = shA v0 ((hidF tkD) v0 v1 v2 v3 v4 + 1) i f) ∧ v2 = (hidF tkU) v0 v1 v2 v3 v4 ∧ v3 = (hidF tkK) v0 v1 v2 v3 v4 ∧ (v6 0 0) = (hidF tkI) v0 v1 v2 v3 v4 0 ∧ (v6 0 1) = (hidF tkI) v0 v1 v2 v3 v4 1 ∧ (v6 0 2) = (hidF tkI) v0 v1 v2 v3 v4 2 ∧ (True ↔ decide ((hidF tkG) v0 v1 v2 v3 v4 = 1) = true) ∧ (0 : Int) = (hidF tkD) v0 v1 v2 v3 v4 ∧ (∀ (i : Int) (f : Nat), 0 ≤ i → i < (hidF tkD) v0 v1 v2 v3 v4 → f < 3 → zA i f = v0 i f) ∧ (0 : Int) = (hidF asE) v0 v1 v2 v3 v4 ∧ True)))))))))))))))))
def VC13 : Prop :=
  ∀ (v0 : Int → Nat → Int) (v1 : Int) (v2 : Int) (v3 : Int) (v4 : Int),
  (True) →
  (0 ≤ v1 →
  (True) ∧ (∀ (v5 : Int), v5 = asE v0 v1 v2 v3 v4 → 
  (v1 ≤ 9223372036854775807 →
  (¬ (v5 = 0) →
    (0 : Int) = tkN v0 v1 v2 v3 v4 ∧ (∀ (i : Int) (f : Nat), 0 ≤ i → i < tkN v0 v1 v2 v3 v4 → f < 3 → zA i f = shA v0 (tkD v0 v1 v2 v3 v4 + 1) i f) ∧ (0 : Int) = tkU v0 v1 v2 v3 v4 ∧ (0 : Int) = tkK v0 v1 v2 v3 v4 ∧ (0 : Int) = tkI v0 v1 v2 v3 v4 0 ∧ (0 : Int) = tkI v0 v1 v2 v3 v4 1 ∧ (0 : Int) = tkI v0 v1 v2 v3 v4 2 ∧ (False ↔ decide (tkG v0 v1 v2 v3 v4 = 1) = true) ∧ (0 : Int) = tkD v0 v1 v2 v3 v4 ∧ (∀ (i : Int) (f : Nat), 0 ≤ i → i < tkD v0 v1 v2 v3 v4 → f < 3 → zA i f = v0 i f) ∧ v5 = asE v0 v1 v2 v3 v4 ∧ True) ∧
  (¬ (¬ (v5 = 0)) →
    (v1 = 0 →
      (0 : Int) = tkN v0 v1 v2 v3 v4 ∧ (∀ (i : Int) (f : Nat), 0 ≤ i → i < tkN v0 v1 v2 v3 v4 → f < 3 → zA i f = shA v0 (tkD v0 v1 v2 v3 v4 + 1) i f) ∧ (0 : Int) = tkU v0 v1 v2 v3 v4 ∧ (0 : Int) = tkK v0 v1 v2 v3 v4 ∧ (0 : Int) = tkI v0 v1 v2 v3 v4 0 ∧ (0 : Int) = tkI v0 v1 v2 v3 v4 1 ∧ (0 : Int) = tkI v0 v1 v2 v3 v4 2 ∧ (False ↔ decide (tkG v0 v1 v2 v3 v4 = 1) = true) ∧ (0 : Int) = tkD v0 v1 v2 v3 v4 ∧ (∀ (i : Int) (f : Nat), 0 ≤ i → i < tkD v0 v1 v2 v3 v4 → f < 3 → zA i f = v0 i f) ∧ (0 : Int) = asE v0 v1 v2 v3 v4 ∧ True) ∧
    (¬ (v1 = 0) →
      0 < v1 ∧ (0 < v1 →
      (-9223372036854775808 ≤ (v4 - (v0 0 2)) ∧ (v4 - (v0 0 2)) ≤ 9223372036854775807) ∧ ((-9223372036854775808 ≤ (v4 - (v0 0 2)) ∧ (v4 - (v0 0 2)) ≤ 9223372036854775807) →
      (¬ (5000 ≤ (v4 - (v0 0 2))) →
        (0 ≤ (1 : Int) ∧ v1 ≤ 1000) ∧ (∀ (v6 : Int → Nat → Int) (v7 : Int) (v8 : Int → Nat → Int) (v9 : Int), v6 = v0 → v7 = min (1 : Int) v1 → v8 = shA v0 (min (1 : Int) v1) → v9 = v1 - min (1 : Int) v1 → 
        (0 ≤ v7 →
        (0 ≤ v9 →
        (v7 ≤ 9223372036854775807 →
        (v9 ≤ 9223372036854775807 →
        (v7 = 0 →
          (0 : Int) = tkN v0 v1 v2 v3 v4 ∧ (∀ (i : Int) (f : Nat), 0 ≤ i → i < tkN v0 v1 v2 v3 v4 → f < 3 → zA i f = shA v0 (tkD v0 v1 v2 v3 v4 + 1) i f) ∧ (0 : Int) = tkU v0 v1 v2 v3 v4 ∧ (0 : Int) = tkK v0 v1 v2 v3 v4 ∧ (0 : Int) = tkI v0 v1 v2 v3 v4 0 ∧ (0 : Int) = tkI v0 v1 v2 v3 v4 1 ∧ (0 : Int) = tkI v0 v1 v2 v3 v4 2 ∧ (False ↔ decide (tkG v0 v1 v2 v3 v4 = 1) = true) ∧ (0 : Int) = tkD v0 v1 v2 v3 v4 ∧ (∀ (i : Int) (f : Nat), 0 ≤ i → i < tkD v0 v1 v2 v3 v4 → f < 3 → zA i f = v0 i f) ∧ (0 : Int) = asE v0 v1 v2 v3 v4 ∧ True) ∧
        (¬ (v7 = 0) →
          0 < v7 ∧ (0 < v7 →
          v9 = tkN v0 v1 v2 v3 v4 ∧ (∀ (i : Int) (f : Nat), 0 ≤ i → i < tkN v0 v1 v2 v3 v4 → f < 3 → v8 i f = shA v0 (tkD v0 v1 v2 v3 v4 + 1) i f) ∧ (0 : Int) = tkU v0 v1 v2 v3 v4 ∧ (0 : Int) = tkK v0 v1 v2 v3 v4 ∧ (v6 0 0) = tkI v0 v1 v2 v3 v4 0 ∧ (v6 0 1) = tkI v0 v1 v2 v3 v4 1 ∧ (v6 0 2) = tkI v0 v1 v2 v3 v4 2 ∧ (True ↔ decide (tkG v0 v1 v2 v3 v4 = 1) = true) ∧ (0 : Int) = tkD v0 v1 v2 v3 v4 ∧ (∀ (i : Int) (f : Nat), 0 ≤ i → i < tkD v0 v1 v2 v3 v4 → f < 3 → zA i f = v0 i f) ∧ (0 : Int) = asE v0 v1 v2 v3 v4 ∧ True)))))))) ∧
      (¬ (¬ (5000 ≤ (v4 - (v0 0 2)))) →
        (v2 = 0 →
          (-9223372036854775808 ≤ (v4 + 100000) ∧ (v4 + 100000) ≤ 9223372036854775807) ∧ ((-9223372036854775808 ≤ (v4 + 100000) ∧ (v4 + 100000) ≤ 9223372036854775807) →
          (0 ≤ (1 : Int) ∧ v1 ≤ 1000) ∧ (∀ (v6 : Int → Nat → Int) (v7 : Int) (v8 : Int → Nat → Int) (v9 : Int), v6 = v0 → v7 = min (1 : Int) v1 → v8 = shA v0 (min (1 : Int) v1) → v9 = v1 - min (1 : Int) v1 → 
          (0 ≤ v7 →
          (0 ≤ v9 →
          (v7 ≤ 9223372036854775807 →
          (v9 ≤ 9223372036854775807 →
          (v7 = 0 →
            (0 : Int) = tkN v0 v1 v2 v3 v4 ∧ (∀ (i : Int) (f : Nat), 0 ≤ i → i < tkN v0 v1 v2 v3 v4 → f < 3 → zA i f = shA v0 (tkD v0 v1 v2 v3 v4 + 1) i f) ∧ (0 : Int) = tkU v0 v1 v2 v3 v4 ∧ (0 : Int) = tkK v0 v1 v2 v3 v4 ∧ (0 : Int) = tkI v0 v1 v2 v3 v4 0 ∧ (0 : Int) = tkI v0 v1 v2 v3 v4 1 ∧ (0 : Int) = tkI v0 v1 v2 v3 v4 2 ∧ (False ↔ decide (tkG v0 v1 v2 v3 v4 = 1) = true) ∧ (0 : Int) = tkD v0 v1 v2 v3 v4 ∧ (∀ (i : Int) (f : Nat), 0 ≤ i → i < tkD v0 v1 v2 v3 v4 → f < 3 → zA i f = v0 i f) ∧ (0 : Int) = asE v0 v1 v2 v3 v4 ∧ True) ∧
          (¬ (v7 = 0) →
            0 < v7 ∧ (0 < v7 →
            v9 = tkN v0 v1 v2 v3 v4 ∧ (∀ (i : Int) (f : Nat), 0 ≤ i → i < tkN v0 v1 v2 v3 v4 → f < 3 → v8 i f = shA v0 (tkD v0 v1 v2 v3 v4 + 1) i f) ∧ (v4 + 100000) = tkU v0 v1 v2 v3 v4 ∧ v3 = tkK v0 v1 v2 v3 v4 ∧ (v6 0 0) = tkI v0 v1 v2 v3 v4 0 ∧ (v6 0 1) = tkI v0 v1 v2 v3 v4 1 ∧ (v6 0 2) = tkI v0 v1 v2 v3 v4 2 ∧ (True ↔ decide (tkG v0 v1 v2 v3 v4 = 1) = true) ∧ (0 : Int) = tkD v0 v1 v2 v3 v4 ∧ (∀ (i : Int) (f : Nat), 0 ≤ i → i < tkD v0 v1 v2 v3 v4 → f < 3 → zA i f = v0 i f) ∧ (0 : Int) = asE v0 v1 v2 v3 v4 ∧ True))))))))) ∧
        (¬ (v2 = 0) →
          (v2 ≤ v4 →
            (0 ≤ (1 : Int) ∧ v1 ≤ 1000) ∧ (∀ (v6 : Int → Nat → Int) (v7 : Int) (v8 : Int → Nat → Int) (v9 : Int), v6 = v0 → v7 = min (1 : Int) v1 → v8 = shA v0 (min (1 : Int) v1) → v9 = v1 - min (1 : Int) v1 → 
            (0 ≤ v7 →
            (0 ≤ v9 →
            (-9223372036854775808 ≤ (v3 + 1) ∧ (v3 + 1) ≤ 9223372036854775807) ∧ ((-9223372036854775808 ≤ (v3 + 1) ∧ (v3 + 1) ≤ 9223372036854775807) →
            (-9223372036854775808 ≤ ((min (v3 + 1) 256) + 1) ∧ ((min (v3 + 1) 256) + 1) ≤ 9223372036854775807) ∧ ((-9223372036854775808 ≤ ((min (v3 + 1) 256) + 1) ∧ ((min (v3 + 1) 256) + 1) ≤ 9223372036854775807) →
            ¬ (((min (v3 + 1) 256) + 1) = 0) ∧ (¬ (((min (v3 + 1) 256) + 1) = 0) →
            (-9223372036854775808 ≤ (Int.tdiv 100000 ((min (v3 + 1) 256) + 1)) ∧ (Int.tdiv 100000 ((min (v3 + 1) 256) + 1)) ≤ 9223372036854775807) ∧ ((-9223372036854775808 ≤ (Int.tdiv 100000 ((min (v3 + 1) 256) + 1)) ∧ (Int.tdiv 100000 ((min (v3 + 1) 256) + 1)) ≤ 9223372036854775807) →
            (-9223372036854775808 ≤ (v4 + (Int.tdiv 100000 ((min (v3 + 1) 256) + 1))) ∧ (v4 + (Int.tdiv 100000 ((min (v3 + 1) 256) + 1))) ≤ 9223372036854775807) ∧ ((-9223372036854775808 ≤ (v4 + (Int.tdiv 100000 ((min (v3 + 1) 256) + 1))) ∧ (v4 + (Int.tdiv 100000 ((min (v3 + 1) 256) + 1))) ≤ 9223372036854775807) →
            (0 ≤ (1 : Int) ∧ v9 ≤ 1000) ∧ (∀ (v10 : Int → Nat → Int) (v11 : Int) (v12 : Int → Nat → Int) (v13 : Int), v10 = v8 → v11 = min (1 : Int) v9 → v12 = shA v8 (min (1 : Int) v9) → v13 = v9 - min (1 : Int) v9 → 
            (v9 ≤ 9223372036854775807 →
            (0 ≤ v11 →
            (0 ≤ v13 →
            (v7 ≤ 9223372036854775807 →
            (v11 ≤ 9223372036854775807 →
            (v13 ≤ 9223372036854775807 →
            (v11 = 0 →
              (0 : Int) = tkN v0 v1 v2 v3 v4 ∧ (∀ (i : Int) (f : Nat), 0 ≤ i → i < tkN v0 v1 v2 v3 v4 → f < 3 → zA i f = shA v0 (tkD v0 v1 v2 v3 v4 + 1) i f) ∧ (0 : Int) = tkU v0 v1 v2 v3 v4 ∧ (0 : Int) = tkK v0 v1 v2 v3 v4 ∧ (0 : Int) = tkI v0 v1 v2 v3 v4 0 ∧ (0 : Int) = tkI v0 v1 v2 v3 v4 1 ∧ (0 : Int) = tkI v0 v1 v2 v3 v4 2 ∧ (False ↔ decide (tkG v0 v1 v2 v3 v4 = 1) = true) ∧ v7 = tkD v0 v1 v2 v3 v4 ∧ (∀ (i : Int) (f : Nat), 0 ≤ i → i < tkD v0 v1 v2 v3 v4 → f < 3 → v6 i f = v0 i f) ∧ (0 : Int) = asE v0 v1 v2 v3 v4 ∧ True) ∧
            (¬ (v11 = 0) →
              0 < v11 ∧ (0 < v11 →
              v13 = tkN v0 v1 v2 v3 v4 ∧ (∀ (i : Int) (f : Nat), 0 ≤ i → i < tkN v0 v1 v2 v3 v4 → f < 3 → v12 i f = shA v0 (tkD v0 v1 v2 v3 v4 + 1) i f) ∧ (v4 + (Int.tdiv 100000 ((min (v3 + 1) 256) + 1))) = tkU v0 v1 v2 v3 v4 ∧ (min (v3 + 1) 256) = tkK v0 v1 v2 v3 v4 ∧ (v10 0 0) = tkI v0 v1 v2 v3 v4 0 ∧ (v10 0 1) = tkI v0 v1 v2 v3 v4 1 ∧ (v10 0 2) = tkI v0 v1 v2 v3 v4 2 ∧ (True ↔ decide (tkG v0 v1 v2 v3 v4 = 1) = true) ∧ v7 = tkD v0 v1 v2 v3 v4 ∧ (∀ (i : Int) (f : Nat), 0 ≤ i → i < tkD v0 v1 v2 v3 v4 → f < 3 → v6 i f = v0 i f) ∧ (0 : Int) = asE v0 v1 v2 v3 v4 ∧ True)))))))))))))))))) ∧
          (¬ (v2 ≤ v4) →
            (0 ≤ (1 : Int) ∧ v1 ≤ 1000) ∧ (∀ (v6 : Int → Nat → Int) (v7 : Int) (v8 : Int → Nat → Int) (v9 : Int), v6 = v0 → v7 = min (1 : Int) v1 → v8 = shA v0 (min (1 : Int) v1) → v9 = v1 - min (1 : Int) v1 → 
            (0 ≤ v7 →
            (0 ≤ v9 →
            (v7 ≤ 9223372036854775807 →
            (v9 ≤ 9223372036854775807 →
            (v7 = 0 →
              (0 : Int) = tkN v0 v1 v2 v3 v4 ∧ (∀ (i : Int) (f : Nat), 0 ≤ i → i < tkN v0 v1 v2 v3 v4 → f < 3 → zA i f = shA v0 (tkD v0 v1 v2 v3 v4 + 1) i f) ∧ (0 : Int) = tkU v0 v1 v2 v3 v4 ∧ (0 : Int) = tkK v0 v1 v2 v3 v4 ∧ (0 : Int) = tkI v0 v1 v2 v3 v4 0 ∧ (0 : Int) = tkI v0 v1 v2 v3 v4 1 ∧ (0 : Int) = tkI v0 v1 v2 v3 v4 2 ∧ (False ↔ decide (tkG v0 v1 v2 v3 v4 = 1) = true) ∧ (0 : Int) = tkD v0 v1 v2 v3 v4 ∧ (∀ (i : Int) (f : Nat), 0 ≤ i → i < tkD v0 v1 v2 v3 v4 → f < 3 → zA i f = v0 i f) ∧ (0 : Int) = asE v0 v1 v2 v3 v4 ∧ True) ∧
            (¬ (v7 = 0) →
              0 < v7 ∧ (0 < v7 →
              v9 = tkN v0 v1 v2 v3 v4 ∧ (∀ (i : Int) (f : Nat), 0 ≤ i → i < tkN v0 v1 v2 v3 v4 → f < 3 → v8 i f = shA v0 (tkD v0 v1 v2 v3 v4 + 1) i f) ∧ v2 = tkU v0 v1 v2 v3 v4 ∧ v3 = tkK v0 v1 v2 v3 v4 ∧ (v6 0 0) = tkI v0 v1 v2 v3 v4 0 ∧ (v6 0 1) = tkI v0 v1 v2 v3 v4 1 ∧ (v6 0 2) = tkI v0 v1 v2 v3 v4 2 ∧ (True ↔ decide (tkG v0 v1 v2 v3 v4 = 1) = true) ∧ (0 : Int) = tkD v0 v1 v2 v3 v4 ∧ (∀ (i : Int) (f : Nat), 0 ≤ i → i < tkD v0 v1 v2 v3 v4 → f < 3 → zA i f = v0 i f) ∧ (0 : Int) = asE v0 v1 v2 v3 v4 ∧ True)))))))))))))))))
theorem vh13 (h : VC13) : VH13 := by
  unfold VH13
  rw [hidF_eq asE, hidF_eq tkD, hidF_eq tkG, hidF_eq tkI, hidF_eq tkK, hidF_eq tkN, hidF_eq tkU]
  exact h
/-! hotspotref43.Take -/
def sig18 : CSig := ⟨[⟨true, [.slc [.int .i64, .int .i64, .int .i64], .int .i64, .int .i64]⟩, ⟨false, [.int .i64]⟩], [⟨true, [.slc [.int .i64, .int .i64, .int .i64], .int .i64, .int .i64]⟩, ⟨false, [.slc [.int .i64, .int .i64, .int .i64]]⟩, ⟨false, [.slc [.int .i64, .int .i64, .int .i64]]⟩, ⟨false, [.int .i64]⟩]⟩
def pre18 : List AV → Prop
  | [.a v0, .i v1, .i v2, .i v3, .i v4] => True
  | _ => False
noncomputable def raw18 : List AV → List AV
  | [.a v0, .i v1, .i v2, .i v3, .i v4] => [.a (shA v0 ((hidF tkD) v0 v1 v2 v3 v4 + 1)), .i ((hidF tkN) v0 v1 v2 v3 v4), .i ((hidF tkU) v0 v1 v2 v3 v4), .i ((hidF tkK) v0 v1 v2 v3 v4), .a ((fun _ f => (hidF tkI) v0 v1 v2 v3 v4 f)), .i ((hidF tkG) v0 v1 v2 v3 v4), .a (v0), .i ((hidF tkD) v0 v1 v2 v3 v4), .i ((hidF asE) v0 v1 v2 v3 v4)]
  | _ => []

def VH18 : Prop :=
  ∀ (v0 : Int → Nat → Int) (v1 : Int) (v2 : Int) (v3 : Int) (v4 : Int),
  (True) →
  (0 ≤ v1 →
  (True) ∧ (∀ (v5 : Int), v5 = (hidF ckQ) v0 v1 v2 v3 → 
  (v1 ≤ 9223372036854775807 →
  (¬ (v5 = 0) →
    (0 : Int) = (hidF tkN) v0 v1 v2 v3 v4 ∧ (∀ (i : Int) (f : Nat), 0 ≤ i → i < (hidF tkN) v0 v1 v2 v3 v4 → f < 3 → zA i f = shA v0 ((hidF tkD) v0 v1 v2 v3 v4 + 1) i f) ∧ (0 : Int) = (hidF tkU) v0 v1 v2 v3 v4 ∧ (0 : Int) = (hidF tkK) v0 v1 v2 v3 v4 ∧ (0 : Int) = (hidF tkG) v0 v1 v2 v3 v4 ∧ (∀ (i : Int) (f : Nat), 0 ≤ i → i < (hidF tkG) v0 v1 v2 v3 v4 → f < 3 → zA i f = (fun _ f => (hidF tkI) v0 v1 v2 v3 v4 f) i f) ∧ (0 : Int) = (hidF tkD) v0 v1 v2 v3 v4 ∧ (∀ (i : Int) (f : Nat), 0 ≤ i → i < (hidF tkD) v0 v1 v2 v3 v4 → f < 3 → zA i f = v0 i f) ∧ (8 : Int) = (hidF asE) v0 v1 v2 v3 v4 ∧ True) ∧
  (¬ (¬ (v5 = 0)) →
    (True) ∧ (∀ (v6 : Bool), v6 = decide (0 ≤ v4 ∧ v4 ≤ 1099511627776 ∧ (v1 = 0 ∨ v0 (v1 - 1) 2 ≤ v4)) → 
    (¬ (v6 = true) →
      (0 : Int) = (hidF tkN) v0 v1 v2 v3 v4 ∧ (∀ (i : Int) (f : Nat), 0 ≤ i → i < (hidF tkN) v0 v1 v2 v3 v4 → f < 3 → zA i f = shA v0 ((hidF tkD) v0 v1 v2 v3 v4 + 1) i f) ∧ (0 : Int) = (hidF tkU) v0 v1 v2 v3 v4 ∧ (0 : Int) = (hidF tkK) v0 v1 v2 v3 v4 ∧ (0 : Int) = (hidF tkG) v0 v1 v2 v3 v4 ∧ (∀ (i : Int) (f : Nat), 0 ≤ i → i < (hidF tkG) v0 v1 v2 v3 v4 → f < 3 → zA i f = (fun _ f => (hidF tkI) v0 v1 v2 v3 v4 f) i f) ∧ (0 : Int) = (hidF tkD) v0 v1 v2 v3 v4 ∧ (∀ (i : Int) (f : Nat), 0 ≤ i → i < (hidF tkD) v0 v1 v2 v3 v4 → f < 3 → zA i f = v0 i f) ∧ (2 : Int) = (hidF asE) v0 v1 v2 v3 v4 ∧ True) ∧
    (¬ (¬ (v6 = true)) →
      (v1 = 0 →
        (0 : Int) = (hidF tkN) v0 v1 v2 v3 v4 ∧ (∀ (i : Int) (f : Nat), 0 ≤ i → i < (hidF tkN) v0 v1 v2 v3 v4 → f < 3 → zA i f = shA v0 ((hidF tkD) v0 v1 v2 v3 v4 + 1) i f) ∧ (0 : Int) = (hidF tkU) v0 v1 v2 v3 v4 ∧ (0 : Int) = (hidF tkK) v0 v1 v2 v3 v4 ∧ (0 : Int) = (hidF tkG) v0 v1 v2 v3 v4 ∧ (∀ (i : Int) (f : Nat), 0 ≤ i → i < (hidF tkG) v0 v1 v2 v3 v4 → f < 3 → zA i f = (fun _ f => (hidF tkI) v0 v1 v2 v3 v4 f) i f) ∧ (0 : Int) = (hidF tkD) v0 v1 v2 v3 v4 ∧ (∀ (i : Int) (f : Nat), 0 ≤ i → i < (hidF tkD) v0 v1 v2 v3 v4 → f < 3 → zA i f = v0 i f) ∧ (0 : Int) = (hidF asE) v0 v1 v2 v3 v4 ∧ True) ∧
      (¬ (v1 = 0) →
        0 < v1 ∧ (0 < v1 →
        (-9223372036854775808 ≤ (v4 - (v0 0 2)) ∧ (v4 - (v0 0 2)) ≤ 9223372036854775807) ∧ ((-9223372036854775808 ≤ (v4 - (v0 0 2)) ∧ (v4 - (v0 0 2)) ≤ 9223372036854775807) →
        ((v4 - (v0 0 2)) < 5000 →
          (0 = v1 →
            (0 : Int) = (hidF tkN) v0 v1 v2 v3 v4 ∧ (∀ (i : Int) (f : Nat), 0 ≤ i → i < (hidF tkN) v0 v1 v2 v3 v4 → f < 3 → zA i f = shA v0 ((hidF tkD) v0 v1 v2 v3 v4 + 1) i f) ∧ (0 : Int) = (hidF tkU) v0 v1 v2 v3 v4 ∧ (0 : Int) = (hidF tkK) v0 v1 v2 v3 v4 ∧ (0 : Int) = (hidF tkG) v0 v1 v2 v3 v4 ∧ (∀ (i : Int) (f : Nat), 0 ≤ i → i < (hidF tkG) v0 v1 v2 v3 v4 → f < 3 → zA i f = (fun _ f => (hidF tkI) v0 v1 v2 v3 v4 f) i f) ∧ (0 : Int) = (hidF tkD) v0 v1 v2 v3 v4 ∧ (∀ (i : Int) (f : Nat), 0 ≤ i → i < (hidF tkD) v0 v1 v2 v3 v4 → f < 3 → v0 i f = v0 i f) ∧ (0 : Int) = (hidF asE) v0 v1 v2 v3 v4 ∧ True) ∧
          (¬ (0 = v1) →
            1 ≤ v1 ∧ (1 ≤ v1 →
            v1 ≤ v1 ∧ (v1 ≤ v1 →
            (1 + (v1 - 1)) ≤ v1 ∧ ((1 + (v1 - 1)) ≤ v1 →
            0 ≤ (v1 - 1) ∧ (0 ≤ (v1 - 1) →
            ((v1 - 1) * 24) ≤ 140737488355328 ∧ (((v1 - 1) * 24) ≤ 140737488355328 →
            (v1 - 1) ≤ 140737488355328 ∧ ((v1 - 1) ≤ 140737488355328 →
            ((v1 - 1) ≤ 9223372036854775807 →
            (v1 - 1) = (hidF tkN) v0 v1 v2 v3 v4 ∧ (∀ (i : Int) (f : Nat), 0 ≤ i → i < (hidF tkN) v0 v1 v2 v3 v4 → f < 3 → (shA v0 1) i f = shA v0 ((hidF tkD) v0 v1 v2 v3 v4 + 1) i f) ∧ (0 : Int) = (hidF tkU) v0 v1 v2 v3 v4 ∧ (0 : Int) = (hidF tkK) v0 v1 v2 v3 v4 ∧ (1 : Int) = (hidF tkG) v0 v1 v2 v3 v4 ∧ (∀ (i : Int) (f : Nat), 0 ≤ i → i < (hidF tkG) v0 v1 v2 v3 v4 → f < 3 → (setA (setA (setA zA 0 0 (v0 0 0)) 0 1 (v0 0 1)) 0 2 (v0 0 2)) i f = (fun _ f => (hidF tkI) v0 v1 v2 v3 v4 f) i f) ∧ (0 : Int) = (hidF tkD) v0 v1 v2 v3 v4 ∧ (∀ (i : Int) (f : Nat), 0 ≤ i → i < (hidF tkD) v0 v1 v2 v3 v4 → f < 3 → v0 i f = v0 i f) ∧ (0 : Int) = (hidF asE) v0 v1 v2 v3 v4 ∧ True))))))))) ∧
        (¬ ((v4 - (v0 0 2)) < 5000) →
          (v2 = 0 →
            (-9223372036854775808 ≤ (v4 + 100000) ∧ (v4 + 100000) ≤ 9223372036854775807) ∧ ((-9223372036854775808 ≤ (v4 + 100000) ∧ (v4 + 100000) ≤ 9223372036854775807) →
            (0 = v1 →
              (0 : Int) = (hidF tkN) v0 v1 v2 v3 v4 ∧ (∀ (i : Int) (f : Nat), 0 ≤ i → i < (hidF tkN) v0 v1 v2 v3 v4 → f < 3 → zA i f = shA v0 ((hidF tkD) v0 v1 v2 v3 v4 + 1) i f) ∧ (0 : Int) = (hidF tkU) v0 v1 v2 v3 v4 ∧ (0 : Int) = (hidF tkK) v0 v1 v2 v3 v4 ∧ (0 : Int) = (hidF tkG) v0 v1 v2 v3 v4 ∧ (∀ (i : Int) (f : Nat), 0 ≤ i → i < (hidF tkG) v0 v1 v2 v3 v4 → f < 3 → zA i f = (fun _ f => (hidF tkI) v0 v1 v2 v3 v4 f) i f) ∧ (0 : Int) = (hidF tkD) v0 v1 v2 v3 v4 ∧ (∀ (i : Int) (f : Nat), 0 ≤ i → i < (hidF tkD) v0 v1 v2 v3 v4 → f < 3 → v0 i f = v0 i f) ∧ (0 : Int) = (hidF asE) v0 v1 v2 v3 v4 ∧ True) ∧
            (¬ (0 = v1) →
              1 ≤ v1 ∧ (1 ≤ v1 →
              v1 ≤ v1 ∧ (v1 ≤ v1 →
              (1 + (v1 - 1)) ≤ v1 ∧ ((1 + (v1 - 1)) ≤ v1 →
              0 ≤ (v1 - 1) ∧ (0 ≤ (v1 - 1) →
              ((v1 - 1) * 24) ≤ 140737488355328 ∧ (((v1 - 1) * 24) ≤ 140737488355328 →
              (v1 - 1) ≤ 140737488355328 ∧ ((v1 - 1) ≤ 140737488355328 →
              ((v1 - 1) ≤ 9223372036854775807 →
              (v1 - 1) = (hidF tkN) v0 v1 v2 v3 v4 ∧ (∀ (i : Int) (f : Nat), 0 ≤ i → i < (hidF tkN) v0 v1 v2 v3 v4 → f < 3 → (shA v0 1) i f = shA v0 ((hidF tkD) v0 v1 v2 v3 v4 + 1) i f) ∧ (v4 + 100000) = (hidF tkU) v0 v1 v2 v3 v4 ∧ v3 = (hidF tkK) v0 v1 v2 v3 v4 ∧ (1 : Int) = (hidF tkG) v0 v1 v2 v3 v4 ∧ (∀ (i : Int) (f : Nat), 0 ≤ i → i < (hidF tkG) v0 v1 v2 v3 v4 → f < 3 → (setA (setA (setA zA 0 0 (v0 0 0)) 0 1 (v0 0 1)) 0 2 (v0 0 2)) i f = (fun _ f => (hidF tkI) v0 v1 v2 v3 v4 f) i f) ∧ (0 : Int) = (hidF tkD) v0 v1 v2 v3 v4 ∧ (∀ (i : Int) (f : Nat), 0 ≤ i → i < (hidF tkD) v0 v1 v2 v3 v4 → f < 3 → v0 i f = v0 i f) ∧ (0 : Int) = (hidF asE) v0 v1 v2 v3 v4 ∧ True)))))))))) ∧
          (¬ (v2 = 0) →
            (v2 ≤ v4 →
              (-9223372036854775808 ≤ (v3 + 1) ∧ (v3 + 1) ≤ 9223372036854775807) ∧ ((-9223372036854775808 ≤ (v3 + 1) ∧ (v3 + 1) ≤ 9223372036854775807) →
              (-9223372036854775808 ≤ ((min (v3 + 1) 256) + 1) ∧ ((min (v3 + 1) 256) + 1) ≤ 9223372036854775807) ∧ ((-9223372036854775808 ≤ ((min (v3 + 1) 256) + 1) ∧ ((min (v3 + 1) 256) + 1) ≤ 9223372036854775807) →
              ¬ (((min (v3 + 1) 256) + 1) = 0) ∧ (¬ (((min (v3 + 1) 256) + 1) = 0) →
              (-9223372036854775808 ≤ (Int.tdiv 100000 ((min (v3 + 1) 256) + 1)) ∧ (Int.tdiv 100000 ((min (v3 + 1) 256) + 1)) ≤ 9223372036854775807) ∧ ((-9223372036854775808 ≤ (Int.tdiv 100000 ((min (v3 + 1) 256) + 1)) ∧ (Int.tdiv 100000 ((min (v3 + 1) 256) + 1)) ≤ 9223372036854775807) →
              (-9223372036854775808 ≤ (v4 + (Int.tdiv 100000 ((min (v3 + 1) 256) + 1))) ∧ (v4 + (Int.tdiv 100000 ((min (v3 + 1) 256) + 1))) ≤ 9223372036854775807) ∧ ((-9223372036854775808 ≤ (v4 + (Int.tdiv 100000 ((min (v3 + 1) 256) + 1))) ∧ (v4 + (Int.tdiv 100000 ((min (v3 + 1) 256) + 1))) ≤ 9223372036854775807) →
              1 ≤ v1 ∧ (1 ≤ v1 →
              (1 = v1 →
                (0 : Int) = (hidF tkN) v0 v1 v2 v3 v4 ∧ (∀ (i : Int) (f : Nat), 0 ≤ i → i < (hidF tkN) v0 v1 v2 v3 v4 → f < 3 → zA i f = shA v0 ((hidF tkD) v0 v1 v2 v3 v4 + 1) i f) ∧ (0 : Int) = (hidF tkU) v0 v1 v2 v3 v4 ∧ (0 : Int) = (hidF tkK) v0 v1 v2 v3 v4 ∧ (0 : Int) = (hidF tkG) v0 v1 v2 v3 v4 ∧ (∀ (i : Int) (f : Nat), 0 ≤ i → i < (hidF tkG) v0 v1 v2 v3 v4 → f < 3 → zA i f = (fun _ f => (hidF tkI) v0 v1 v2 v3 v4 f) i f) ∧ (1 : Int) = (hidF tkD) v0 v1 v2 v3 v4 ∧ (∀ (i : Int) (f : Nat), 0 ≤ i → i < (hidF tkD) v0 v1 v2 v3 v4 → f < 3 → v0 i f = v0 i f) ∧ (0 : Int) = (hidF asE) v0 v1 v2 v3 v4 ∧ True) ∧
              (¬ (1 = v1) →
                2 ≤ v1 ∧ (2 ≤ v1 →
                v1 ≤ v1 ∧ (v1 ≤ v1 →
                (2 + (v1 - 2)) ≤ v1 ∧ ((2 + (v1 - 2)) ≤ v1 →
                0 ≤ (v1 - 2) ∧ (0 ≤ (v1 - 2) →
                ((v1 - 2) * 24) ≤ 140737488355328 ∧ (((v1 - 2) * 24) ≤ 140737488355328 →
                (v1 - 2) ≤ 140737488355328 ∧ ((v1 - 2) ≤ 140737488355328 →
                1 < v1 ∧ (1 < v1 →
                ((v1 - 2) ≤ 9223372036854775807 →
                (v1 - 2) = (hidF tkN) v0 v1 v2 v3 v4 ∧ (∀ (i : Int) (f : Nat), 0 ≤ i → i < (hidF tkN) v0 v1 v2 v3 v4 → f < 3 → (shA v0 2) i f = shA v0 ((hidF tkD) v0 v1 v2 v3 v4 + 1) i f) ∧ (v4 + (Int.tdiv 100000 ((min (v3 + 1) 256) + 1))) = (hidF tkU) v0 v1 v2 v3 v4 ∧ (min (v3 + 1) 256) = (hidF tkK) v0 v1 v2 v3 v4 ∧ (1 : Int) = (hidF tkG) v0 v1 v2 v3 v4 ∧ (∀ (i : Int) (f : Nat), 0 ≤ i → i < (hidF tkG) v0 v1 v2 v3 v4 → f < 3 → (setA (setA (setA zA 0 0 (v0 1 0)) 0 1 (v0 1 1)) 0 2 (v0 1 2)) i f = (fun _ f => (hidF tkI) v0 v1 v2 v3 v4 f) i f) ∧ (1 : Int) = (hidF tkD) v0 v1 v2 v3 v4 ∧ (∀ (i : Int) (f : Nat), 0 ≤ i → i < (hidF tkD) v0 v1 v2 v3 v4 → f < 3 → v0 i f = v0 i f) ∧ (0 : Int) = (hidF asE) v0 v1 v2 v3 v4 ∧ True)))))))))))))))) ∧
            (¬ (v2 ≤ v4) →
              (0 = v1 →
                (0 : Int) = (hidF tkN) v0 v1 v2 v3 v4 ∧ (∀ (i : Int) (f : Nat), 0 ≤ i → i < (hidF tkN) v0 v1 v2 v3 v4 → f < 3 → zA i f = shA v0 ((hidF tkD) v0 v1 v2 v3 v4 + 1) i f) ∧ (0 : Int) = (hidF tkU) v0 v1 v2 v3 v4 ∧ (0 : Int) = (hidF tkK) v0 v1 v2 v3 v4 ∧ (0 : Int) = (hidF tkG) v0 v1 v2 v3 v4 ∧ (∀ (i : Int) (f : Nat), 0 ≤ i → i < (hidF tkG) v0 v1 v2 v3 v4 → f < 3 → zA i f = (fun _ f => (hidF tkI) v0 v1 v2 v3 v4 f) i f) ∧ (0 : Int) = (hidF tkD) v0 v1 v2 v3 v4 ∧ (∀ (i : Int) (f : Nat), 0 ≤ i → i < (hidF tkD) v0 v1 v2 v3 v4 → f < 3 → v0 i f = v0 i f) ∧ (0 : Int) = (hidF asE) v0 v1 v2 v3 v4 ∧ True) ∧
              (¬ (0 = v1) →
                1 ≤ v1 ∧ (1 ≤ v1 →
                v1 ≤ v1 ∧ (v1 ≤ v1 →
                (1 + (v1 - 1)) ≤ v1 ∧ ((1 + (v1 - 1)) ≤ v1 →
                0 ≤ (v1 - 1) ∧ (0 ≤ (v1 - 1) →
                ((v1 - 1) * 24) ≤ 140737488355328 ∧ (((v1 - 1) * 24) ≤ 140737488355328 →
                (v1 - 1) ≤ 140737488355328 ∧ ((v1 - 1) ≤ 140737488355328 →
                ((v1 - 1) ≤ 9223372036854775807 →
                (v1 - 1) = (hidF tkN) v0 v1 v2 v3 v4 ∧ (∀ (i : Int) (f : Nat), 0 ≤ i → i < (hidF tkN) v0 v1 v2 v3 v4 → f < 3 → (shA v0 1) i f = shA v0 ((hidF tkD) v0 v1 v2 v3 v4 + 1) i f) ∧ v2 = (hidF tkU) v0 v1 v2 v3 v4 ∧ v3 = (hidF tkK) v0 v1 v2 v3 v4 ∧ (1 : Int) = (hidF tkG) v0 v1 v2 v3 v4 ∧ (∀ (i : Int) (f : Nat), 0 ≤ i → i < (hidF tkG) v0 v1 v2 v3 v4 → f < 3 → (setA (setA (setA zA 0 0 (v0 0 0)) 0 1 (v0 0 1)) 0 2 (v0 0 2)) i f = (fun _ f => (hidF tkI) v0 v1 v2 v3 v4 f) i f) ∧ (0 : Int) = (hidF tkD) v0 v1 v2 v3 v4 ∧ (∀ (i : Int) (f : Nat), 0 ≤ i → i < (hidF tkD) v0 v1 v2 v3 v4 → f < 3 → v0 i f = v0 i f) ∧ (0 : Int) = (hidF asE) v0 v1 v2 v3 v4 ∧ True))))))))))))))))))))
def VC18 : Prop :=
  ∀ (v0 : Int → Nat → Int) (v1 : Int) (v2 : Int) (v3 : Int) (v4 : Int),
  (True) →
  (0 ≤ v1 →
  (True) ∧ (∀ (v5 : Int), v5 = ckQ v0 v1 v2 v3 → 
  (v1 ≤ 9223372036854775807 →
  (¬ (v5 = 0) →
    (0 : Int) = tkN v0 v1 v2 v3 v4 ∧ (∀ (i : Int) (f : Nat), 0 ≤ i → i < tkN v0 v1 v2 v3 v4 → f < 3 → zA i f = shA v0 (tkD v0 v1 v2 v3 v4 + 1) i f) ∧ (0 : Int) = tkU v0 v1 v2 v3 v4 ∧ (0 : Int) = tkK v0 v1 v2 v3 v4 ∧ (0 : Int) = tkG v0 v1 v2 v3 v4 ∧ (∀ (i : Int) (f : Nat), 0 ≤ i → i < tkG v0 v1 v2 v3 v4 → f < 3 → zA i f = (fun _ f => tkI v0 v1 v2 v3 v4 f) i f) ∧ (0 : Int) = tkD v0 v1 v2 v3 v4 ∧ (∀ (i : Int) (f : Nat), 0 ≤ i → i < tkD v0 v1 v2 v3 v4 → f < 3 → zA i f = v0 i f) ∧ (8 : Int) = asE v0 v1 v2 v3 v4 ∧ True) ∧
  (¬ (¬ (v5 = 0)) →
    (True) ∧ (∀ (v6 : Bool), v6 = decide (0 ≤ v4 ∧ v4 ≤ 1099511627776 ∧ (v1 = 0 ∨ v0 (v1 - 1) 2 ≤ v4)) → 
    (¬ (v6 = true) →
      (0 : Int) = tkN v0 v1 v2 v3 v4 ∧ (∀ (i : Int) (f : Nat), 0 ≤ i → i < tkN v0 v1 v2 v3 v4 → f < 3 → zA i f = shA v0 (tkD v0 v1 v2 v3 v4 + 1) i f) ∧ (0 : Int) = tkU v0 v1 v2 v3 v4 ∧ (0 : Int) = tkK v0 v1 v2 v3 v4 ∧ (0 : Int) = tkG v0 v1 v2 v3 v4 ∧ (∀ (i : Int) (f : Nat), 0 ≤ i → i < tkG v0 v1 v2 v3 v4 → f < 3 → zA i f = (fun _ f => tkI v0 v1 v2 v3 v4 f) i f) ∧ (0 : Int) = tkD v0 v1 v2 v3 v4 ∧ (∀ (i : Int) (f : Nat), 0 ≤ i → i < tkD v0 v1 v2 v3 v4 → f < 3 → zA i f = v0 i f) ∧ (2 : Int) = asE v0 v1 v2 v3 v4 ∧ True) ∧
    (¬ (¬ (v6 = true)) →
      (v1 = 0 →
        (0 : Int) = tkN v0 v1 v2 v3 v4 ∧ (∀ (i : Int) (f : Nat), 0 ≤ i → i < tkN v0 v1 v2 v3 v4 → f < 3 → zA i f = shA v0 (tkD v0 v1 v2 v3 v4 + 1) i f) ∧ (0 : Int) = tkU v0 v1 v2 v3 v4 ∧ (0 : Int) = tkK v0 v1 v2 v3 v4 ∧ (0 : Int) = tkG v0 v1 v2 v3 v4 ∧ (∀ (i : Int) (f : Nat), 0 ≤ i → i < tkG v0 v1 v2 v3 v4 → f < 3 → zA i f = (fun _ f => tkI v0 v1 v2 v3 v4 f) i f) ∧ (0 : Int) = tkD v0 v1 v2 v3 v4 ∧ (∀ (i : Int) (f : Nat), 0 ≤ i → i < tkD v0 v1 v2 v3 v4 → f < 3 → zA i f = v0 i f) ∧ (0 : Int) = asE v0 v1 v2 v3 v4 ∧ True) ∧
      (¬ (v1 = 0) →
        0 < v1 ∧ (0 < v1 →
        (-9223372036854775808 ≤ (v4 - (v0 0 2)) ∧ (v4 - (v0 0 2)) ≤ 9223372036854775807) ∧ ((-9223372036854775808 ≤ (v4 - (v0 0 2)) ∧ (v4 - (v0 0 2)) ≤ 9223372036854775807) →
        ((v4 - (v0 0 2)) < 5000 →
          (0 = v1 →
            (0 : Int) = tkN v0 v1 v2 v3 v4 ∧ (∀ (i : Int) (f : Nat), 0 ≤ i → i < tkN v0 v1 v2 v3 v4 → f < 3 → zA i f = shA v0 (tkD v0 v1 v2 v3 v4 + 1) i f) ∧ (0 : Int) = tkU v0 v1 v2 v3 v4 ∧ (0 : Int) = tkK v0 v1 v2 v3 v4 ∧ (0 : Int) = tkG v0 v1 v2 v3 v4 ∧ (∀ (i : Int) (f : Nat), 0 ≤ i → i < tkG v0 v1 v2 v3 v4 → f < 3 → zA i f = (fun _ f => tkI v0 v1 v2 v3 v4 f) i f) ∧ (0 : Int) = tkD v0 v1 v2 v3 v4 ∧ (∀ (i : Int) (f : Nat), 0 ≤ i → i < tkD v0 v1 v2 v3 v4 → f < 3 → v0 i f = v0 i f) ∧ (0 : Int) = asE v0 v1 v2 v3 v4 ∧ True) ∧
          (¬ (0 = v1) →
            1 ≤ v1 ∧ (1 ≤ v1 →
            v1 ≤ v1 ∧ (v1 ≤ v1 →
            (1 + (v1 - 1)) ≤ v1 ∧ ((1 + (v1 - 1)) ≤ v1 →
            0 ≤ (v1 - 1) ∧ (0 ≤ (v1 - 1) →
            ((v1 - 1) * 24) ≤ 140737488355328 ∧ (((v1 - 1) * 24) ≤ 140737488355328 →
            (v1 - 1) ≤ 140737488355328 ∧ ((v1 - 1) ≤ 140737488355328 →
            ((v1 - 1) ≤ 9223372036854775807 →
            (v1 - 1) = tkN v0 v1 v2 v3 v4 ∧ (∀ (i : Int) (f : Nat), 0 ≤ i → i < tkN v0 v1 v2 v3 v4 → f < 3 → (shA v0 1) i f = shA v0 (tkD v0 v1 v2 v3 v4 + 1) i f) ∧ (0 : Int) = tkU v0 v1 v2 v3 v4 ∧ (0 : Int) = tkK v0 v1 v2 v3 v4 ∧ (1 : Int) = tkG v0 v1 v2 v3 v4 ∧ (∀ (i : Int) (f : Nat), 0 ≤ i → i < tkG v0 v1 v2 v3 v4 → f < 3 → (setA (setA (setA zA 0 0 (v0 0 0)) 0 1 (v0 0 1)) 0 2 (v0 0 2)) i f = (fun _ f => tkI v0 v1 v2 v3 v4 f) i f) ∧ (0 : Int) = tkD v0 v1 v2 v3 v4 ∧ (∀ (i : Int) (f : Nat), 0 ≤ i → i < tkD v0 v1 v2 v3 v4 → f < 3 → v0 i f = v0 i f) ∧ (0 : Int) = asE v0 v1 v2 v3 v4 ∧ True))))))))) ∧
        (¬ ((v4 - (v0 0 2)) < 5000) →
          (v2 = 0 →
            (-9223372036854775808 ≤ (v4 + 100000) ∧ (v4 + 100000) ≤ 9223372036854775807) ∧ ((-9223372036854775808 ≤ (v4 + 100000) ∧ (v4 + 100000) ≤ 9223372036854775807) →
            (0 = v1 →
              (0 : Int) = tkN v0 v1 v2 v3 v4 ∧ (∀ (i : Int) (f : Nat), 0 ≤ i → i < tkN v0 v1 v2 v3 v4 → f < 3 → zA i f = shA v0 (tkD v0 v1 v2 v3 v4 + 1) i f) ∧ (0 : Int) = tkU v0 v1 v2 v3 v4 ∧ (0 : Int) = tkK v0 v1 v2 v3 v4 ∧ (0 : Int) = tkG v0 v1 v2 v3 v4 ∧ (∀ (i : Int) (f : Nat), 0 ≤ i → i < tkG v0 v1 v2 v3 v4 → f < 3 → zA i f = (fun _ f => tkI v0 v1 v2 v3 v4 f) i f) ∧ (0 : Int) = tkD v0 v1 v2 v3 v4 ∧ (∀ (i : Int) (f : Nat), 0 ≤ i → i < tkD v0 v1 v2 v3 v4 → f < 3 → v0 i f = v0 i f) ∧ (0 : Int) = asE v0 v1 v2 v3 v4 ∧ True) ∧
            (¬ (0 = v1) →
              1 ≤ v1 ∧ (1 ≤ v1 →
              v1 ≤ v1 ∧ (v1 ≤ v1 →
              (1 + (v1 - 1)) ≤ v1 ∧ ((1 + (v1 - 1)) ≤ v1 →
              0 ≤ (v1 - 1) ∧ (0 ≤ (v1 - 1) →
              ((v1 - 1) * 24) ≤ 140737488355328 ∧ (((v1 - 1) * 24) ≤ 140737488355328 →
              (v1 - 1) ≤ 140737488355328 ∧ ((v1 - 1) ≤ 140737488355328 →
              ((v1 - 1) ≤ 9223372036854775807 →
              (v1 - 1) = tkN v0 v1 v2 v3 v4 ∧ (∀ (i : Int) (f : Nat), 0 ≤ i → i < tkN v0 v1 v2 v3 v4 → f < 3 → (shA v0 1) i f = shA v0 (tkD v0 v1 v2 v3 v4 + 1) i f) ∧ (v4 + 100000) = tkU v0 v1 v2 v3 v4 ∧ v3 = tkK v0 v1 v2 v3 v4 ∧ (1 : Int) = tkG v0 v1 v2 v3 v4 ∧ (∀ (i : Int) (f : Nat), 0 ≤ i → i < tkG v0 v1 v2 v3 v4 → f < 3 → (setA (setA (setA zA 0 0 (v0 0 0)) 0 1 (v0 0 1)) 0 2 (v0 0 2)) i f = (fun _ f => tkI v0 v1 v2 v3 v4 f) i f) ∧ (0 : Int) = tkD v0 v1 v2 v3 v4 ∧ (∀ (i : Int) (f : Nat), 0 ≤ i → i < tkD v0 v1 v2 v3 v4 → f < 3 → v0 i f = v0 i f) ∧ (0 : Int) = asE v0 v1 v2 v3 v4 ∧ True)))))))))) ∧
          (¬ (v2 = 0) →
            (v2 ≤ v4 →
              (-9223372036854775808 ≤ (v3 + 1) ∧ (v3 + 1) ≤ 9223372036854775807) ∧ ((-9223372036854775808 ≤ (v3 + 1) ∧ (v3 + 1) ≤ 9223372036854775807) →
              (-9223372036854775808 ≤ ((min (v3 + 1) 256) + 1) ∧ ((min (v3 + 1) 256) + 1) ≤ 9223372036854775807) ∧ ((-9223372036854775808 ≤ ((min (v3 + 1) 256) + 1) ∧ ((min (v3 + 1) 256) + 1) ≤ 9223372036854775807) →
              ¬ (((min (v3 + 1) 256) + 1) = 0) ∧ (¬ (((min (v3 + 1) 256) + 1) = 0) →
              (-9223372036854775808 ≤ (Int.tdiv 100000 ((min (v3 + 1) 256) + 1)) ∧ (Int.tdiv 100000 ((min (v3 + 1) 256) + 1)) ≤ 9223372036854775807) ∧ ((-9223372036854775808 ≤ (Int.tdiv 100000 ((min (v3 + 1) 256) + 1)) ∧ (Int.tdiv 100000 ((min (v3 + 1) 256) + 1)) ≤ 9223372036854775807) →
              (-9223372036854775808 ≤ (v4 + (Int.tdiv 100000 ((min (v3 + 1) 256) + 1))) ∧ (v4 + (Int.tdiv 100000 ((min (v3 + 1) 256) + 1))) ≤ 9223372036854775807) ∧ ((-9223372036854775808 ≤ (v4 + (Int.tdiv 100000 ((min (v3 + 1) 256) + 1))) ∧ (v4 + (Int.tdiv 100000 ((min (v3 + 1) 256) + 1))) ≤ 9223372036854775807) →
              1 ≤ v1 ∧ (1 ≤ v1 →
              (1 = v1 →
                (0 : Int) = tkN v0 v1 v2 v3 v4 ∧ (∀ (i : Int) (f : Nat), 0 ≤ i → i < tkN v0 v1 v2 v3 v4 → f < 3 → zA i f = shA v0 (tkD v0 v1 v2 v3 v4 + 1) i f) ∧ (0 : Int) = tkU v0 v1 v2 v3 v4 ∧ (0 : Int) = tkK v0 v1 v2 v3 v4 ∧ (0 : Int) = tkG v0 v1 v2 v3 v4 ∧ (∀ (i : Int) (f : Nat), 0 ≤ i → i < tkG v0 v1 v2 v3 v4 → f < 3 → zA i f = (fun _ f => tkI v0 v1 v2 v3 v4 f) i f) ∧ (1 : Int) = tkD v0 v1 v2 v3 v4 ∧ (∀ (i : Int) (f : Nat), 0 ≤ i → i < tkD v0 v1 v2 v3 v4 → f < 3 → v0 i f = v0 i f) ∧ (0 : Int) = asE v0 v1 v2 v3 v4 ∧ True) ∧
              (¬ (1 = v1) →
                2 ≤ v1 ∧ (2 ≤ v1 →
                v1 ≤ v1 ∧ (v1 ≤ v1 →
                (2 + (v1 - 2)) ≤ v1 ∧ ((2 + (v1 - 2)) ≤ v1 →
                0 ≤ (v1 - 2) ∧ (0 ≤ (v1 - 2) →
                ((v1 - 2) * 24) ≤ 140737488355328 ∧ (((v1 - 2) * 24) ≤ 140737488355328 →
                (v1 - 2) ≤ 140737488355328 ∧ ((v1 - 2) ≤ 140737488355328 →
                1 < v1 ∧ (1 < v1 →
                ((v1 - 2) ≤ 9223372036854775807 →
                (v1 - 2) = tkN v0 v1 v2 v3 v4 ∧ (∀ (i : Int) (f : Nat), 0 ≤ i → i < tkN v0 v1 v2 v3 v4 → f < 3 → (shA v0 2) i f = shA v0 (tkD v0 v1 v2 v3 v4 + 1) i f) ∧ (v4 + (Int.tdiv 100000 ((min (v3 + 1) 256) + 1))) = tkU v0 v1 v2 v3 v4 ∧ (min (v3 + 1) 256) = tkK v0 v1 v2 v3 v4 ∧ (1 : Int) = tkG v0 v1 v2 v3 v4 ∧ (∀ (i : Int) (f : Nat), 0 ≤ i → i < tkG v0 v1 v2 v3 v4 → f < 3 → (setA (setA (setA zA 0 0 (v0 1 0)) 0 1 (v0 1 1)) 0 2 (v0 1 2)) i f = (fun _ f => tkI v0 v1 v2 v3 v4 f) i f) ∧ (1 : Int) = tkD v0 v1 v2 v3 v4 ∧ (∀ (i : Int) (f : Nat), 0 ≤ i → i < tkD v0 v1 v2 v3 v4 → f < 3 → v0 i f = v0 i f) ∧ (0 : Int) = asE v0 v1 v2 v3 v4 ∧ True)))))))))))))))) ∧
            (¬ (v2 ≤ v4) →
              (0 = v1 →
                (0 : Int) = tkN v0 v1 v2 v3 v4 ∧ (∀ (i : Int) (f : Nat), 0 ≤ i → i < tkN v0 v1 v2 v3 v4 → f < 3 → zA i f = shA v0 (tkD v0 v1 v2 v3 v4 + 1) i f) ∧ (0 : Int) = tkU v0 v1 v2 v3 v4 ∧ (0 : Int) = tkK v0 v1 v2 v3 v4 ∧ (0 : Int) = tkG v0 v1 v2 v3 v4 ∧ (∀ (i : Int) (f : Nat), 0 ≤ i → i < tkG v0 v1 v2 v3 v4 → f < 3 → zA i f = (fun _ f => tkI v0 v1 v2 v3 v4 f) i f) ∧ (0 : Int) = tkD v0 v1 v2 v3 v4 ∧ (∀ (i : Int) (f : Nat), 0 ≤ i → i < tkD v0 v1 v2 v3 v4 → f < 3 → v0 i f = v0 i f) ∧ (0 : Int) = asE v0 v1 v2 v3 v4 ∧ True) ∧
              (¬ (0 = v1) →
                1 ≤ v1 ∧ (1 ≤ v1 →
                v1 ≤ v1 ∧ (v1 ≤ v1 →
                (1 + (v1 - 1)) ≤ v1 ∧ ((1 + (v1 - 1)) ≤ v1 →
                0 ≤ (v1 - 1) ∧ (0 ≤ (v1 - 1) →
                ((v1 - 1) * 24) ≤ 140737488355328 ∧ (((v1 - 1) * 24) ≤ 140737488355328 →
                (v1 - 1) ≤ 140737488355328 ∧ ((v1 - 1) ≤ 140737488355328 →
                ((v1 - 1) ≤ 9223372036854775807 →
                (v1 - 1) = tkN v0 v1 v2 v3 v4 ∧ (∀ (i : Int) (f : Nat), 0 ≤ i → i < tkN v0 v1 v2 v3 v4 → f < 3 → (shA v0 1) i f = shA v0 (tkD v0 v1 v2 v3 v4 + 1) i f) ∧ v2 = tkU v0 v1 v2 v3 v4 ∧ v3 = tkK v0 v1 v2 v3 v4 ∧ (1 : Int) = tkG v0 v1 v2 v3 v4 ∧ (∀ (i : Int) (f : Nat), 0 ≤ i → i < tkG v0 v1 v2 v3 v4 → f < 3 → (setA (setA (setA zA 0 0 (v0 0 0)) 0 1 (v0 0 1)) 0 2 (v0 0 2)) i f = (fun _ f => tkI v0 v1 v2 v3 v4 f) i f) ∧ (0 : Int) = tkD v0 v1 v2 v3 v4 ∧ (∀ (i : Int) (f : Nat), 0 ≤ i → i < tkD v0 v1 v2 v3 v4 → f < 3 → v0 i f = v0 i f) ∧ (0 : Int) = asE v0 v1 v2 v3 v4 ∧ True))))))))))))))))))))
theorem vh18 (h : VC18) : VH18 := by
  unfold VH18
  rw [hidF_eq asE, hidF_eq ckQ, hidF_eq tkD, hidF_eq tkG, hidF_eq tkI, hidF_eq tkK, hidF_eq tkN, hidF_eq tkU]
  exact h
/-! queue.Age -/
def sig12 : CSig := ⟨[⟨true, [.slc [.int .i64, .int .i64, .int .i64], .int .i64, .int .i64]⟩, ⟨false, [.int .i64]⟩, ⟨false, [.int .i64]⟩], [⟨true, [.slc [.int .i64, .int .i64, .int .i64], .int .i64, .int .i64]⟩, ⟨false, [.slc [.int .i64, .int .i64, .int .i64]]⟩, ⟨false, [.int .i64]⟩]⟩
def pre12 : List AV → Prop
  | [.a v0, .i v1, .i v2, .i v3, .i v4, .i v5] => True
  | _ => False
noncomputable def raw12 : List AV → List AV
  | [.a v0, .i v1, .i v2, .i v3, .i v4, .i v5] => [.a (shA v0 ((hidF agD) v0 v1 v4 v5)), .i ((hidF agN) v0 v1 v2 v3 v4 v5), .i ((hidF agU) v0 v1 v2 v3 v4 v5), .i ((hidF agK) v0 v1 v2 v3 v4 v5), .a (v0), .i ((hidF agC) v0 v1 v2 v3 v4 v5), .i ((hidF agE) v0 v1 v2 v3 v4 v5)]
  | _ => []

def VH12 : Prop :=
  ∀ (v0 : Int → Nat → Int) (v1 : Int) (v2 : Int) (v3 : Int) (v4 : Int) (v5 : Int),
  (True) →
  (0 ≤ v1 →
  (True) ∧ (∀ (v6 : Int), v6 = (hidF asE) v0 v1 v2 v3 v4 → 
  (v1 ≤ 9223372036854775807 →
  (¬ (v6 = 0) →
    (0 : Int) = (hidF agN) v0 v1 v2 v3 v4 v5 ∧ (∀ (i : Int) (f : Nat), 0 ≤ i → i < (hidF agN) v0 v1 v2 v3 v4 v5 → f < 3 → zA i f = shA v0 ((hidF agD) v0 v1 v4 v5) i f) ∧ (0 : Int) = (hidF agU) v0 v1 v2 v3 v4 v5 ∧ (0 : Int) = (hidF agK) v0 v1 v2 v3 v4 v5 ∧ (0 : Int) = (hidF agC) v0 v1 v2 v3 v4 v5 ∧ (∀ (i : Int) (f : Nat), 0 ≤ i → i < (hidF agC) v0 v1 v2 v3 v4 v5 → f < 3 → zA i f = v0 i f) ∧ v6 = (hidF agE) v0 v1 v2 v3 v4 v5 ∧ True) ∧
  (¬ (¬ (v6 = 0)) →
    ((v5 < 0 ∨ 1099511627776 < v5) →
      (0 : Int) = (hidF agN) v0 v1 v2 v3 v4 v5 ∧ (∀ (i : Int) (f : Nat), 0 ≤ i → i < (hidF agN) v0 v1 v2 v3 v4 v5 → f < 3 → zA i f = shA v0 ((hidF agD) v0 v1 v4 v5) i f) ∧ (0 : Int) = (hidF agU) v0 v1 v2 v3 v4 v5 ∧ (0 : Int) = (hidF agK) v0 v1 v2 v3 v4 v5 ∧ (0 : Int) = (hidF agC) v0 v1 v2 v3 v4 v5 ∧ (∀ (i : Int) (f : Nat), 0 ≤ i → i < (hidF agC) v0 v1 v2 v3 v4 v5 → f < 3 → zA i f = v0 i f) ∧ (2 : Int) = (hidF agE) v0 v1 v2 v3 v4 v5 ∧ True) ∧
    (¬ ((v5 < 0 ∨ 1099511627776 < v5)) →
      ∃ (I0 : (Int) → Prop) (μ0 : (Int) → Nat), I0 (0 : Int) ∧ (∀ (v7 : Int), I0 v7 →
        (¬ (v7 < v1) ∨ 0 ≤ v7) ∧ ((¬ (v7 < v1) ∨ 0 ≤ v7) →
        (¬ (v7 < v1) ∨ 0 ≤ v7) ∧ ((¬ (v7 < v1) ∨ 0 ≤ v7) →
        (¬ (v7 < v1) ∨ (-9223372036854775808 ≤ (v4 - (v0 v7 2)) ∧ (v4 - (v0 v7 2)) ≤ 9223372036854775807)) ∧ ((¬ (v7 < v1) ∨ (-9223372036854775808 ≤ (v4 - (v0 v7 2)) ∧ (v4 - (v0 v7 2)) ≤ 9223372036854775807)) →
        ((v7 < v1 ∧ v5 < (v4 - (v0 v7 2))) →
          (-9223372036854775808 ≤ (v7 + 1) ∧ (v7 + 1) ≤ 9223372036854775807) ∧ ((-9223372036854775808 ≤ (v7 + 1) ∧ (v7 + 1) ≤ 9223372036854775807) →
          I0 (v7 + 1) ∧ μ0 (v7 + 1) < μ0 v7)) ∧
        (¬ ((v7 < v1 ∧ v5 < (v4 - (v0 v7 2)))) →
          (0 ≤ v7 ∧ v1 ≤ 1000) ∧ (∀ (v8 : Int → Nat → Int) (v9 : Int) (v10 : Int → Nat → Int) (v11 : Int), v8 = v0 → v9 = min v7 v1 → v10 = shA v0 (min v7 v1) → v11 = v1 - min v7 v1 → 
          (0 ≤ v9 →
          (0 ≤ v11 →
          v11 = (hidF agN) v0 v1 v2 v3 v4 v5 ∧ (∀ (i : Int) (f : Nat), 0 ≤ i → i < (hidF agN) v0 v1 v2 v3 v4 v5 → f < 3 → v10 i f = shA v0 ((hidF agD) v0 v1 v4 v5) i f) ∧ v2 = (hidF agU) v0 v1 v2 v3 v4 v5 ∧ v3 = (hidF agK) v0 v1 v2 v3 v4 v5 ∧ v9 = (hidF agC) v0 v1 v2 v3 v4 v5 ∧ (∀ (i : Int) (f : Nat), 0 ≤ i → i < (hidF agC) v0 v1 v2 v3 v4 v5 → f < 3 → v8 i f = v0 i f) ∧ (0 : Int) = (hidF agE) v0 v1 v2 v3 v4 v5 ∧ True)))))))))))))
def VC12 : Prop :=
  ∀ (v0 : Int → Nat → Int) (v1 : Int) (v2 : Int) (v3 : Int) (v4 : Int) (v5 : Int),
  (True) →
  (0 ≤ v1 →
  (True) ∧ (∀ (v6 : Int), v6 = asE v0 v1 v2 v3 v4 → 
  (v1 ≤ 9223372036854775807 →
  (¬ (v6 = 0) →
    (0 : Int) = agN v0 v1 v2 v3 v4 v5 ∧ (∀ (i : Int) (f : Nat), 0 ≤ i → i < agN v0 v1 v2 v3 v4 v5 → f < 3 → zA i f = shA v0 (agD v0 v1 v4 v5) i f) ∧ (0 : Int) = agU v0 v1 v2 v3 v4 v5 ∧ (0 : Int) = agK v0 v1 v2 v3 v4 v5 ∧ (0 : Int) = agC v0 v1 v2 v3 v4 v5 ∧ (∀ (i : Int) (f : Nat), 0 ≤ i → i < agC v0 v1 v2 v3 v4 v5 → f < 3 → zA i f = v0 i f) ∧ v6 = agE v0 v1 v2 v3 v4 v5 ∧ True) ∧
  (¬ (¬ (v6 = 0)) →
    ((v5 < 0 ∨ 1099511627776 < v5) →
      (0 : Int) = agN v0 v1 v2 v3 v4 v5 ∧ (∀ (i : Int) (f : Nat), 0 ≤ i → i < agN v0 v1 v2 v3 v4 v5 → f < 3 → zA i f = shA v0 (agD v0 v1 v4 v5) i f) ∧ (0 : Int) = agU v0 v1 v2 v3 v4 v5 ∧ (0 : Int) = agK v0 v1 v2 v3 v4 v5 ∧ (0 : Int) = agC v0 v1 v2 v3 v4 v5 ∧ (∀ (i : Int) (f : Nat), 0 ≤ i → i < agC v0 v1 v2 v3 v4 v5 → f < 3 → zA i f = v0 i f) ∧ (2 : Int) = agE v0 v1 v2 v3 v4 v5 ∧ True) ∧
    (¬ ((v5 < 0 ∨ 1099511627776 < v5)) →
      ∃ (I0 : (Int) → Prop) (μ0 : (Int) → Nat), I0 (0 : Int) ∧ (∀ (v7 : Int), I0 v7 →
        (¬ (v7 < v1) ∨ 0 ≤ v7) ∧ ((¬ (v7 < v1) ∨ 0 ≤ v7) →
        (¬ (v7 < v1) ∨ 0 ≤ v7) ∧ ((¬ (v7 < v1) ∨ 0 ≤ v7) →
        (¬ (v7 < v1) ∨ (-9223372036854775808 ≤ (v4 - (v0 v7 2)) ∧ (v4 - (v0 v7 2)) ≤ 9223372036854775807)) ∧ ((¬ (v7 < v1) ∨ (-9223372036854775808 ≤ (v4 - (v0 v7 2)) ∧ (v4 - (v0 v7 2)) ≤ 9223372036854775807)) →
        ((v7 < v1 ∧ v5 < (v4 - (v0 v7 2))) →
          (-9223372036854775808 ≤ (v7 + 1) ∧ (v7 + 1) ≤ 9223372036854775807) ∧ ((-9223372036854775808 ≤ (v7 + 1) ∧ (v7 + 1) ≤ 9223372036854775807) →
          I0 (v7 + 1) ∧ μ0 (v7 + 1) < μ0 v7)) ∧
        (¬ ((v7 < v1 ∧ v5 < (v4 - (v0 v7 2)))) →
          (0 ≤ v7 ∧ v1 ≤ 1000) ∧ (∀ (v8 : Int → Nat → Int) (v9 : Int) (v10 : Int → Nat → Int) (v11 : Int), v8 = v0 → v9 = min v7 v1 → v10 = shA v0 (min v7 v1) → v11 = v1 - min v7 v1 → 
          (0 ≤ v9 →
          (0 ≤ v11 →
          v11 = agN v0 v1 v2 v3 v4 v5 ∧ (∀ (i : Int) (f : Nat), 0 ≤ i → i < agN v0 v1 v2 v3 v4 v5 → f < 3 → v10 i f = shA v0 (agD v0 v1 v4 v5) i f) ∧ v2 = agU v0 v1 v2 v3 v4 v5 ∧ v3 = agK v0 v1 v2 v3 v4 v5 ∧ v9 = agC v0 v1 v2 v3 v4 v5 ∧ (∀ (i : Int) (f : Nat), 0 ≤ i → i < agC v0 v1 v2 v3 v4 v5 → f < 3 → v8 i f = v0 i f) ∧ (0 : Int) = agE v0 v1 v2 v3 v4 v5 ∧ True)))))))))))))
theorem vh12 (h : VC12) : VH12 := by
  unfold VH12
  rw [hidF_eq agC, hidF_eq agD, hidF_eq agE, hidF_eq agK, hidF_eq agN, hidF_eq agU, hidF_eq asE]
  exact h
/-! hotspotref43.Age -/
def sig19 : CSig := ⟨[⟨true, [.slc [.int .i64, .int .i64, .int .i64], .int .i64, .int .i64]⟩, ⟨false, [.int .i64]⟩, ⟨false, [.int .i64]⟩], [⟨true, [.slc [.int .i64, .int .i64, .int .i64], .int .i64, .int .i64]⟩, ⟨false, [.slc [.int .i64, .int .i64, .int .i64]]⟩, ⟨false, [.int .i64]⟩]⟩
def pre19 : List AV → Prop
  | [.a v0, .i v1, .i v2, .i v3, .i v4, .i v5] => True
  | _ => False
noncomputable def raw19 : List AV → List AV
  | [.a v0, .i v1, .i v2, .i v3, .i v4, .i v5] => [.a (shA v0 ((hidF agD) v0 v1 v4 v5)), .i ((hidF agN) v0 v1 v2 v3 v4 v5), .i ((hidF agU) v0 v1 v2 v3 v4 v5), .i ((hidF agK) v0 v1 v2 v3 v4 v5), .a (v0), .i ((hidF agC) v0 v1 v2 v3 v4 v5), .i ((hidF agE) v0 v1 v2 v3 v4 v5)]
  | _ => []

def VH19 : Prop :=
  ∀ (v0 : Int → Nat → Int) (v1 : Int) (v2 : Int) (v3 : Int) (v4 : Int) (v5 : Int),
  (True) →
  (0 ≤ v1 →
  (True) ∧ (∀ (v6 : Int), v6 = (hidF ckQ) v0 v1 v2 v3 → 
  (v1 ≤ 9223372036854775807 →
  (¬ (v6 = 0) →
    (0 : Int) = (hidF agN) v0 v1 v2 v3 v4 v5 ∧ (∀ (i : Int) (f : Nat), 0 ≤ i → i < (hidF agN) v0 v1 v2 v3 v4 v5 → f < 3 → zA i f = shA v0 ((hidF agD) v0 v1 v4 v5) i f) ∧ (0 : Int) = (hidF agU) v0 v1 v2 v3 v4 v5 ∧ (0 : Int) = (hidF agK) v0 v1 v2 v3 v4 v5 ∧ (0 : Int) = (hidF agC) v0 v1 v2 v3 v4 v5 ∧ (∀ (i : Int) (f : Nat), 0 ≤ i → i < (hidF agC) v0 v1 v2 v3 v4 v5 → f < 3 → zA i f = v0 i f) ∧ (8 : Int) = (hidF agE) v0 v1 v2 v3 v4 v5 ∧ True) ∧
  (¬ (¬ (v6 = 0)) →
    (True) ∧ (∀ (v7 : Bool), v7 = decide (0 ≤ v4 ∧ v4 ≤ 1099511627776 ∧ (v1 = 0 ∨ v0 (v1 - 1) 2 ≤ v4)) → 
    (((¬ (v7 = true) ∨ v5 < 0) ∨ 1099511627776 < v5) →
      (0 : Int) = (hidF agN) v0 v1 v2 v3 v4 v5 ∧ (∀ (i : Int) (f : Nat), 0 ≤ i → i < (hidF agN) v0 v1 v2 v3 v4 v5 → f < 3 → zA i f = shA v0 ((hidF agD) v0 v1 v4 v5) i f) ∧ (0 : Int) = (hidF agU) v0 v1 v2 v3 v4 v5 ∧ (0 : Int) = (hidF agK) v0 v1 v2 v3 v4 v5 ∧ (0 : Int) = (hidF agC) v0 v1 v2 v3 v4 v5 ∧ (∀ (i : Int) (f : Nat), 0 ≤ i → i < (hidF agC) v0 v1 v2 v3 v4 v5 → f < 3 → zA i f = v0 i f) ∧ (2 : Int) = (hidF agE) v0 v1 v2 v3 v4 v5 ∧ True) ∧
    (¬ (((¬ (v7 = true) ∨ v5 < 0) ∨ 1099511627776 < v5)) →
      ∃ (I0 : (Int → Nat → Int) → (Int) → (Int → Nat → Int) → (Int) → (Int) → Prop) (μ0 : (Int → Nat → Int) → (Int) → (Int → Nat → Int) → (Int) → (Int) → Nat), I0 zA (0 : Int) zA (0 : Int) (0 : Int) ∧ (∀ (v8 : Int → Nat → Int) (v9 : Int) (v10 : Int → Nat → Int) (v11 : Int) (v12 : Int), I0 v8 v9 v10 v11 v12 →
        (0 ≤ v9 →
        (v9 ≤ 9223372036854775807 →
        (0 ≤ v11 →
        (v11 ≤ 9223372036854775807 →
        (v12 < v1 →
          0 ≤ v12 ∧ (0 ≤ v12 →
          (-9223372036854775808 ≤ (v4 - (v0 v12 2)) ∧ (v4 - (v0 v12 2)) ≤ 9223372036854775807) ∧ ((-9223372036854775808 ≤ (v4 - (v0 v12 2)) ∧ (v4 - (v0 v12 2)) ≤ 9223372036854775807) →
          (v5 < (v4 - (v0 v12 2)) →
            ((v11 + 1) * 24) ≤ 140737488355328 ∧ (((v11 + 1) * 24) ≤ 140737488355328 →
            (v11 + 1) ≤ 140737488355328 ∧ ((v11 + 1) ≤ 140737488355328 →
            (-9223372036854775808 ≤ (v12 + 1) ∧ (v12 + 1) ≤ 9223372036854775807) ∧ ((-9223372036854775808 ≤ (v12 + 1) ∧ (v12 + 1) ≤ 9223372036854775807) →
            I0 v8 v9 (appA v10 v11 (setA (setA (setA zA 0 0 (v0 v12 0)) 0 1 (v0 v12 1)) 0 2 (v0 v12 2))) (v11 + 1) (v12 + 1) ∧ μ0 v8 v9 (appA v10 v11 (setA (setA (setA zA 0 0 (v0 v12 0)) 0 1 (v0 v12 1)) 0 2 (v0 v12 2))) (v11 + 1) (v12 + 1) < μ0 v8 v9 v10 v11 v12)))) ∧
          (¬ (v5 < (v4 - (v0 v12 2))) →
            ((v9 + 1) * 24) ≤ 140737488355328 ∧ (((v9 + 1) * 24) ≤ 140737488355328 →
            (v9 + 1) ≤ 140737488355328 ∧ ((v9 + 1) ≤ 140737488355328 →
            ((v9 + 1) ≤ 9223372036854775807 →
            (-9223372036854775808 ≤ (v12 + 1) ∧ (v12 + 1) ≤ 9223372036854775807) ∧ ((-9223372036854775808 ≤ (v12 + 1) ∧ (v12 + 1) ≤ 9223372036854775807) →
            I0 (appA v8 v9 (setA (setA (setA zA 0 0 (v0 v12 0)) 0 1 (v0 v12 1)) 0 2 (v0 v12 2))) (v9 + 1) v10 v11 (v12 + 1) ∧ μ0 (appA v8 v9 (setA (setA (setA zA 0 0 (v0 v12 0)) 0 1 (v0 v12 1)) 0 2 (v0 v12 2))) (v9 + 1) v10 v11 (v12 + 1) < μ0 v8 v9 v10 v11 v12)))))))) ∧
        (¬ (v12 < v1) →
          v9 = (hidF agN) v0 v1 v2 v3 v4 v5 ∧ (∀ (i : Int) (f : Nat), 0 ≤ i → i < (hidF agN) v0 v1 v2 v3 v4 v5 → f < 3 → v8 i f = shA v0 ((hidF agD) v0 v1 v4 v5) i f) ∧ v2 = (hidF agU) v0 v1 v2 v3 v4 v5 ∧ v3 = (hidF agK) v0 v1 v2 v3 v4 v5 ∧ v11 = (hidF agC) v0 v1 v2 v3 v4 v5 ∧ (∀ (i : Int) (f : Nat), 0 ≤ i → i < (hidF agC) v0 v1 v2 v3 v4 v5 → f < 3 → v10 i f = v0 i f) ∧ (0 : Int) = (hidF agE) v0 v1 v2 v3 v4 v5 ∧ True))))))))))))
def VC19 : Prop :=
  ∀ (v0 : Int → Nat → Int) (v1 : Int) (v2 : Int) (v3 : Int) (v4 : Int) (v5 : Int),
  (True) →
  (0 ≤ v1 →
  (True) ∧ (∀ (v6 : Int), v6 = ckQ v0 v1 v2 v3 → 
  (v1 ≤ 9223372036854775807 →
  (¬ (v6 = 0) →
    (0 : Int) = agN v0 v1 v2 v3 v4 v5 ∧ (∀ (i : Int) (f : Nat), 0 ≤ i → i < agN v0 v1 v2 v3 v4 v5 → f < 3 → zA i f = shA v0 (agD v0 v1 v4 v5) i f) ∧ (0 : Int) = agU v0 v1 v2 v3 v4 v5 ∧ (0 : Int) = agK v0 v1 v2 v3 v4 v5 ∧ (0 : Int) = agC v0 v1 v2 v3 v4 v5 ∧ (∀ (i : Int) (f : Nat), 0 ≤ i → i < agC v0 v1 v2 v3 v4 v5 → f < 3 → zA i f = v0 i f) ∧ (8 : Int) = agE v0 v1 v2 v3 v4 v5 ∧ True) ∧
  (¬ (¬ (v6 = 0)) →
    (True) ∧ (∀ (v7 : Bool), v7 = decide (0 ≤ v4 ∧ v4 ≤ 1099511627776 ∧ (v1 = 0 ∨ v0 (v1 - 1) 2 ≤ v4)) → 
    (((¬ (v7 = true) ∨ v5 < 0) ∨ 1099511627776 < v5) →
      (0 : Int) = agN v0 v1 v2 v3 v4 v5 ∧ (∀ (i : Int) (f : Nat), 0 ≤ i → i < agN v0 v1 v2 v3 v4 v5 → f < 3 → zA i f = shA v0 (agD v0 v1 v4 v5) i f) ∧ (0 : Int) = agU v0 v1 v2 v3 v4 v5 ∧ (0 : Int) = agK v0 v1 v2 v3 v4 v5 ∧ (0 : Int) = agC v0 v1 v2 v3 v4 v5 ∧ (∀ (i : Int) (f : Nat), 0 ≤ i → i < agC v0 v1 v2 v3 v4 v5 → f < 3 → zA i f = v0 i f) ∧ (2 : Int) = agE v0 v1 v2 v3 v4 v5 ∧ True) ∧
    (¬ (((¬ (v7 = true) ∨ v5 < 0) ∨ 1099511627776 < v5)) →
      ∃ (I0 : (Int → Nat → Int) → (Int) → (Int → Nat → Int) → (Int) → (Int) → Prop) (μ0 : (Int → Nat → Int) → (Int) → (Int → Nat → Int) → (Int) → (Int) → Nat), I0 zA (0 : Int) zA (0 : Int) (0 : Int) ∧ (∀ (v8 : Int → Nat → Int) (v9 : Int) (v10 : Int → Nat → Int) (v11 : Int) (v12 : Int), I0 v8 v9 v10 v11 v12 →
        (0 ≤ v9 →
        (v9 ≤ 9223372036854775807 →
        (0 ≤ v11 →
        (v11 ≤ 9223372036854775807 →
        (v12 < v1 →
          0 ≤ v12 ∧ (0 ≤ v12 →
          (-9223372036854775808 ≤ (v4 - (v0 v12 2)) ∧ (v4 - (v0 v12 2)) ≤ 9223372036854775807) ∧ ((-9223372036854775808 ≤ (v4 - (v0 v12 2)) ∧ (v4 - (v0 v12 2)) ≤ 9223372036854775807) →
          (v5 < (v4 - (v0 v12 2)) →
            ((v11 + 1) * 24) ≤ 140737488355328 ∧ (((v11 + 1) * 24) ≤ 140737488355328 →
            (v11 + 1) ≤ 140737488355328 ∧ ((v11 + 1) ≤ 140737488355328 →
            (-9223372036854775808 ≤ (v12 + 1) ∧ (v12 + 1) ≤ 9223372036854775807) ∧ ((-9223372036854775808 ≤ (v12 + 1) ∧ (v12 + 1) ≤ 9223372036854775807) →
            I0 v8 v9 (appA v10 v11 (setA (setA (setA zA 0 0 (v0 v12 0)) 0 1 (v0 v12 1)) 0 2 (v0 v12 2))) (v11 + 1) (v12 + 1) ∧ μ0 v8 v9 (appA v10 v11 (setA (setA (setA zA 0 0 (v0 v12 0)) 0 1 (v0 v12 1)) 0 2 (v0 v12 2))) (v11 + 1) (v12 + 1) < μ0 v8 v9 v10 v11 v12)))) ∧
          (¬ (v5 < (v4 - (v0 v12 2))) →
            ((v9 + 1) * 24) ≤ 140737488355328 ∧ (((v9 + 1) * 24) ≤ 140737488355328 →
            (v9 + 1) ≤ 140737488355328 ∧ ((v9 + 1) ≤ 140737488355328 →
            ((v9 + 1) ≤ 9223372036854775807 →
            (-9223372036854775808 ≤ (v12 + 1) ∧ (v12 + 1) ≤ 9223372036854775807) ∧ ((-9223372036854775808 ≤ (v12 + 1) ∧ (v12 + 1) ≤ 9223372036854775807) →
            I0 (appA v8 v9 (setA (setA (setA zA 0 0 (v0 v12 0)) 0 1 (v0 v12 1)) 0 2 (v0 v12 2))) (v9 + 1) v10 v11 (v12 + 1) ∧ μ0 (appA v8 v9 (setA (setA (setA zA 0 0 (v0 v12 0)) 0 1 (v0 v12 1)) 0 2 (v0 v12 2))) (v9 + 1) v10 v11 (v12 + 1) < μ0 v8 v9 v10 v11 v12)))))))) ∧
        (¬ (v12 < v1) →
          v9 = agN v0 v1 v2 v3 v4 v5 ∧ (∀ (i : Int) (f : Nat), 0 ≤ i → i < agN v0 v1 v2 v3 v4 v5 → f < 3 → v8 i f = shA v0 (agD v0 v1 v4 v5) i f) ∧ v2 = agU v0 v1 v2 v3 v4 v5 ∧ v3 = agK v0 v1 v2 v3 v4 v5 ∧ v11 = agC v0 v1 v2 v3 v4 v5 ∧ (∀ (i : Int) (f : Nat), 0 ≤ i → i < agC v0 v1 v2 v3 v4 v5 → f < 3 → v10 i f = v0 i f) ∧ (0 : Int) = agE v0 v1 v2 v3 v4 v5 ∧ True))))))))))))
theorem vh19 (h : VC19) : VH19 := by
  unfold VH19
  rw [hidF_eq agC, hidF_eq agD, hidF_eq agE, hidF_eq agK, hidF_eq agN, hidF_eq agU, hidF_eq ckQ]
  exact h
/-! hotspotref43.SameItems -/
def sig16 : CSig := ⟨[⟨false, [.slc [.int .i64, .int .i64, .int .i64]]⟩, ⟨false, [.slc [.int .i64, .int .i64, .int .i64]]⟩], [⟨false, [.bool]⟩]⟩
def pre16 : List AV → Prop
  | [.a v0, .i v1, .a v2, .i v3] => True
  | _ => False
noncomputable def raw16 : List AV → List AV
  | [.a v0, .i v1, .a v2, .i v3] => [.b ((hidF smI) v0 v1 v2 v3)]
  | _ => []

def VH16 : Prop :=
  ∀ (v0 : Int → Nat → Int) (v1 : Int) (v2 : Int → Nat → Int) (v3 : Int),
  (True) →
  (0 ≤ v1 →
  (0 ≤ v3 →
  (v1 ≤ 9223372036854775807 →
  (v3 ≤ 9223372036854775807 →
  (¬ (v1 = v3) →
    (False ↔ (hidF smI) v0 v1 v2 v3 = true) ∧ True) ∧
  (¬ (¬ (v1 = v3)) →
    ∃ (I0 : (Int) → Prop) (μ0 : (Int) → Nat), I0 (0 : Int) ∧ (∀ (v4 : Int), I0 v4 →
      (v4 < v1 →
        0 ≤ v4 ∧ (0 ≤ v4 →
        v4 < v3 ∧ (v4 < v3 →
        (¬ (((v0 v4 0) = (v2 v4 0) ∧ ((v0 v4 1) = (v2 v4 1) ∧ (v0 v4 2) = (v2 v4 2)))) →
          (False ↔ (hidF smI) v0 v1 v2 v3 = true) ∧ True) ∧
        (¬ (¬ (((v0 v4 0) = (v2 v4 0) ∧ ((v0 v4 1) = (v2 v4 1) ∧ (v0 v4 2) = (v2 v4 2))))) →
          (-9223372036854775808 ≤ (v4 + 1) ∧ (v4 + 1) ≤ 9223372036854775807) ∧ ((-9223372036854775808 ≤ (v4 + 1) ∧ (v4 + 1) ≤ 9223372036854775807) →
          I0 (v4 + 1) ∧ μ0 (v4 + 1) < μ0 v4))))) ∧
      (¬ (v4 < v1) →
        (True ↔ (hidF smI) v0 v1 v2 v3 = true) ∧ True)))))))
def VC16 : Prop :=
  ∀ (v0 : Int → Nat → Int) (v1 : Int) (v2 : Int → Nat → Int) (v3 : Int),
  (True) →
  (0 ≤ v1 →
  (0 ≤ v3 →
  (v1 ≤ 9223372036854775807 →
  (v3 ≤ 9223372036854775807 →
  (¬ (v1 = v3) →
    (False ↔ smI v0 v1 v2 v3 = true) ∧ True) ∧
  (¬ (¬ (v1 = v3)) →
    ∃ (I0 : (Int) → Prop) (μ0 : (Int) → Nat), I0 (0 : Int) ∧ (∀ (v4 : Int), I0 v4 →
      (v4 < v1 →
        0 ≤ v4 ∧ (0 ≤ v4 →
        v4 < v3 ∧ (v4 < v3 →
        (¬ (((v0 v4 0) = (v2 v4 0) ∧ ((v0 v4 1) = (v2 v4 1) ∧ (v0 v4 2) = (v2 v4 2)))) →
          (False ↔ smI v0 v1 v2 v3 = true) ∧ True) ∧
        (¬ (¬ (((v0 v4 0) = (v2 v4 0) ∧ ((v0 v4 1) = (v2 v4 1) ∧ (v0 v4 2) = (v2 v4 2))))) →
          (-9223372036854775808 ≤ (v4 + 1) ∧ (v4 + 1) ≤ 9223372036854775807) ∧ ((-9223372036854775808 ≤ (v4 + 1) ∧ (v4 + 1) ≤ 9223372036854775807) →
          I0 (v4 + 1) ∧ μ0 (v4 + 1) < μ0 v4))))) ∧
      (¬ (v4 < v1) →
        (True ↔ smI v0 v1 v2 v3 = true) ∧ True)))))))
theorem vh16 (h : VC16) : VH16 := by
  unfold VH16
  rw [hidF_eq smI]
  exact h
/-! hotspotref43.Same -/
def sig15 : CSig := ⟨[⟨true, [.slc [.int .i64, .int .i64, .int .i64], .int .i64, .int .i64]⟩, ⟨true, [.slc [.int .i64, .int .i64, .int .i64], .int .i64, .int .i64]⟩], [⟨false, [.bool]⟩]⟩
def pre15 : List AV → Prop
  | [.a v0, .i v1, .i v2, .i v3, .a v4, .i v5, .i v6, .i v7] => True
  | _ => False
noncomputable def raw15 : List AV → List AV
  | [.a v0, .i v1, .i v2, .i v3, .a v4, .i v5, .i v6, .i v7] => [.b (((hidF smI) v0 v1 v4 v5 && decide (v2 = v6 ∧ v3 = v7)))]
  | _ => []

def VH15 : Prop :=
  ∀ (v0 : Int → Nat → Int) (v1 : Int) (v2 : Int) (v3 : Int) (v4 : Int → Nat → Int) (v5 : Int) (v6 : Int) (v7 : Int),
  (True) →
  (0 ≤ v1 →
  (0 ≤ v5 →
  (True) ∧ (∀ (v8 : Bool), v8 = (hidF smI) v0 v1 v4 v5 → 
  (v1 ≤ 9223372036854775807 →
  (v5 ≤ 9223372036854775807 →
  (((v8 = true ∧ v2 = v6) ∧ v3 = v7) ↔ ((hidF smI) v0 v1 v4 v5 && decide (v2 = v6 ∧ v3 = v7)) = true) ∧ True)))))
def VC15 : Prop :=
  ∀ (v0 : Int → Nat → Int) (v1 : Int) (v2 : Int) (v3 : Int) (v4 : Int → Nat → Int) (v5 : Int) (v6 : Int) (v7 : Int),
  (True) →
  (0 ≤ v1 →
  (0 ≤ v5 →
  (True) ∧ (∀ (v8 : Bool), v8 = smI v0 v1 v4 v5 → 
  (v1 ≤ 9223372036854775807 →
  (v5 ≤ 9223372036854775807 →
  (((v8 = true ∧ v2 = v6) ∧ v3 = v7) ↔ (smI v0 v1 v4 v5 && decide (v2 = v6 ∧ v3 = v7)) = true) ∧ True)))))
theorem vh15 (h : VC15) : VH15 := by
  unfold VH15
  rw [hidF_eq smI]
  exact h
/-! hotspotlaw43.alive -/
def sig8 : CSig := ⟨[], [⟨false, [.bool]⟩]⟩
def pre8 : List AV → Prop
  | [] => True
  | _ => False
noncomputable def raw8 : List AV → List AV
  | [] => [.b (true)]
  | _ => []

def VH8 : Prop :=
  (True) →
  (True) ∧ (∀ (v0 : Int → Nat → Int) (v1 : Int) (v2 : Int) (v3 : Int) (v4 : Int), v0 = (hidF puA) zA (0 : Int) (1 : Int) (10 : Int) (0 : Int) → v1 = (hidF puN) zA (0 : Int) (0 : Int) (0 : Int) (10 : Int) (0 : Int) → v2 = (hidF puU) zA (0 : Int) (0 : Int) (0 : Int) (10 : Int) (0 : Int) → v3 = (hidF puK) zA (0 : Int) (0 : Int) (0 : Int) (10 : Int) (0 : Int) → v4 = (hidF puE) zA (0 : Int) (0 : Int) (0 : Int) (10 : Int) (0 : Int) → 
  (0 ≤ v1 →
  (True) ∧ (∀ (v5 : Int → Nat → Int) (v6 : Int) (v7 : Int) (v8 : Int) (v9 : Int), v5 = (hidF puA) v0 v1 (2 : Int) (20 : Int) (10000 : Int) → v6 = (hidF puN) v0 v1 v2 v3 (20 : Int) (10000 : Int) → v7 = (hidF puU) v0 v1 v2 v3 (20 : Int) (10000 : Int) → v8 = (hidF puK) v0 v1 v2 v3 (20 : Int) (10000 : Int) → v9 = (hidF puE) v0 v1 v2 v3 (20 : Int) (10000 : Int) → 
  (v1 ≤ 9223372036854775807 →
  (0 ≤ v6 →
  (True) ∧ (∀ (v10 : Int → Nat → Int) (v11 : Int) (v12 : Int) (v13 : Int) (v14 : Int) (v15 : Int) (v16 : Int) (v17 : Bool) (v18 : Int → Nat → Int) (v19 : Int) (v20 : Int), v10 = shA v5 ((hidF tkD) v5 v6 v7 v8 (5000 : Int) + 1) → v11 = (hidF tkN) v5 v6 v7 v8 (5000 : Int) → v12 = (hidF tkU) v5 v6 v7 v8 (5000 : Int) → v13 = (hidF tkK) v5 v6 v7 v8 (5000 : Int) → v14 = (hidF tkI) v5 v6 v7 v8 (5000 : Int) 0 → v15 = (hidF tkI) v5 v6 v7 v8 (5000 : Int) 1 → v16 = (hidF tkI) v5 v6 v7 v8 (5000 : Int) 2 → v17 = decide ((hidF tkG) v5 v6 v7 v8 (5000 : Int) = 1) → v18 = v5 → v19 = (hidF tkD) v5 v6 v7 v8 (5000 : Int) → v20 = (hidF asE) v5 v6 v7 v8 (5000 : Int) → 
  (v6 ≤ 9223372036854775807 →
  (0 ≤ v11 →
  (0 ≤ v19 →
  0 ≤ (min 1 v6) ∧ (0 ≤ (min 1 v6) →
  (min 1 v6) ≤ v6 ∧ ((min 1 v6) ≤ v6 →
  (True) ∧ (∀ (v21 : Int → Nat → Int) (v22 : Int) (v23 : Int) (v24 : Int) (v25 : Int) (v26 : Int) (v27 : Int) (v28 : Bool) (v29 : Int → Nat → Int) (v30 : Int) (v31 : Int), v21 = shA v5 ((hidF tkD) v5 (min 1 v6) (0 : Int) (0 : Int) (5000 : Int) + 1) → v22 = (hidF tkN) v5 (min 1 v6) (0 : Int) (0 : Int) (5000 : Int) → v23 = (hidF tkU) v5 (min 1 v6) (0 : Int) (0 : Int) (5000 : Int) → v24 = (hidF tkK) v5 (min 1 v6) (0 : Int) (0 : Int) (5000 : Int) → v25 = (hidF tkI) v5 (min 1 v6) (0 : Int) (0 : Int) (5000 : Int) 0 → v26 = (hidF tkI) v5 (min 1 v6) (0 : Int) (0 : Int) (5000 : Int) 1 → v27 = (hidF tkI) v5 (min 1 v6) (0 : Int) (0 : Int) (5000 : Int) 2 → v28 = decide ((hidF tkG) v5 (min 1 v6) (0 : Int) (0 : Int) (5000 : Int) = 1) → v29 = v5 → v30 = (hidF tkD) v5 (min 1 v6) (0 : Int) (0 : Int) (5000 : Int) → v31 = (hidF asE) v5 (min 1 v6) (0 : Int) (0 : Int) (5000 : Int) → 
  (v11 ≤ 9223372036854775807 →
  ((min 1 v6) ≤ 9223372036854775807 →
  (0 ≤ v22 →
  (0 ≤ v30 →
  (v19 ≤ 9223372036854775807 →
  (True) ∧ (∀ (v32 : Int → Nat → Int) (v33 : Int) (v34 : Int) (v35 : Int) (v36 : Int), v32 = (hidF puA) v21 v22 (2 : Int) (20 : Int) (10000 : Int) → v33 = (hidF puN) v21 v22 v23 v24 (20 : Int) (10000 : Int) → v34 = (hidF puU) v21 v22 v23 v24 (20 : Int) (10000 : Int) → v35 = (hidF puK) v21 v22 v23 v24 (20 : Int) (10000 : Int) → v36 = (hidF puE) v21 v22 v23 v24 (20 : Int) (10000 : Int) → 
  (v22 ≤ 9223372036854775807 →
  (0 ≤ v33 →
  (v30 ≤ 9223372036854775807 →
  (True) ∧ (∀ (v37 : Int → Nat → Int) (v38 : Int) (v39 : Int) (v40 : Int) (v41 : Int) (v42 : Int) (v43 : Int) (v44 : Bool) (v45 : Int → Nat → Int) (v46 : Int) (v47 : Int), v37 = shA v32 ((hidF tkD) v32 v33 v34 v35 (105000 : Int) + 1) → v38 = (hidF tkN) v32 v33 v34 v35 (105000 : Int) → v39 = (hidF tkU) v32 v33 v34 v35 (105000 : Int) → v40 = (hidF tkK) v32 v33 v34 v35 (105000 : Int) → v41 = (hidF tkI) v32 v33 v34 v35 (105000 : Int) 0 → v42 = (hidF tkI) v32 v33 v34 v35 (105000 : Int) 1 → v43 = (hidF tkI) v32 v33 v34 v35 (105000 : Int) 2 → v44 = decide ((hidF tkG) v32 v33 v34 v35 (105000 : Int) = 1) → v45 = v32 → v46 = (hidF tkD) v32 v33 v34 v35 (105000 : Int) → v47 = (hidF asE) v32 v33 v34 v35 (105000 : Int) → 
  (v33 ≤ 9223372036854775807 →
  (0 ≤ v38 →
  (0 ≤ v46 →
  (((((((((((((v4 = 0 ∧ v9 = 0) ∧ v20 = 2) ∧ v31 = 0) ∧ v36 = 0) ∧ v47 = 0) ∧ v28 = true) ∧ (v25 = 1 ∧ (v26 = 10 ∧ v27 = 0))) ∧ v30 = 0) ∧ v23 = 105000) ∧ ¬ (v44 = true)) ∧ (v41 = 0 ∧ (v42 = 0 ∧ v43 = 0))) → True)) ∧ (∀ (v48 : Bool), v48 = (hidF smI) v45 v46 (setA (setA (setA zA 0 0 2) 0 1 20) 0 2 10000) (1 : Int) → 
  (v38 ≤ 9223372036854775807 →
  (v46 ≤ 9223372036854775807 →
  ((((((((((((((v4 = 0 ∧ v9 = 0) ∧ v20 = 2) ∧ v31 = 0) ∧ v36 = 0) ∧ v47 = 0) ∧ v28 = true) ∧ (v25 = 1 ∧ (v26 = 10 ∧ v27 = 0))) ∧ v30 = 0) ∧ v23 = 105000) ∧ ¬ (v44 = true)) ∧ (v41 = 0 ∧ (v42 = 0 ∧ v43 = 0))) ∧ v48 = true) → True)) ∧ (∀ (v49 : Bool), v49 = ((hidF smI) v37 v38 zA (0 : Int) && decide (v39 = (0 : Int) ∧ v40 = (0 : Int))) → 
  ((((((((((((((v4 = 0 ∧ v9 = 0) ∧ v20 = 2) ∧ v31 = 0) ∧ v36 = 0) ∧ v47 = 0) ∧ v28 = true) ∧ (v25 = 1 ∧ (v26 = 10 ∧ v27 = 0))) ∧ v30 = 0) ∧ v23 = 105000) ∧ ¬ (v44 = true)) ∧ (v41 = 0 ∧ (v42 = 0 ∧ v43 = 0))) ∧ v48 = true) ∧ v49 = true) ↔ true = true) ∧ True)))))))))))))))))))))))))))))
def VC8 : Prop :=
  (True) →
  (True) ∧ (∀ (v0 : Int → Nat → Int) (v1 : Int) (v2 : Int) (v3 : Int) (v4 : Int), v0 = puA zA (0 : Int) (1 : Int) (10 : Int) (0 : Int) → v1 = puN zA (0 : Int) (0 : Int) (0 : Int) (10 : Int) (0 : Int) → v2 = puU zA (0 : Int) (0 : Int) (0 : Int) (10 : Int) (0 : Int) → v3 = puK zA (0 : Int) (0 : Int) (0 : Int) (10 : Int) (0 : Int) → v4 = puE zA (0 : Int) (0 : Int) (0 : Int) (10 : Int) (0 : Int) → 
  (0 ≤ v1 →
  (True) ∧ (∀ (v5 : Int → Nat → Int) (v6 : Int) (v7 : Int) (v8 : Int) (v9 : Int), v5 = puA v0 v1 (2 : Int) (20 : Int) (10000 : Int) → v6 = puN v0 v1 v2 v3 (20 : Int) (10000 : Int) → v7 = puU v0 v1 v2 v3 (20 : Int) (10000 : Int) → v8 = puK v0 v1 v2 v3 (20 : Int) (10000 : Int) → v9 = puE v0 v1 v2 v3 (20 : Int) (10000 : Int) → 
  (v1 ≤ 9223372036854775807 →
  (0 ≤ v6 →
  (True) ∧ (∀ (v10 : Int → Nat → Int) (v11 : Int) (v12 : Int) (v13 : Int) (v14 : Int) (v15 : Int) (v16 : Int) (v17 : Bool) (v18 : Int → Nat → Int) (v19 : Int) (v20 : Int), v10 = shA v5 (tkD v5 v6 v7 v8 (5000 : Int) + 1) → v11 = tkN v5 v6 v7 v8 (5000 : Int) → v12 = tkU v5 v6 v7 v8 (5000 : Int) → v13 = tkK v5 v6 v7 v8 (5000 : Int) → v14 = tkI v5 v6 v7 v8 (5000 : Int) 0 → v15 = tkI v5 v6 v7 v8 (5000 : Int) 1 → v16 = tkI v5 v6 v7 v8 (5000 : Int) 2 → v17 = decide (tkG v5 v6 v7 v8 (5000 : Int) = 1) → v18 = v5 → v19 = tkD v5 v6 v7 v8 (5000 : Int) → v20 = asE v5 v6 v7 v8 (5000 : Int) → 
  (v6 ≤ 9223372036854775807 →
  (0 ≤ v11 →
  (0 ≤ v19 →
  0 ≤ (min 1 v6) ∧ (0 ≤ (min 1 v6) →
  (min 1 v6) ≤ v6 ∧ ((min 1 v6) ≤ v6 →
  (True) ∧ (∀ (v21 : Int → Nat → Int) (v22 : Int) (v23 : Int) (v24 : Int) (v25 : Int) (v26 : Int) (v27 : Int) (v28 : Bool) (v29 : Int → Nat → Int) (v30 : Int) (v31 : Int), v21 = shA v5 (tkD v5 (min 1 v6) (0 : Int) (0 : Int) (5000 : Int) + 1) → v22 = tkN v5 (min 1 v6) (0 : Int) (0 : Int) (5000 : Int) → v23 = tkU v5 (min 1 v6) (0 : Int) (0 : Int) (5000 : Int) → v24 = tkK v5 (min 1 v6) (0 : Int) (0 : Int) (5000 : Int) → v25 = tkI v5 (min 1 v6) (0 : Int) (0 : Int) (5000 : Int) 0 → v26 = tkI v5 (min 1 v6) (0 : Int) (0 : Int) (5000 : Int) 1 → v27 = tkI v5 (min 1 v6) (0 : Int) (0 : Int) (5000 : Int) 2 → v28 = decide (tkG v5 (min 1 v6) (0 : Int) (0 : Int) (5000 : Int) = 1) → v29 = v5 → v30 = tkD v5 (min 1 v6) (0 : Int) (0 : Int) (5000 : Int) → v31 = asE v5 (min 1 v6) (0 : Int) (0 : Int) (5000 : Int) → 
  (v11 ≤ 9223372036854775807 →
  ((min 1 v6) ≤ 9223372036854775807 →
  (0 ≤ v22 →
  (0 ≤ v30 →
  (v19 ≤ 9223372036854775807 →
  (True) ∧ (∀ (v32 : Int → Nat → Int) (v33 : Int) (v34 : Int) (v35 : Int) (v36 : Int), v32 = puA v21 v22 (2 : Int) (20 : Int) (10000 : Int) → v33 = puN v21 v22 v23 v24 (20 : Int) (10000 : Int) → v34 = puU v21 v22 v23 v24 (20 : Int) (10000 : Int) → v35 = puK v21 v22 v23 v24 (20 : Int) (10000 : Int) → v36 = puE v21 v22 v23 v24 (20 : Int) (10000 : Int) → 
  (v22 ≤ 9223372036854775807 →
  (0 ≤ v33 →
  (v30 ≤ 9223372036854775807 →
  (True) ∧ (∀ (v37 : Int → Nat → Int) (v38 : Int) (v39 : Int) (v40 : Int) (v41 : Int) (v42 : Int) (v43 : Int) (v44 : Bool) (v45 : Int → Nat → Int) (v46 : Int) (v47 : Int), v37 = shA v32 (tkD v32 v33 v34 v35 (105000 : Int) + 1) → v38 = tkN v32 v33 v34 v35 (105000 : Int) → v39 = tkU v32 v33 v34 v35 (105000 : Int) → v40 = tkK v32 v33 v34 v35 (105000 : Int) → v41 = tkI v32 v33 v34 v35 (105000 : Int) 0 → v42 = tkI v32 v33 v34 v35 (105000 : Int) 1 → v43 = tkI v32 v33 v34 v35 (105000 : Int) 2 → v44 = decide (tkG v32 v33 v34 v35 (105000 : Int) = 1) → v45 = v32 → v46 = tkD v32 v33 v34 v35 (105000 : Int) → v47 = asE v32 v33 v34 v35 (105000 : Int) → 
  (v33 ≤ 9223372036854775807 →
  (0 ≤ v38 →
  (0 ≤ v46 →
  (((((((((((((v4 = 0 ∧ v9 = 0) ∧ v20 = 2) ∧ v31 = 0) ∧ v36 = 0) ∧ v47 = 0) ∧ v28 = true) ∧ (v25 = 1 ∧ (v26 = 10 ∧ v27 = 0))) ∧ v30 = 0) ∧ v23 = 105000) ∧ ¬ (v44 = true)) ∧ (v41 = 0 ∧ (v42 = 0 ∧ v43 = 0))) → True)) ∧ (∀ (v48 : Bool), v48 = smI v45 v46 (setA (setA (setA zA 0 0 2) 0 1 20) 0 2 10000) (1 : Int) → 
  (v38 ≤ 9223372036854775807 →
  (v46 ≤ 9223372036854775807 →
  ((((((((((((((v4 = 0 ∧ v9 = 0) ∧ v20 = 2) ∧ v31 = 0) ∧ v36 = 0) ∧ v47 = 0) ∧ v28 = true) ∧ (v25 = 1 ∧ (v26 = 10 ∧ v27 = 0))) ∧ v30 = 0) ∧ v23 = 105000) ∧ ¬ (v44 = true)) ∧ (v41 = 0 ∧ (v42 = 0 ∧ v43 = 0))) ∧ v48 = true) → True)) ∧ (∀ (v49 : Bool), v49 = (smI v37 v38 zA (0 : Int) && decide (v39 = (0 : Int) ∧ v40 = (0 : Int))) → 
  ((((((((((((((v4 = 0 ∧ v9 = 0) ∧ v20 = 2) ∧ v31 = 0) ∧ v36 = 0) ∧ v47 = 0) ∧ v28 = true) ∧ (v25 = 1 ∧ (v26 = 10 ∧ v27 = 0))) ∧ v30 = 0) ∧ v23 = 105000) ∧ ¬ (v44 = true)) ∧ (v41 = 0 ∧ (v42 = 0 ∧ v43 = 0))) ∧ v48 = true) ∧ v49 = true) ↔ true = true) ∧ True)))))))))))))))))))))))))))))
theorem vh8 (h : VC8) : VH8 := by
  unfold VH8
  rw [hidF_eq asE, hidF_eq puA, hidF_eq puE, hidF_eq puK, hidF_eq puN, hidF_eq puU, hidF_eq smI, hidF_eq tkD, hidF_eq tkG, hidF_eq tkI, hidF_eq tkK, hidF_eq tkN, hidF_eq tkU]
  exact h
end Go.Proofs.Ytjlljcencbppcaa
