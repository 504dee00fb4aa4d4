/- What the functions do, and what is left to show of each. -/
import Derived.Test.YtkagcjibneigdaaDoorW
import Derived.Test.YtkagcjibneigdaaDoorD3
set_option linter.unusedVariables false
namespace Go.Proofs.YtkagcjibneigdaaDoor
open Go Go.RowKit Go.Proofs.YtkagcjibneigdaaDoor.Vc
/-- a function that the kernel does not open -/
noncomputable def hideS {α : Type} (x : α) : {y : α // y = x} := Classical.choice ⟨⟨x, rfl⟩⟩
noncomputable def hidF {α : Type} (x : α) : α := (hideS x).1
theorem hidF_eq {α : Type} (x : α) : hidF x = x := (hideS x).2
/-! backoff.after -/
def sig54 : CSig := ⟨[⟨false, [.int .u8]⟩, ⟨false, [.int .i64]⟩], [⟨false, [.int .i64]⟩]⟩
def pre54 : List AV → Prop
  | [.i v0, .i v1] => 0 ≤ v0 ∧ v0 ≤ 3 ∧ 0 ≤ v1 ∧ v1 ≤ 6
  | _ => False
noncomputable def raw54 : List AV → List AV
  | [.i v0, .i v1] => [.i ((hidF aft) v0 v1)]
  | _ => []

def VH54 : Prop :=
  ∀ (v0 : Int) (v1 : Int),
  (0 ≤ v0 ∧ v0 ≤ 3 ∧ 0 ≤ v1 ∧ v1 ≤ 6) →
  0 ≤ v0 ∧ (0 ≤ v0 →
  v0 < 4 ∧ (v0 < 4 →
  (-9223372036854775808 ≤ ((if (decide (v0 = 0)) = true then (15 : Int) else ((if (decide (v0 = 1)) = true then (15 : Int) else ((if (decide (v0 = 2)) = true then (7 : Int) else (3 : Int)) : Int)) : Int)) + 1) ∧ ((if (decide (v0 = 0)) = true then (15 : Int) else ((if (decide (v0 = 1)) = true then (15 : Int) else ((if (decide (v0 = 2)) = true then (7 : Int) else (3 : Int)) : Int)) : Int)) + 1) ≤ 9223372036854775807) ∧ ((-9223372036854775808 ≤ ((if (decide (v0 = 0)) = true then (15 : Int) else ((if (decide (v0 = 1)) = true then (15 : Int) else ((if (decide (v0 = 2)) = true then (7 : Int) else (3 : Int)) : Int)) : Int)) + 1) ∧ ((if (decide (v0 = 0)) = true then (15 : Int) else ((if (decide (v0 = 1)) = true then (15 : Int) else ((if (decide (v0 = 2)) = true then (7 : Int) else (3 : Int)) : Int)) : Int)) + 1) ≤ 9223372036854775807) →
  0 ≤ v1 ∧ (0 ≤ v1 →
  v1 < 64 ∧ (v1 < 64 →
  (-9223372036854775808 ≤ (((if (decide (v0 = 0)) = true then (15 : Int) else ((if (decide (v0 = 1)) = true then (15 : Int) else ((if (decide (v0 = 2)) = true then (7 : Int) else (3 : Int)) : Int)) : Int)) + 1) * 2 ^ (Int.toNat v1)) ∧ (((if (decide (v0 = 0)) = true then (15 : Int) else ((if (decide (v0 = 1)) = true then (15 : Int) else ((if (decide (v0 = 2)) = true then (7 : Int) else (3 : Int)) : Int)) : Int)) + 1) * 2 ^ (Int.toNat v1)) ≤ 9223372036854775807) ∧ ((-9223372036854775808 ≤ (((if (decide (v0 = 0)) = true then (15 : Int) else ((if (decide (v0 = 1)) = true then (15 : Int) else ((if (decide (v0 = 2)) = true then (7 : Int) else (3 : Int)) : Int)) : Int)) + 1) * 2 ^ (Int.toNat v1)) ∧ (((if (decide (v0 = 0)) = true then (15 : Int) else ((if (decide (v0 = 1)) = true then (15 : Int) else ((if (decide (v0 = 2)) = true then (7 : Int) else (3 : Int)) : Int)) : Int)) + 1) * 2 ^ (Int.toNat v1)) ≤ 9223372036854775807) →
  (-9223372036854775808 ≤ ((((if (decide (v0 = 0)) = true then (15 : Int) else ((if (decide (v0 = 1)) = true then (15 : Int) else ((if (decide (v0 = 2)) = true then (7 : Int) else (3 : Int)) : Int)) : Int)) + 1) * 2 ^ (Int.toNat v1)) - 1) ∧ ((((if (decide (v0 = 0)) = true then (15 : Int) else ((if (decide (v0 = 1)) = true then (15 : Int) else ((if (decide (v0 = 2)) = true then (7 : Int) else (3 : Int)) : Int)) : Int)) + 1) * 2 ^ (Int.toNat v1)) - 1) ≤ 9223372036854775807) ∧ ((-9223372036854775808 ≤ ((((if (decide (v0 = 0)) = true then (15 : Int) else ((if (decide (v0 = 1)) = true then (15 : Int) else ((if (decide (v0 = 2)) = true then (7 : Int) else (3 : Int)) : Int)) : Int)) + 1) * 2 ^ (Int.toNat v1)) - 1) ∧ ((((if (decide (v0 = 0)) = true then (15 : Int) else ((if (decide (v0 = 1)) = true then (15 : Int) else ((if (decide (v0 = 2)) = true then (7 : Int) else (3 : Int)) : Int)) : Int)) + 1) * 2 ^ (Int.toNat v1)) - 1) ≤ 9223372036854775807) →
  (min (if (decide (v0 = 0)) = true then (1023 : Int) else ((if (decide (v0 = 1)) = true then (1023 : Int) else ((if (decide (v0 = 2)) = true then (15 : Int) else (7 : Int)) : Int)) : Int)) ((((if (decide (v0 = 0)) = true then (15 : Int) else ((if (decide (v0 = 1)) = true then (15 : Int) else ((if (decide (v0 = 2)) = true then (7 : Int) else (3 : Int)) : Int)) : Int)) + 1) * 2 ^ (Int.toNat v1)) - 1)) = (hidF aft) v0 v1 ∧ True)))))))
def VC54 : Prop :=
  ∀ (v0 : Int) (v1 : Int),
  (0 ≤ v0 ∧ v0 ≤ 3 ∧ 0 ≤ v1 ∧ v1 ≤ 6) →
  0 ≤ v0 ∧ (0 ≤ v0 →
  v0 < 4 ∧ (v0 < 4 →
  (-9223372036854775808 ≤ ((if (decide (v0 = 0)) = true then (15 : Int) else ((if (decide (v0 = 1)) = true then (15 : Int) else ((if (decide (v0 = 2)) = true then (7 : Int) else (3 : Int)) : Int)) : Int)) + 1) ∧ ((if (decide (v0 = 0)) = true then (15 : Int) else ((if (decide (v0 = 1)) = true then (15 : Int) else ((if (decide (v0 = 2)) = true then (7 : Int) else (3 : Int)) : Int)) : Int)) + 1) ≤ 9223372036854775807) ∧ ((-9223372036854775808 ≤ ((if (decide (v0 = 0)) = true then (15 : Int) else ((if (decide (v0 = 1)) = true then (15 : Int) else ((if (decide (v0 = 2)) = true then (7 : Int) else (3 : Int)) : Int)) : Int)) + 1) ∧ ((if (decide (v0 = 0)) = true then (15 : Int) else ((if (decide (v0 = 1)) = true then (15 : Int) else ((if (decide (v0 = 2)) = true then (7 : Int) else (3 : Int)) : Int)) : Int)) + 1) ≤ 9223372036854775807) →
  0 ≤ v1 ∧ (0 ≤ v1 →
  v1 < 64 ∧ (v1 < 64 →
  (-9223372036854775808 ≤ (((if (decide (v0 = 0)) = true then (15 : Int) else ((if (decide (v0 = 1)) = true then (15 : Int) else ((if (decide (v0 = 2)) = true then (7 : Int) else (3 : Int)) : Int)) : Int)) + 1) * 2 ^ (Int.toNat v1)) ∧ (((if (decide (v0 = 0)) = true then (15 : Int) else ((if (decide (v0 = 1)) = true then (15 : Int) else ((if (decide (v0 = 2)) = true then (7 : Int) else (3 : Int)) : Int)) : Int)) + 1) * 2 ^ (Int.toNat v1)) ≤ 9223372036854775807) ∧ ((-9223372036854775808 ≤ (((if (decide (v0 = 0)) = true then (15 : Int) else ((if (decide (v0 = 1)) = true then (15 : Int) else ((if (decide (v0 = 2)) = true then (7 : Int) else (3 : Int)) : Int)) : Int)) + 1) * 2 ^ (Int.toNat v1)) ∧ (((if (decide (v0 = 0)) = true then (15 : Int) else ((if (decide (v0 = 1)) = true then (15 : Int) else ((if (decide (v0 = 2)) = true then (7 : Int) else (3 : Int)) : Int)) : Int)) + 1) * 2 ^ (Int.toNat v1)) ≤ 9223372036854775807) →
  (-9223372036854775808 ≤ ((((if (decide (v0 = 0)) = true then (15 : Int) else ((if (decide (v0 = 1)) = true then (15 : Int) else ((if (decide (v0 = 2)) = true then (7 : Int) else (3 : Int)) : Int)) : Int)) + 1) * 2 ^ (Int.toNat v1)) - 1) ∧ ((((if (decide (v0 = 0)) = true then (15 : Int) else ((if (decide (v0 = 1)) = true then (15 : Int) else ((if (decide (v0 = 2)) = true then (7 : Int) else (3 : Int)) : Int)) : Int)) + 1) * 2 ^ (Int.toNat v1)) - 1) ≤ 9223372036854775807) ∧ ((-9223372036854775808 ≤ ((((if (decide (v0 = 0)) = true then (15 : Int) else ((if (decide (v0 = 1)) = true then (15 : Int) else ((if (decide (v0 = 2)) = true then (7 : Int) else (3 : Int)) : Int)) : Int)) + 1) * 2 ^ (Int.toNat v1)) - 1) ∧ ((((if (decide (v0 = 0)) = true then (15 : Int) else ((if (decide (v0 = 1)) = true then (15 : Int) else ((if (decide (v0 = 2)) = true then (7 : Int) else (3 : Int)) : Int)) : Int)) + 1) * 2 ^ (Int.toNat v1)) - 1) ≤ 9223372036854775807) →
  (min (if (decide (v0 = 0)) = true then (1023 : Int) else ((if (decide (v0 = 1)) = true then (1023 : Int) else ((if (decide (v0 = 2)) = true then (15 : Int) else (7 : Int)) : Int)) : Int)) ((((if (decide (v0 = 0)) = true then (15 : Int) else ((if (decide (v0 = 1)) = true then (15 : Int) else ((if (decide (v0 = 2)) = true then (7 : Int) else (3 : Int)) : Int)) : Int)) + 1) * 2 ^ (Int.toNat v1)) - 1)) = aft v0 v1 ∧ True)))))))
theorem vh54 (h : VC54) : VH54 := by
  unfold VH54
  rw [hidF_eq aft]
  exact h
/-! backoff.Window -/
def sig47 : CSig := ⟨[⟨false, [.int .u8]⟩, ⟨false, [.int .i64]⟩], [⟨false, [.int .i64]⟩, ⟨false, [.int .i64]⟩]⟩
def pre47 : List AV → Prop
  | [.i v0, .i v1] => 0 ≤ v0 ∧ v0 ≤ 255
  | _ => False
noncomputable def raw47 : List AV → List AV
  | [.i v0, .i v1] => [.i ((hidF winW) v0 v1), .i ((hidF winE) v0 v1)]
  | _ => []

def VH47 : Prop :=
  ∀ (v0 : Int) (v1 : Int),
  (0 ≤ v0 ∧ v0 ≤ 255) →
  (-9223372036854775808 ≤ v0 ∧ v0 ≤ 9223372036854775807) ∧ ((-9223372036854775808 ≤ v0 ∧ v0 ≤ 9223372036854775807) →
  (((4 ≤ v0 ∨ v1 < 0) ∨ 7 ≤ v1) →
    (0 : Int) = (hidF winW) v0 v1 ∧ (2 : Int) = (hidF winE) v0 v1 ∧ True) ∧
  (¬ (((4 ≤ v0 ∨ v1 < 0) ∨ 7 ≤ v1)) →
    (0 ≤ v0 ∧ v0 ≤ 3 ∧ 0 ≤ v1 ∧ v1 ≤ 6) ∧ (∀ (v2 : Int), v2 = (hidF aft) v0 v1 → 
    v2 = (hidF winW) v0 v1 ∧ (0 : Int) = (hidF winE) v0 v1 ∧ True)))
def VC47 : Prop :=
  ∀ (v0 : Int) (v1 : Int),
  (0 ≤ v0 ∧ v0 ≤ 255) →
  (-9223372036854775808 ≤ v0 ∧ v0 ≤ 9223372036854775807) ∧ ((-9223372036854775808 ≤ v0 ∧ v0 ≤ 9223372036854775807) →
  (((4 ≤ v0 ∨ v1 < 0) ∨ 7 ≤ v1) →
    (0 : Int) = winW v0 v1 ∧ (2 : Int) = winE v0 v1 ∧ True) ∧
  (¬ (((4 ≤ v0 ∨ v1 < 0) ∨ 7 ≤ v1)) →
    (0 ≤ v0 ∧ v0 ≤ 3 ∧ 0 ≤ v1 ∧ v1 ≤ 6) ∧ (∀ (v2 : Int), v2 = aft v0 v1 → 
    v2 = winW v0 v1 ∧ (0 : Int) = winE v0 v1 ∧ True)))
theorem vh47 (h : VC47) : VH47 := by
  unfold VH47
  rw [hidF_eq aft, hidF_eq winE, hidF_eq winW]
  exact h
/-! backoff.Check -/
def sig30 : CSig := ⟨[⟨true, [.int .u8, .int .i64, .int .i64, .int .i64]⟩], [⟨false, [.int .i64]⟩]⟩
def pre30 : List AV → Prop
  | [.i v0, .i v1, .i v2, .i v3] => 0 ≤ v0 ∧ v0 ≤ 255
  | _ => False
noncomputable def raw30 : List AV → List AV
  | [.i v0, .i v1, .i v2, .i v3] => [.i ((hidF chkE) v0 v1 v2 v3)]
  | _ => []

def VH30 : Prop :=
  ∀ (v0 : Int) (v1 : Int) (v2 : Int) (v3 : Int),
  (0 ≤ v0 ∧ v0 ≤ 255) →
  (0 ≤ v0 ∧ v0 ≤ 255) ∧ (∀ (v4 : Int) (v5 : Int), v4 = (hidF winW) v0 v3 → v5 = (hidF winE) v0 v3 → 
  ((((¬ (v5 = 0) ∨ ¬ (v1 = v4)) ∨ v2 < 0) ∨ v4 < v2) →
    (8 : Int) = (hidF chkE) v0 v1 v2 v3 ∧ True) ∧
  (¬ ((((¬ (v5 = 0) ∨ ¬ (v1 = v4)) ∨ v2 < 0) ∨ v4 < v2)) →
    (0 : Int) = (hidF chkE) v0 v1 v2 v3 ∧ True))
def VC30 : Prop :=
  ∀ (v0 : Int) (v1 : Int) (v2 : Int) (v3 : Int),
  (0 ≤ v0 ∧ v0 ≤ 255) →
  (0 ≤ v0 ∧ v0 ≤ 255) ∧ (∀ (v4 : Int) (v5 : Int), v4 = winW v0 v3 → v5 = winE v0 v3 → 
  ((((¬ (v5 = 0) ∨ ¬ (v1 = v4)) ∨ v2 < 0) ∨ v4 < v2) →
    (8 : Int) = chkE v0 v1 v2 v3 ∧ True) ∧
  (¬ ((((¬ (v5 = 0) ∨ ¬ (v1 = v4)) ∨ v2 < 0) ∨ v4 < v2)) →
    (0 : Int) = chkE v0 v1 v2 v3 ∧ True))
theorem vh30 (h : VC30) : VH30 := by
  unfold VH30
  rw [hidF_eq chkE, hidF_eq winE, hidF_eq winW]
  exact h
/-! backoff.odd -/
def sig52 : CSig := ⟨[⟨false, [.int .i64]⟩], [⟨false, [.bool]⟩]⟩
def pre52 : List AV → Prop
  | [.i v0] => True
  | _ => False
noncomputable def raw52 : List AV → List AV
  | [.i v0] => [.b (oddA v0)]
  | _ => []

def VH52 : Prop :=
  ∀ (v0 : Int),
  (True) →
  ((v0 < 0 ∨ 1099511627776 < v0) ↔ oddA v0 = true) ∧ True
def VC52 : Prop :=
  ∀ (v0 : Int),
  (True) →
  ((v0 < 0 ∨ 1099511627776 < v0) ↔ oddA v0 = true) ∧ True
theorem vh52 (h : VC52) : VH52 := by
  unfold VH52
  exact h
/-! backoff.drawn -/
def sig57 : CSig := ⟨[⟨false, [.int .u8]⟩, ⟨false, [.int .i64]⟩, ⟨false, [.int .i64]⟩], [⟨true, [.int .u8, .int .i64, .int .i64, .int .i64]⟩]⟩
def pre57 : List AV → Prop
  | [.i v0, .i v1, .i v2] => 0 ≤ v0 ∧ v0 ≤ 3 ∧ 0 ≤ v1 ∧ v1 ≤ 6 ∧ 0 ≤ v2 ∧ v2 ≤ 1099511627776
  | _ => False
noncomputable def raw57 : List AV → List AV
  | [.i v0, .i v1, .i v2] => [.i (v0), .i ((hidF aft) v0 v1), .i ((hidF drN) v0 v1 v2), .i (v1)]
  | _ => []

def VH57 : Prop :=
  ∀ (v0 : Int) (v1 : Int) (v2 : Int),
  (0 ≤ v0 ∧ v0 ≤ 3 ∧ 0 ≤ v1 ∧ v1 ≤ 6 ∧ 0 ≤ v2 ∧ v2 ≤ 1099511627776) →
  (0 ≤ v0 ∧ v0 ≤ 3 ∧ 0 ≤ v1 ∧ v1 ≤ 6) ∧ (∀ (v3 : Int), v3 = (hidF aft) v0 v1 → 
  (-9223372036854775808 ≤ (v3 + 1) ∧ (v3 + 1) ≤ 9223372036854775807) ∧ ((-9223372036854775808 ≤ (v3 + 1) ∧ (v3 + 1) ≤ 9223372036854775807) →
  ¬ ((v3 + 1) = 0) ∧ (¬ ((v3 + 1) = 0) →
  v0 = v0 ∧ v3 = (hidF aft) v0 v1 ∧ (Int.tmod v2 (v3 + 1)) = (hidF drN) v0 v1 v2 ∧ v1 = v1 ∧ True)))
def VC57 : Prop :=
  ∀ (v0 : Int) (v1 : Int) (v2 : Int),
  (0 ≤ v0 ∧ v0 ≤ 3 ∧ 0 ≤ v1 ∧ v1 ≤ 6 ∧ 0 ≤ v2 ∧ v2 ≤ 1099511627776) →
  (0 ≤ v0 ∧ v0 ≤ 3 ∧ 0 ≤ v1 ∧ v1 ≤ 6) ∧ (∀ (v3 : Int), v3 = aft v0 v1 → 
  (-9223372036854775808 ≤ (v3 + 1) ∧ (v3 + 1) ≤ 9223372036854775807) ∧ ((-9223372036854775808 ≤ (v3 + 1) ∧ (v3 + 1) ≤ 9223372036854775807) →
  ¬ ((v3 + 1) = 0) ∧ (¬ ((v3 + 1) = 0) →
  v0 = v0 ∧ v3 = aft v0 v1 ∧ (Int.tmod v2 (v3 + 1)) = drN v0 v1 v2 ∧ v1 = v1 ∧ True)))
theorem vh57 (h : VC57) : VH57 := by
  unfold VH57
  rw [hidF_eq aft, hidF_eq drN]
  exact h
/-! backoff.step -/
def sig53 : CSig := ⟨[⟨true, [.int .u8, .int .i64, .int .i64, .int .i64]⟩, ⟨false, [.int .u8]⟩, ⟨false, [.int .i64]⟩], [⟨true, [.int .u8, .int .i64, .int .i64, .int .i64]⟩, ⟨false, [.bool]⟩]⟩
def pre53 : List AV → Prop
  | [.i v0, .i v1, .i v2, .i v3, .i v4, .i v5] => 0 ≤ v0 ∧ v0 ≤ 3 ∧ 0 ≤ v3 ∧ v3 ≤ 6 ∧ 0 ≤ v2 ∧ v2 ≤ 9223372036854775807 ∧ 0 ≤ v5 ∧ v5 ≤ 1099511627776
  | _ => False
noncomputable def raw53 : List AV → List AV
  | [.i v0, .i v1, .i v2, .i v3, .i v4, .i v5] => [.i (v0), .i ((hidF stW) v0 v1 v2 v3 v4 v5), .i ((hidF stN) v0 v1 v2 v3 v4 v5), .i ((hidF stT) v0 v1 v2 v3 v4 v5), .b ((hidF stG) v0 v1 v2 v3 v4 v5)]
  | _ => []

def VH53 : Prop :=
  ∀ (v0 : Int) (v1 : Int) (v2 : Int) (v3 : Int) (v4 : Int) (v5 : Int),
  (0 ≤ v0 ∧ v0 ≤ 3 ∧ 0 ≤ v3 ∧ v3 ≤ 6 ∧ 0 ≤ v2 ∧ v2 ≤ 9223372036854775807 ∧ 0 ≤ v5 ∧ v5 ≤ 1099511627776) →
  (v4 = 0 →
    (-9223372036854775808 ≤ (v2 - 1) ∧ (v2 - 1) ≤ 9223372036854775807) ∧ ((-9223372036854775808 ≤ (v2 - 1) ∧ (v2 - 1) ≤ 9223372036854775807) →
    v0 = v0 ∧ v1 = (hidF stW) v0 v1 v2 v3 v4 v5 ∧ (max (v2 - 1) 0) = (hidF stN) v0 v1 v2 v3 v4 v5 ∧ v3 = (hidF stT) v0 v1 v2 v3 v4 v5 ∧ (False ↔ (hidF stG) v0 v1 v2 v3 v4 v5 = true) ∧ True)) ∧
  (¬ (v4 = 0) →
    (v4 = 3 →
      (¬ (v3 = 6) →
        (-9223372036854775808 ≤ (v3 + 1) ∧ (v3 + 1) ≤ 9223372036854775807) ∧ ((-9223372036854775808 ≤ (v3 + 1) ∧ (v3 + 1) ≤ 9223372036854775807) →
        (0 ≤ v0 ∧ v0 ≤ 3 ∧ 0 ≤ (v3 + 1) ∧ (v3 + 1) ≤ 6 ∧ 0 ≤ v5 ∧ v5 ≤ 1099511627776) ∧ (∀ (v6 : Int) (v7 : Int) (v8 : Int) (v9 : Int), v6 = v0 → v7 = (hidF aft) v0 (v3 + 1) → v8 = (hidF drN) v0 (v3 + 1) v5 → v9 = (v3 + 1) → 
        v6 = v0 ∧ v7 = (hidF stW) v0 v1 v2 v3 v4 v5 ∧ v8 = (hidF stN) v0 v1 v2 v3 v4 v5 ∧ v9 = (hidF stT) v0 v1 v2 v3 v4 v5 ∧ (False ↔ (hidF stG) v0 v1 v2 v3 v4 v5 = true) ∧ True))) ∧
      (¬ (¬ (v3 = 6)) →
        (0 ≤ v0 ∧ v0 ≤ 3 ∧ 0 ≤ (0 : Int) ∧ (0 : Int) ≤ 6 ∧ 0 ≤ v5 ∧ v5 ≤ 1099511627776) ∧ (∀ (v6 : Int) (v7 : Int) (v8 : Int) (v9 : Int), v6 = v0 → v7 = (hidF aft) v0 (0 : Int) → v8 = (hidF drN) v0 (0 : Int) v5 → v9 = (0 : Int) → 
        v6 = v0 ∧ v7 = (hidF stW) v0 v1 v2 v3 v4 v5 ∧ v8 = (hidF stN) v0 v1 v2 v3 v4 v5 ∧ v9 = (hidF stT) v0 v1 v2 v3 v4 v5 ∧ (v4 = 3 ↔ (hidF stG) v0 v1 v2 v3 v4 v5 = true) ∧ True))) ∧
    (¬ (v4 = 3) →
      (v4 = 2 →
        (0 ≤ v0 ∧ v0 ≤ 3 ∧ 0 ≤ (0 : Int) ∧ (0 : Int) ≤ 6 ∧ 0 ≤ v5 ∧ v5 ≤ 1099511627776) ∧ (∀ (v6 : Int) (v7 : Int) (v8 : Int) (v9 : Int), v6 = v0 → v7 = (hidF aft) v0 (0 : Int) → v8 = (hidF drN) v0 (0 : Int) v5 → v9 = (0 : Int) → 
        v6 = v0 ∧ v7 = (hidF stW) v0 v1 v2 v3 v4 v5 ∧ v8 = (hidF stN) v0 v1 v2 v3 v4 v5 ∧ v9 = (hidF stT) v0 v1 v2 v3 v4 v5 ∧ (v4 = 3 ↔ (hidF stG) v0 v1 v2 v3 v4 v5 = true) ∧ True)) ∧
      (¬ (v4 = 2) →
        v0 = v0 ∧ v1 = (hidF stW) v0 v1 v2 v3 v4 v5 ∧ v2 = (hidF stN) v0 v1 v2 v3 v4 v5 ∧ v3 = (hidF stT) v0 v1 v2 v3 v4 v5 ∧ (False ↔ (hidF stG) v0 v1 v2 v3 v4 v5 = true) ∧ True)))
def VC53 : Prop :=
  ∀ (v0 : Int) (v1 : Int) (v2 : Int) (v3 : Int) (v4 : Int) (v5 : Int),
  (0 ≤ v0 ∧ v0 ≤ 3 ∧ 0 ≤ v3 ∧ v3 ≤ 6 ∧ 0 ≤ v2 ∧ v2 ≤ 9223372036854775807 ∧ 0 ≤ v5 ∧ v5 ≤ 1099511627776) →
  (v4 = 0 →
    (-9223372036854775808 ≤ (v2 - 1) ∧ (v2 - 1) ≤ 9223372036854775807) ∧ ((-9223372036854775808 ≤ (v2 - 1) ∧ (v2 - 1) ≤ 9223372036854775807) →
    v0 = v0 ∧ v1 = stW v0 v1 v2 v3 v4 v5 ∧ (max (v2 - 1) 0) = stN v0 v1 v2 v3 v4 v5 ∧ v3 = stT v0 v1 v2 v3 v4 v5 ∧ (False ↔ stG v0 v1 v2 v3 v4 v5 = true) ∧ True)) ∧
  (¬ (v4 = 0) →
    (v4 = 3 →
      (¬ (v3 = 6) →
        (-9223372036854775808 ≤ (v3 + 1) ∧ (v3 + 1) ≤ 9223372036854775807) ∧ ((-9223372036854775808 ≤ (v3 + 1) ∧ (v3 + 1) ≤ 9223372036854775807) →
        (0 ≤ v0 ∧ v0 ≤ 3 ∧ 0 ≤ (v3 + 1) ∧ (v3 + 1) ≤ 6 ∧ 0 ≤ v5 ∧ v5 ≤ 1099511627776) ∧ (∀ (v6 : Int) (v7 : Int) (v8 : Int) (v9 : Int), v6 = v0 → v7 = aft v0 (v3 + 1) → v8 = drN v0 (v3 + 1) v5 → v9 = (v3 + 1) → 
        v6 = v0 ∧ v7 = stW v0 v1 v2 v3 v4 v5 ∧ v8 = stN v0 v1 v2 v3 v4 v5 ∧ v9 = stT v0 v1 v2 v3 v4 v5 ∧ (False ↔ stG v0 v1 v2 v3 v4 v5 = true) ∧ True))) ∧
      (¬ (¬ (v3 = 6)) →
        (0 ≤ v0 ∧ v0 ≤ 3 ∧ 0 ≤ (0 : Int) ∧ (0 : Int) ≤ 6 ∧ 0 ≤ v5 ∧ v5 ≤ 1099511627776) ∧ (∀ (v6 : Int) (v7 : Int) (v8 : Int) (v9 : Int), v6 = v0 → v7 = aft v0 (0 : Int) → v8 = drN v0 (0 : Int) v5 → v9 = (0 : Int) → 
        v6 = v0 ∧ v7 = stW v0 v1 v2 v3 v4 v5 ∧ v8 = stN v0 v1 v2 v3 v4 v5 ∧ v9 = stT v0 v1 v2 v3 v4 v5 ∧ (v4 = 3 ↔ stG v0 v1 v2 v3 v4 v5 = true) ∧ True))) ∧
    (¬ (v4 = 3) →
      (v4 = 2 →
        (0 ≤ v0 ∧ v0 ≤ 3 ∧ 0 ≤ (0 : Int) ∧ (0 : Int) ≤ 6 ∧ 0 ≤ v5 ∧ v5 ≤ 1099511627776) ∧ (∀ (v6 : Int) (v7 : Int) (v8 : Int) (v9 : Int), v6 = v0 → v7 = aft v0 (0 : Int) → v8 = drN v0 (0 : Int) v5 → v9 = (0 : Int) → 
        v6 = v0 ∧ v7 = stW v0 v1 v2 v3 v4 v5 ∧ v8 = stN v0 v1 v2 v3 v4 v5 ∧ v9 = stT v0 v1 v2 v3 v4 v5 ∧ (v4 = 3 ↔ stG v0 v1 v2 v3 v4 v5 = true) ∧ True)) ∧
      (¬ (v4 = 2) →
        v0 = v0 ∧ v1 = stW v0 v1 v2 v3 v4 v5 ∧ v2 = stN v0 v1 v2 v3 v4 v5 ∧ v3 = stT v0 v1 v2 v3 v4 v5 ∧ (False ↔ stG v0 v1 v2 v3 v4 v5 = true) ∧ True)))
theorem vh53 (h : VC53) : VH53 := by
  unfold VH53
  rw [hidF_eq aft, hidF_eq drN, hidF_eq stG, hidF_eq stN, hidF_eq stT, hidF_eq stW]
  exact h
/-! backoff.Step -/
def sig43 : CSig := ⟨[⟨true, [.int .u8, .int .i64, .int .i64, .int .i64]⟩, ⟨false, [.int .u8]⟩, ⟨false, [.int .i64]⟩], [⟨true, [.int .u8, .int .i64, .int .i64, .int .i64]⟩, ⟨false, [.bool]⟩, ⟨false, [.int .i64]⟩]⟩
def pre43 : List AV → Prop
  | [.i v0, .i v1, .i v2, .i v3, .i v4, .i v5] => 0 ≤ v0 ∧ v0 ≤ 255
  | _ => False
noncomputable def raw43 : List AV → List AV
  | [.i v0, .i v1, .i v2, .i v3, .i v4, .i v5] => [.i ((hidF SC) v0 v1 v2 v3 v4 v5), .i ((hidF SW) v0 v1 v2 v3 v4 v5), .i ((hidF SN) v0 v1 v2 v3 v4 v5), .i ((hidF SR) v0 v1 v2 v3 v4 v5), .b ((hidF SG) v0 v1 v2 v3 v4 v5), .i ((hidF SE) v0 v1 v2 v3 v4 v5)]
  | _ => []

def VH43 : Prop :=
  ∀ (v0 : Int) (v1 : Int) (v2 : Int) (v3 : Int) (v4 : Int) (v5 : Int),
  (0 ≤ v0 ∧ v0 ≤ 255) →
  (0 ≤ v0 ∧ v0 ≤ 255) ∧ (∀ (v6 : Int), v6 = (hidF chkE) v0 v1 v2 v3 → 
  (¬ (v6 = 0) →
    (0 : Int) = (hidF SC) v0 v1 v2 v3 v4 v5 ∧ (0 : Int) = (hidF SW) v0 v1 v2 v3 v4 v5 ∧ (0 : Int) = (hidF SN) v0 v1 v2 v3 v4 v5 ∧ (0 : Int) = (hidF SR) v0 v1 v2 v3 v4 v5 ∧ (False ↔ (hidF SG) v0 v1 v2 v3 v4 v5 = true) ∧ v6 = (hidF SE) v0 v1 v2 v3 v4 v5 ∧ True) ∧
  (¬ (¬ (v6 = 0)) →
    ((¬ (3 < v4) → True)) ∧ (∀ (v7 : Bool), v7 = oddA v5 → 
    ((3 < v4 ∨ v7 = true) →
      (0 : Int) = (hidF SC) v0 v1 v2 v3 v4 v5 ∧ (0 : Int) = (hidF SW) v0 v1 v2 v3 v4 v5 ∧ (0 : Int) = (hidF SN) v0 v1 v2 v3 v4 v5 ∧ (0 : Int) = (hidF SR) v0 v1 v2 v3 v4 v5 ∧ (False ↔ (hidF SG) v0 v1 v2 v3 v4 v5 = true) ∧ (2 : Int) = (hidF SE) v0 v1 v2 v3 v4 v5 ∧ True) ∧
    (¬ ((3 < v4 ∨ v7 = true)) →
      ((2 ≤ v4 ∧ 0 < v2) →
        (0 : Int) = (hidF SC) v0 v1 v2 v3 v4 v5 ∧ (0 : Int) = (hidF SW) v0 v1 v2 v3 v4 v5 ∧ (0 : Int) = (hidF SN) v0 v1 v2 v3 v4 v5 ∧ (0 : Int) = (hidF SR) v0 v1 v2 v3 v4 v5 ∧ (False ↔ (hidF SG) v0 v1 v2 v3 v4 v5 = true) ∧ (20 : Int) = (hidF SE) v0 v1 v2 v3 v4 v5 ∧ True) ∧
      (¬ ((2 ≤ v4 ∧ 0 < v2)) →
        (0 ≤ v0 ∧ v0 ≤ 3 ∧ 0 ≤ v3 ∧ v3 ≤ 6 ∧ 0 ≤ v2 ∧ v2 ≤ 9223372036854775807 ∧ 0 ≤ v5 ∧ v5 ≤ 1099511627776) ∧ (∀ (v8 : Int) (v9 : Int) (v10 : Int) (v11 : Int) (v12 : Bool), v8 = v0 → v9 = (hidF stW) v0 v1 v2 v3 v4 v5 → v10 = (hidF stN) v0 v1 v2 v3 v4 v5 → v11 = (hidF stT) v0 v1 v2 v3 v4 v5 → v12 = (hidF stG) v0 v1 v2 v3 v4 v5 → 
        v8 = (hidF SC) v0 v1 v2 v3 v4 v5 ∧ v9 = (hidF SW) v0 v1 v2 v3 v4 v5 ∧ v10 = (hidF SN) v0 v1 v2 v3 v4 v5 ∧ v11 = (hidF SR) v0 v1 v2 v3 v4 v5 ∧ (v12 = true ↔ (hidF SG) v0 v1 v2 v3 v4 v5 = true) ∧ (0 : Int) = (hidF SE) v0 v1 v2 v3 v4 v5 ∧ True))))))
def VC43 : Prop :=
  ∀ (v0 : Int) (v1 : Int) (v2 : Int) (v3 : Int) (v4 : Int) (v5 : Int),
  (0 ≤ v0 ∧ v0 ≤ 255) →
  (0 ≤ v0 ∧ v0 ≤ 255) ∧ (∀ (v6 : Int), v6 = chkE v0 v1 v2 v3 → 
  (¬ (v6 = 0) →
    (0 : Int) = SC v0 v1 v2 v3 v4 v5 ∧ (0 : Int) = SW v0 v1 v2 v3 v4 v5 ∧ (0 : Int) = SN v0 v1 v2 v3 v4 v5 ∧ (0 : Int) = SR v0 v1 v2 v3 v4 v5 ∧ (False ↔ SG v0 v1 v2 v3 v4 v5 = true) ∧ v6 = SE v0 v1 v2 v3 v4 v5 ∧ True) ∧
  (¬ (¬ (v6 = 0)) →
    ((¬ (3 < v4) → True)) ∧ (∀ (v7 : Bool), v7 = oddA v5 → 
    ((3 < v4 ∨ v7 = true) →
      (0 : Int) = SC v0 v1 v2 v3 v4 v5 ∧ (0 : Int) = SW v0 v1 v2 v3 v4 v5 ∧ (0 : Int) = SN v0 v1 v2 v3 v4 v5 ∧ (0 : Int) = SR v0 v1 v2 v3 v4 v5 ∧ (False ↔ SG v0 v1 v2 v3 v4 v5 = true) ∧ (2 : Int) = SE v0 v1 v2 v3 v4 v5 ∧ True) ∧
    (¬ ((3 < v4 ∨ v7 = true)) →
      ((2 ≤ v4 ∧ 0 < v2) →
        (0 : Int) = SC v0 v1 v2 v3 v4 v5 ∧ (0 : Int) = SW v0 v1 v2 v3 v4 v5 ∧ (0 : Int) = SN v0 v1 v2 v3 v4 v5 ∧ (0 : Int) = SR v0 v1 v2 v3 v4 v5 ∧ (False ↔ SG v0 v1 v2 v3 v4 v5 = true) ∧ (20 : Int) = SE v0 v1 v2 v3 v4 v5 ∧ True) ∧
      (¬ ((2 ≤ v4 ∧ 0 < v2)) →
        (0 ≤ v0 ∧ v0 ≤ 3 ∧ 0 ≤ v3 ∧ v3 ≤ 6 ∧ 0 ≤ v2 ∧ v2 ≤ 9223372036854775807 ∧ 0 ≤ v5 ∧ v5 ≤ 1099511627776) ∧ (∀ (v8 : Int) (v9 : Int) (v10 : Int) (v11 : Int) (v12 : Bool), v8 = v0 → v9 = stW v0 v1 v2 v3 v4 v5 → v10 = stN v0 v1 v2 v3 v4 v5 → v11 = stT v0 v1 v2 v3 v4 v5 → v12 = stG v0 v1 v2 v3 v4 v5 → 
        v8 = SC v0 v1 v2 v3 v4 v5 ∧ v9 = SW v0 v1 v2 v3 v4 v5 ∧ v10 = SN v0 v1 v2 v3 v4 v5 ∧ v11 = SR v0 v1 v2 v3 v4 v5 ∧ (v12 = true ↔ SG v0 v1 v2 v3 v4 v5 = true) ∧ (0 : Int) = SE v0 v1 v2 v3 v4 v5 ∧ True))))))
theorem vh43 (h : VC43) : VH43 := by
  unfold VH43
  rw [hidF_eq SC, hidF_eq SE, hidF_eq SG, hidF_eq SN, hidF_eq SR, hidF_eq SW, hidF_eq chkE, hidF_eq stG, hidF_eq stN, hidF_eq stT, hidF_eq stW]
  exact h
/-! contend.in -/
def sig29 : CSig := ⟨[⟨false, [.int .i64]⟩, ⟨false, [.int .i64]⟩, ⟨false, [.int .i64]⟩], [⟨false, [.bool]⟩]⟩
def pre29 : List AV → Prop
  | [.i v0, .i v1, .i v2] => True
  | _ => False
noncomputable def raw29 : List AV → List AV
  | [.i v0, .i v1, .i v2] => [.b ((hidF inR) v0 v1 v2)]
  | _ => []

def VH29 : Prop :=
  ∀ (v0 : Int) (v1 : Int) (v2 : Int),
  (True) →
  ((v1 ≤ v0 ∧ v0 ≤ v2) ↔ (hidF inR) v0 v1 v2 = true) ∧ True
def VC29 : Prop :=
  ∀ (v0 : Int) (v1 : Int) (v2 : Int),
  (True) →
  ((v1 ≤ v0 ∧ v0 ≤ v2) ↔ inR v0 v1 v2 = true) ∧ True
theorem vh29 (h : VC29) : VH29 := by
  unfold VH29
  rw [hidF_eq inR]
  exact h
/-! contend.Check -/
def sig14 : CSig := ⟨[⟨true, [.slc [.int .u8, .int .i64, .int .i64, .int .i64, .int .i64, .int .i64, .int .i64], .mat [.bool], .bool, .int .i64]⟩], [⟨false, [.int .i64]⟩]⟩
def pre14 : List AV → Prop
  | [.a v0, .i v1, .m v2l v2f, .i v3, .b v4, .i v5] => u8P v0 v1
  | _ => False
noncomputable def raw14 : List AV → List AV
  | [.a v0, .i v1, .m v2l v2f, .i v3, .b v4, .i v5] => [.i ((hidF ccE) v0 v1 v2l v2f v3 v4 v5)]
  | _ => []

def VH14 : Prop :=
  ∀ (v0 : Int → Nat → Int) (v1 : Int) (v2l : Int → Int) (v2f : Int → Int → Nat → Int) (v3 : Int) (v4 : Bool) (v5 : Int),
  (u8P v0 v1) →
  (0 ≤ v1 →
  (0 ≤ v3 →
  (True) ∧ (∀ (v6 : Bool), v6 = (hidF inR) v1 (2 : Int) (16 : Int) → 
  (v1 ≤ 9223372036854775807 →
  (v3 ≤ 9223372036854775807 →
  ((¬ ((¬ (v6 = true) ∨ ¬ (v3 = v1))) → True)) ∧ (∀ (v7 : Bool), v7 = (hidF inR) v5 (0 : Int) (2000 : Int) → 
  (((¬ (v6 = true) ∨ ¬ (v3 = v1)) ∨ ¬ (v7 = true)) →
    (8 : Int) = (hidF ccE) v0 v1 v2l v2f v3 v4 v5 ∧ True) ∧
  (¬ (((¬ (v6 = true) ∨ ¬ (v3 = v1)) ∨ ¬ (v7 = true))) →
    ∃ (I0 : (Int) → Prop) (μ0 : (Int) → Nat), I0 (0 : Int) ∧ (∀ (v8 : Int), I0 v8 →
      (v8 < v1 →
        0 ≤ v8 ∧ (0 ≤ v8 →
        v8 < v3 ∧ (v8 < v3 →
        (¬ ((v2l v8) = v1) ∨ v8 < (v2l v8)) ∧ ((¬ ((v2l v8) = v1) ∨ v8 < (v2l v8)) →
        (¬ ((v2l v8) = v1) ∨ v8 < (v2l v8)) ∧ ((¬ ((v2l v8) = v1) ∨ v8 < (v2l v8)) →
        ((¬ ((¬ ((v2l v8) = v1) ∨ ¬ (((rowA v2f v8) v8 0) = 0))) → 0 ≤ (v0 v8 0) ∧ (v0 v8 0) ≤ 255)) ∧ (∀ (v9 : Int), v9 = (hidF chkE) (v0 v8 0) (v0 v8 1) (v0 v8 2) (v0 v8 3) → 
        (0 ≤ (v2l v8) →
        ((v2l v8) ≤ 9223372036854775807 →
        (((¬ ((v2l v8) = v1) ∨ ¬ (((rowA v2f v8) v8 0) = 0)) ∨ ¬ (v9 = 0)) →
          (8 : Int) = (hidF ccE) v0 v1 v2l v2f v3 v4 v5 ∧ True) ∧
        (¬ (((¬ ((v2l v8) = v1) ∨ ¬ (((rowA v2f v8) v8 0) = 0)) ∨ ¬ (v9 = 0))) →
          (True) ∧ (∀ (v10 : Bool), v10 = (hidF inR) (v0 v8 4) (0 : Int) (1000 : Int) → 
          ((v10 = true → True)) ∧ (∀ (v11 : Bool), v11 = (hidF inR) (v0 v8 5) (1 : Int) (200 : Int) → 
          ((¬ (v10 = true) ∨ ¬ (v11 = true)) ∨ (-9223372036854775808 ≤ (v1 - 1) ∧ (v1 - 1) ≤ 9223372036854775807)) ∧ (((¬ (v10 = true) ∨ ¬ (v11 = true)) ∨ (-9223372036854775808 ≤ (v1 - 1) ∧ (v1 - 1) ≤ 9223372036854775807)) →
          ((¬ ((¬ (v10 = true) ∨ ¬ (v11 = true))) → True)) ∧ (∀ (v12 : Bool), v12 = (hidF inR) (v0 v8 6) (0 : Int) (v1 - 1) → 
          ((((¬ (v10 = true) ∨ ¬ (v11 = true)) ∨ ¬ (v12 = true)) ∨ (v0 v8 6) = v8) →
            (8 : Int) = (hidF ccE) v0 v1 v2l v2f v3 v4 v5 ∧ True) ∧
          (¬ ((((¬ (v10 = true) ∨ ¬ (v11 = true)) ∨ ¬ (v12 = true)) ∨ (v0 v8 6) = v8)) →
            (-9223372036854775808 ≤ (v8 + 1) ∧ (v8 + 1) ≤ 9223372036854775807) ∧ ((-9223372036854775808 ≤ (v8 + 1) ∧ (v8 + 1) ≤ 9223372036854775807) →
            I0 (v8 + 1) ∧ μ0 (v8 + 1) < μ0 v8))))))))))))))) ∧
      (¬ (v8 < v1) →
        (0 : Int) = (hidF ccE) v0 v1 v2l v2f v3 v4 v5 ∧ True)))))))))
def VC14 : Prop :=
  ∀ (v0 : Int → Nat → Int) (v1 : Int) (v2l : Int → Int) (v2f : Int → Int → Nat → Int) (v3 : Int) (v4 : Bool) (v5 : Int),
  (u8P v0 v1) →
  (0 ≤ v1 →
  (0 ≤ v3 →
  (True) ∧ (∀ (v6 : Bool), v6 = inR v1 (2 : Int) (16 : Int) → 
  (v1 ≤ 9223372036854775807 →
  (v3 ≤ 9223372036854775807 →
  ((¬ ((¬ (v6 = true) ∨ ¬ (v3 = v1))) → True)) ∧ (∀ (v7 : Bool), v7 = inR v5 (0 : Int) (2000 : Int) → 
  (((¬ (v6 = true) ∨ ¬ (v3 = v1)) ∨ ¬ (v7 = true)) →
    (8 : Int) = ccE v0 v1 v2l v2f v3 v4 v5 ∧ True) ∧
  (¬ (((¬ (v6 = true) ∨ ¬ (v3 = v1)) ∨ ¬ (v7 = true))) →
    ∃ (I0 : (Int) → Prop) (μ0 : (Int) → Nat), I0 (0 : Int) ∧ (∀ (v8 : Int), I0 v8 →
      (v8 < v1 →
        0 ≤ v8 ∧ (0 ≤ v8 →
        v8 < v3 ∧ (v8 < v3 →
        (¬ ((v2l v8) = v1) ∨ v8 < (v2l v8)) ∧ ((¬ ((v2l v8) = v1) ∨ v8 < (v2l v8)) →
        (¬ ((v2l v8) = v1) ∨ v8 < (v2l v8)) ∧ ((¬ ((v2l v8) = v1) ∨ v8 < (v2l v8)) →
        ((¬ ((¬ ((v2l v8) = v1) ∨ ¬ (((rowA v2f v8) v8 0) = 0))) → 0 ≤ (v0 v8 0) ∧ (v0 v8 0) ≤ 255)) ∧ (∀ (v9 : Int), v9 = chkE (v0 v8 0) (v0 v8 1) (v0 v8 2) (v0 v8 3) → 
        (0 ≤ (v2l v8) →
        ((v2l v8) ≤ 9223372036854775807 →
        (((¬ ((v2l v8) = v1) ∨ ¬ (((rowA v2f v8) v8 0) = 0)) ∨ ¬ (v9 = 0)) →
          (8 : Int) = ccE v0 v1 v2l v2f v3 v4 v5 ∧ True) ∧
        (¬ (((¬ ((v2l v8) = v1) ∨ ¬ (((rowA v2f v8) v8 0) = 0)) ∨ ¬ (v9 = 0))) →
          (True) ∧ (∀ (v10 : Bool), v10 = inR (v0 v8 4) (0 : Int) (1000 : Int) → 
          ((v10 = true → True)) ∧ (∀ (v11 : Bool), v11 = inR (v0 v8 5) (1 : Int) (200 : Int) → 
          ((¬ (v10 = true) ∨ ¬ (v11 = true)) ∨ (-9223372036854775808 ≤ (v1 - 1) ∧ (v1 - 1) ≤ 9223372036854775807)) ∧ (((¬ (v10 = true) ∨ ¬ (v11 = true)) ∨ (-9223372036854775808 ≤ (v1 - 1) ∧ (v1 - 1) ≤ 9223372036854775807)) →
          ((¬ ((¬ (v10 = true) ∨ ¬ (v11 = true))) → True)) ∧ (∀ (v12 : Bool), v12 = inR (v0 v8 6) (0 : Int) (v1 - 1) → 
          ((((¬ (v10 = true) ∨ ¬ (v11 = true)) ∨ ¬ (v12 = true)) ∨ (v0 v8 6) = v8) →
            (8 : Int) = ccE v0 v1 v2l v2f v3 v4 v5 ∧ True) ∧
          (¬ ((((¬ (v10 = true) ∨ ¬ (v11 = true)) ∨ ¬ (v12 = true)) ∨ (v0 v8 6) = v8)) →
            (-9223372036854775808 ≤ (v8 + 1) ∧ (v8 + 1) ≤ 9223372036854775807) ∧ ((-9223372036854775808 ≤ (v8 + 1) ∧ (v8 + 1) ≤ 9223372036854775807) →
            I0 (v8 + 1) ∧ μ0 (v8 + 1) < μ0 v8))))))))))))))) ∧
      (¬ (v8 < v1) →
        (0 : Int) = ccE v0 v1 v2l v2f v3 v4 v5 ∧ True)))))))))
theorem vh14 (h : VC14) : VH14 := by
  unfold VH14
  rw [hidF_eq ccE, hidF_eq chkE, hidF_eq inR]
  exact h
end Go.Proofs.YtkagcjibneigdaaDoor
