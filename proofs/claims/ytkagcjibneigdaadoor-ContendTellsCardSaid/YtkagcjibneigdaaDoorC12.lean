/- What the functions do, and what is left to show of each. -/
import Derived.Test.YtkagcjibneigdaaDoorC
import Derived.Test.YtkagcjibneigdaaDoorD5
set_option linter.unusedVariables false
namespace Go.Proofs.YtkagcjibneigdaaDoor
open Go Go.RowKit Go.Proofs.YtkagcjibneigdaaDoor.Vc
/-! hotspotref14.Window -/
def sig51 : CSig := ⟨[⟨false, [.int .u8]⟩, ⟨false, [.int .i64]⟩], [⟨false, [.int .i64]⟩, ⟨false, [.int .i64]⟩]⟩
def pre51 : List AV → Prop
  | [.i v0, .i v1] => 0 ≤ v0 ∧ v0 ≤ 255
  | _ => False
noncomputable def raw51 : List AV → List AV
  | [.i v0, .i v1] => [.i ((hidF winW) v0 v1), .i ((hidF winE) v0 v1)]
  | _ => []

def VH51 : Prop :=
 ∀ (v0 : Int) (v1 : Int),
 (0 ≤ v0 ∧ v0 ≤ 255) →
 (((3 < v0 ∨ v1 < 0) ∨ 6 < v1) →
 (0 : Int) = (hidF winW) v0 v1 ∧ (2 : Int) = (hidF winE) v0 v1 ∧ True) ∧
 (¬ (((3 < v0 ∨ v1 < 0) ∨ 6 < v1)) →
 0 ≤ v0 ∧ (0 ≤ v0 →
 v0 < 4 ∧ (v0 < 4 →
 (-9223372036854775808 ≤ ((if (decide (v0 = 0)) = true then (15 : Int) else ((if (decide (v0 = 1)) = true then (15 : Int) else ((if (decide (v0 = 2)) = true then (7 : Int) else (3 : Int)) : Int)) : Int)) + 1) ∧ ((if (decide (v0 = 0)) = true then (15 : Int) else ((if (decide (v0 = 1)) = true then (15 : Int) else ((if (decide (v0 = 2)) = true then (7 : Int) else (3 : Int)) : Int)) : Int)) + 1) ≤ 9223372036854775807) ∧ ((-9223372036854775808 ≤ ((if (decide (v0 = 0)) = true then (15 : Int) else ((if (decide (v0 = 1)) = true then (15 : Int) else ((if (decide (v0 = 2)) = true then (7 : Int) else (3 : Int)) : Int)) : Int)) + 1) ∧ ((if (decide (v0 = 0)) = true then (15 : Int) else ((if (decide (v0 = 1)) = true then (15 : Int) else ((if (decide (v0 = 2)) = true then (7 : Int) else (3 : Int)) : Int)) : Int)) + 1) ≤ 9223372036854775807) →
 ∃ (I0 : (Int) → (Int) → Prop) (μ0 : (Int) → (Int) → Nat), I0 ((if (decide (v0 = 0)) = true then (15 : Int) else ((if (decide (v0 = 1)) = true then (15 : Int) else ((if (decide (v0 = 2)) = true then (7 : Int) else (3 : Int)) : Int)) : Int)) + 1) (0 : Int) ∧ (∀ (v2 : Int) (v3 : Int), I0 v2 v3 →
 (v3 < v1 →
 (-9223372036854775808 ≤ (v2 * 2) ∧ (v2 * 2) ≤ 9223372036854775807) ∧ ((-9223372036854775808 ≤ (v2 * 2) ∧ (v2 * 2) ≤ 9223372036854775807) →
 (-9223372036854775808 ≤ (v3 + 1) ∧ (v3 + 1) ≤ 9223372036854775807) ∧ ((-9223372036854775808 ≤ (v3 + 1) ∧ (v3 + 1) ≤ 9223372036854775807) →
 I0 (v2 * 2) (v3 + 1) ∧ μ0 (v2 * 2) (v3 + 1) < μ0 v2 v3))) ∧
 (¬ (v3 < v1) →
 (-9223372036854775808 ≤ (v2 - 1) ∧ (v2 - 1) ≤ 9223372036854775807) ∧ ((-9223372036854775808 ≤ (v2 - 1) ∧ (v2 - 1) ≤ 9223372036854775807) →
 ((if (decide (v0 = 0)) = true then (1023 : Int) else ((if (decide (v0 = 1)) = true then (1023 : Int) else ((if (decide (v0 = 2)) = true then (15 : Int) else (7 : Int)) : Int)) : Int)) < (v2 - 1) →
 (if (decide (v0 = 0)) = true then (1023 : Int) else ((if (decide (v0 = 1)) = true then (1023 : Int) else ((if (decide (v0 = 2)) = true then (15 : Int) else (7 : Int)) : Int)) : Int)) = (hidF winW) v0 v1 ∧ (0 : Int) = (hidF winE) v0 v1 ∧ True) ∧
 (¬ ((if (decide (v0 = 0)) = true then (1023 : Int) else ((if (decide (v0 = 1)) = true then (1023 : Int) else ((if (decide (v0 = 2)) = true then (15 : Int) else (7 : Int)) : Int)) : Int)) < (v2 - 1)) →
 (v2 - 1) = (hidF winW) v0 v1 ∧ (0 : Int) = (hidF winE) v0 v1 ∧ True))))))))
def VC51 : Prop :=
 ∀ (v0 : Int) (v1 : Int),
 (0 ≤ v0 ∧ v0 ≤ 255) →
 (((3 < v0 ∨ v1 < 0) ∨ 6 < v1) →
 (0 : Int) = winW v0 v1 ∧ (2 : Int) = winE v0 v1 ∧ True) ∧
 (¬ (((3 < v0 ∨ v1 < 0) ∨ 6 < v1)) →
 0 ≤ v0 ∧ (0 ≤ v0 →
 v0 < 4 ∧ (v0 < 4 →
 (-9223372036854775808 ≤ ((if (decide (v0 = 0)) = true then (15 : Int) else ((if (decide (v0 = 1)) = true then (15 : Int) else ((if (decide (v0 = 2)) = true then (7 : Int) else (3 : Int)) : Int)) : Int)) + 1) ∧ ((if (decide (v0 = 0)) = true then (15 : Int) else ((if (decide (v0 = 1)) = true then (15 : Int) else ((if (decide (v0 = 2)) = true then (7 : Int) else (3 : Int)) : Int)) : Int)) + 1) ≤ 9223372036854775807) ∧ ((-9223372036854775808 ≤ ((if (decide (v0 = 0)) = true then (15 : Int) else ((if (decide (v0 = 1)) = true then (15 : Int) else ((if (decide (v0 = 2)) = true then (7 : Int) else (3 : Int)) : Int)) : Int)) + 1) ∧ ((if (decide (v0 = 0)) = true then (15 : Int) else ((if (decide (v0 = 1)) = true then (15 : Int) else ((if (decide (v0 = 2)) = true then (7 : Int) else (3 : Int)) : Int)) : Int)) + 1) ≤ 9223372036854775807) →
 ∃ (I0 : (Int) → (Int) → Prop) (μ0 : (Int) → (Int) → Nat), I0 ((if (decide (v0 = 0)) = true then (15 : Int) else ((if (decide (v0 = 1)) = true then (15 : Int) else ((if (decide (v0 = 2)) = true then (7 : Int) else (3 : Int)) : Int)) : Int)) + 1) (0 : Int) ∧ (∀ (v2 : Int) (v3 : Int), I0 v2 v3 →
 (v3 < v1 →
 (-9223372036854775808 ≤ (v2 * 2) ∧ (v2 * 2) ≤ 9223372036854775807) ∧ ((-9223372036854775808 ≤ (v2 * 2) ∧ (v2 * 2) ≤ 9223372036854775807) →
 (-9223372036854775808 ≤ (v3 + 1) ∧ (v3 + 1) ≤ 9223372036854775807) ∧ ((-9223372036854775808 ≤ (v3 + 1) ∧ (v3 + 1) ≤ 9223372036854775807) →
 I0 (v2 * 2) (v3 + 1) ∧ μ0 (v2 * 2) (v3 + 1) < μ0 v2 v3))) ∧
 (¬ (v3 < v1) →
 (-9223372036854775808 ≤ (v2 - 1) ∧ (v2 - 1) ≤ 9223372036854775807) ∧ ((-9223372036854775808 ≤ (v2 - 1) ∧ (v2 - 1) ≤ 9223372036854775807) →
 ((if (decide (v0 = 0)) = true then (1023 : Int) else ((if (decide (v0 = 1)) = true then (1023 : Int) else ((if (decide (v0 = 2)) = true then (15 : Int) else (7 : Int)) : Int)) : Int)) < (v2 - 1) →
 (if (decide (v0 = 0)) = true then (1023 : Int) else ((if (decide (v0 = 1)) = true then (1023 : Int) else ((if (decide (v0 = 2)) = true then (15 : Int) else (7 : Int)) : Int)) : Int)) = winW v0 v1 ∧ (0 : Int) = winE v0 v1 ∧ True) ∧
 (¬ ((if (decide (v0 = 0)) = true then (1023 : Int) else ((if (decide (v0 = 1)) = true then (1023 : Int) else ((if (decide (v0 = 2)) = true then (15 : Int) else (7 : Int)) : Int)) : Int)) < (v2 - 1)) →
 (v2 - 1) = winW v0 v1 ∧ (0 : Int) = winE v0 v1 ∧ True))))))))
theorem vh51 (h : VC51) : VH51 := by
  unfold VH51
  rw [hidF_eq winE, hidF_eq winW]
  exact h
/-! hotspotref14.Check -/
def sig39 : CSig := ⟨[⟨true, [.int .u8, .int .i64, .int .i64, .int .i64]⟩], [⟨false, [.int .i64]⟩]⟩
def pre39 : List AV → Prop
  | [.i v0, .i v1, .i v2, .i v3] => 0 ≤ v0 ∧ v0 ≤ 255
  | _ => False
noncomputable def raw39 : List AV → List AV
  | [.i v0, .i v1, .i v2, .i v3] => [.i ((hidF chkE) v0 v1 v2 v3)]
  | _ => []

def VH39 : Prop :=
 ∀ (v0 : Int) (v1 : Int) (v2 : Int) (v3 : Int),
 (0 ≤ v0 ∧ v0 ≤ 255) →
 (0 ≤ v0 ∧ v0 ≤ 255) ∧ (∀ (v4 : Int) (v5 : Int), v4 = (hidF winW) v0 v3 → v5 = (hidF winE) v0 v3 → 
 ((((¬ (v5 = 0) ∨ ¬ (v4 = v1)) ∨ v2 < 0) ∨ v4 < v2) →
 (8 : Int) = (hidF chkE) v0 v1 v2 v3 ∧ True) ∧
 (¬ ((((¬ (v5 = 0) ∨ ¬ (v4 = v1)) ∨ v2 < 0) ∨ v4 < v2)) →
 (0 : Int) = (hidF chkE) v0 v1 v2 v3 ∧ True))
def VC39 : Prop :=
 ∀ (v0 : Int) (v1 : Int) (v2 : Int) (v3 : Int),
 (0 ≤ v0 ∧ v0 ≤ 255) →
 (0 ≤ v0 ∧ v0 ≤ 255) ∧ (∀ (v4 : Int) (v5 : Int), v4 = winW v0 v3 → v5 = winE v0 v3 → 
 ((((¬ (v5 = 0) ∨ ¬ (v4 = v1)) ∨ v2 < 0) ∨ v4 < v2) →
 (8 : Int) = chkE v0 v1 v2 v3 ∧ True) ∧
 (¬ ((((¬ (v5 = 0) ∨ ¬ (v4 = v1)) ∨ v2 < 0) ∨ v4 < v2)) →
 (0 : Int) = chkE v0 v1 v2 v3 ∧ True))
theorem vh39 (h : VC39) : VH39 := by
  unfold VH39
  rw [hidF_eq chkE, hidF_eq winE, hidF_eq winW]
  exact h
/-! hotspotref14.Fits -/
def sig33 : CSig := ⟨[⟨false, [.int .i64]⟩], [⟨false, [.bool]⟩]⟩
def pre33 : List AV → Prop
  | [.i v0] => True
  | _ => False
noncomputable def raw33 : List AV → List AV
  | [.i v0] => [.b ((hidF fitA) v0)]
  | _ => []

def VH33 : Prop :=
 ∀ (v0 : Int),
 (True) →
 ((0 ≤ v0 ∧ v0 ≤ 1099511627776) ↔ (hidF fitA) v0 = true) ∧ True
def VC33 : Prop :=
 ∀ (v0 : Int),
 (True) →
 ((0 ≤ v0 ∧ v0 ≤ 1099511627776) ↔ fitA v0 = true) ∧ True
theorem vh33 (h : VC33) : VH33 := by
  unfold VH33
  rw [hidF_eq fitA]
  exact h
/-! hotspotref14.Fresh -/
def sig55 : CSig := ⟨[⟨false, [.int .u8]⟩, ⟨false, [.int .i64]⟩, ⟨false, [.int .i64]⟩], [⟨true, [.int .u8, .int .i64, .int .i64, .int .i64]⟩]⟩
def pre55 : List AV → Prop
  | [.i v0, .i v1, .i v2] => 0 ≤ v0 ∧ v0 ≤ 3 ∧ 0 ≤ v1 ∧ v1 ≤ 6 ∧ 0 ≤ v2 ∧ v2 ≤ 1099511627776
  | _ => False
noncomputable def raw55 : List AV → List AV
  | [.i v0, .i v1, .i v2] => [.i (v0), .i ((hidF aft) v0 v1), .i ((hidF drN) v0 v1 v2), .i (v1)]
  | _ => []

def VH55 : Prop :=
 ∀ (v0 : Int) (v1 : Int) (v2 : Int),
 (0 ≤ v0 ∧ v0 ≤ 3 ∧ 0 ≤ v1 ∧ v1 ≤ 6 ∧ 0 ≤ v2 ∧ v2 ≤ 1099511627776) →
 (0 ≤ v0 ∧ v0 ≤ 255) ∧ (∀ (v3 : Int) (v4 : Int), v3 = (hidF winW) v0 v1 → v4 = (hidF winE) v0 v1 → 
 (-9223372036854775808 ≤ (v3 + 1) ∧ (v3 + 1) ≤ 9223372036854775807) ∧ ((-9223372036854775808 ≤ (v3 + 1) ∧ (v3 + 1) ≤ 9223372036854775807) →
 ¬ ((v3 + 1) = 0) ∧ (¬ ((v3 + 1) = 0) →
 v0 = v0 ∧ v3 = (hidF aft) v0 v1 ∧ (Int.tmod v2 (v3 + 1)) = (hidF drN) v0 v1 v2 ∧ v1 = v1 ∧ True)))
def VC55 : Prop :=
 ∀ (v0 : Int) (v1 : Int) (v2 : Int),
 (0 ≤ v0 ∧ v0 ≤ 3 ∧ 0 ≤ v1 ∧ v1 ≤ 6 ∧ 0 ≤ v2 ∧ v2 ≤ 1099511627776) →
 (0 ≤ v0 ∧ v0 ≤ 255) ∧ (∀ (v3 : Int) (v4 : Int), v3 = winW v0 v1 → v4 = winE v0 v1 → 
 (-9223372036854775808 ≤ (v3 + 1) ∧ (v3 + 1) ≤ 9223372036854775807) ∧ ((-9223372036854775808 ≤ (v3 + 1) ∧ (v3 + 1) ≤ 9223372036854775807) →
 ¬ ((v3 + 1) = 0) ∧ (¬ ((v3 + 1) = 0) →
 v0 = v0 ∧ v3 = aft v0 v1 ∧ (Int.tmod v2 (v3 + 1)) = drN v0 v1 v2 ∧ v1 = v1 ∧ True)))
theorem vh55 (h : VC55) : VH55 := by
  unfold VH55
  rw [hidF_eq aft, hidF_eq drN, hidF_eq winE, hidF_eq winW]
  exact h
/-! hotspotref14.Fail -/
def sig56 : CSig := ⟨[⟨true, [.int .u8, .int .i64, .int .i64, .int .i64]⟩, ⟨false, [.int .i64]⟩], [⟨true, [.int .u8, .int .i64, .int .i64, .int .i64]⟩, ⟨false, [.bool]⟩]⟩
def pre56 : List AV → Prop
  | [.i v0, .i v1, .i v2, .i v3, .i v4] => 0 ≤ v0 ∧ v0 ≤ 3 ∧ 0 ≤ v3 ∧ v3 ≤ 6 ∧ 0 ≤ v2 ∧ 0 ≤ v4 ∧ v4 ≤ 1099511627776
  | _ => False
noncomputable def raw56 : List AV → List AV
  | [.i v0, .i v1, .i v2, .i v3, .i v4] => [.i (v0), .i ((hidF stW) v0 v1 v2 v3 3 v4), .i ((hidF stN) v0 v1 v2 v3 3 v4), .i ((hidF stT) v0 v1 v2 v3 3 v4), .b ((hidF stG) v0 v1 v2 v3 3 v4)]
  | _ => []

def VH56 : Prop :=
 ∀ (v0 : Int) (v1 : Int) (v2 : Int) (v3 : Int) (v4 : Int),
 (0 ≤ v0 ∧ v0 ≤ 3 ∧ 0 ≤ v3 ∧ v3 ≤ 6 ∧ 0 ≤ v2 ∧ 0 ≤ v4 ∧ v4 ≤ 1099511627776) →
 (v3 = 6 →
 (0 ≤ v0 ∧ v0 ≤ 3 ∧ 0 ≤ (0 : Int) ∧ (0 : Int) ≤ 6 ∧ 0 ≤ v4 ∧ v4 ≤ 1099511627776) ∧ (∀ (v5 : Int) (v6 : Int) (v7 : Int) (v8 : Int), v5 = v0 → v6 = (hidF aft) v0 (0 : Int) → v7 = (hidF drN) v0 (0 : Int) v4 → v8 = (0 : Int) → 
 v5 = v0 ∧ v6 = (hidF stW) v0 v1 v2 v3 3 v4 ∧ v7 = (hidF stN) v0 v1 v2 v3 3 v4 ∧ v8 = (hidF stT) v0 v1 v2 v3 3 v4 ∧ (True ↔ (hidF stG) v0 v1 v2 v3 3 v4 = true) ∧ True)) ∧
 (¬ (v3 = 6) →
 (-9223372036854775808 ≤ (v3 + 1) ∧ (v3 + 1) ≤ 9223372036854775807) ∧ ((-9223372036854775808 ≤ (v3 + 1) ∧ (v3 + 1) ≤ 9223372036854775807) →
 (0 ≤ v0 ∧ v0 ≤ 3 ∧ 0 ≤ (v3 + 1) ∧ (v3 + 1) ≤ 6 ∧ 0 ≤ v4 ∧ v4 ≤ 1099511627776) ∧ (∀ (v5 : Int) (v6 : Int) (v7 : Int) (v8 : Int), v5 = v0 → v6 = (hidF aft) v0 (v3 + 1) → v7 = (hidF drN) v0 (v3 + 1) v4 → v8 = (v3 + 1) → 
 v5 = v0 ∧ v6 = (hidF stW) v0 v1 v2 v3 3 v4 ∧ v7 = (hidF stN) v0 v1 v2 v3 3 v4 ∧ v8 = (hidF stT) v0 v1 v2 v3 3 v4 ∧ (False ↔ (hidF stG) v0 v1 v2 v3 3 v4 = true) ∧ True)))
def VC56 : Prop :=
 ∀ (v0 : Int) (v1 : Int) (v2 : Int) (v3 : Int) (v4 : Int),
 (0 ≤ v0 ∧ v0 ≤ 3 ∧ 0 ≤ v3 ∧ v3 ≤ 6 ∧ 0 ≤ v2 ∧ 0 ≤ v4 ∧ v4 ≤ 1099511627776) →
 (v3 = 6 →
 (0 ≤ v0 ∧ v0 ≤ 3 ∧ 0 ≤ (0 : Int) ∧ (0 : Int) ≤ 6 ∧ 0 ≤ v4 ∧ v4 ≤ 1099511627776) ∧ (∀ (v5 : Int) (v6 : Int) (v7 : Int) (v8 : Int), v5 = v0 → v6 = aft v0 (0 : Int) → v7 = drN v0 (0 : Int) v4 → v8 = (0 : Int) → 
 v5 = v0 ∧ v6 = stW v0 v1 v2 v3 3 v4 ∧ v7 = stN v0 v1 v2 v3 3 v4 ∧ v8 = stT v0 v1 v2 v3 3 v4 ∧ (True ↔ stG v0 v1 v2 v3 3 v4 = true) ∧ True)) ∧
 (¬ (v3 = 6) →
 (-9223372036854775808 ≤ (v3 + 1) ∧ (v3 + 1) ≤ 9223372036854775807) ∧ ((-9223372036854775808 ≤ (v3 + 1) ∧ (v3 + 1) ≤ 9223372036854775807) →
 (0 ≤ v0 ∧ v0 ≤ 3 ∧ 0 ≤ (v3 + 1) ∧ (v3 + 1) ≤ 6 ∧ 0 ≤ v4 ∧ v4 ≤ 1099511627776) ∧ (∀ (v5 : Int) (v6 : Int) (v7 : Int) (v8 : Int), v5 = v0 → v6 = aft v0 (v3 + 1) → v7 = drN v0 (v3 + 1) v4 → v8 = (v3 + 1) → 
 v5 = v0 ∧ v6 = stW v0 v1 v2 v3 3 v4 ∧ v7 = stN v0 v1 v2 v3 3 v4 ∧ v8 = stT v0 v1 v2 v3 3 v4 ∧ (False ↔ stG v0 v1 v2 v3 3 v4 = true) ∧ True)))
theorem vh56 (h : VC56) : VH56 := by
  unfold VH56
  rw [hidF_eq aft, hidF_eq drN, hidF_eq stG, hidF_eq stN, hidF_eq stT, hidF_eq stW]
  exact h
/-! hotspotref14.Step -/
def sig48 : CSig := ⟨[⟨true, [.int .u8, .int .i64, .int .i64, .int .i64]⟩, ⟨false, [.int .u8]⟩, ⟨false, [.int .i64]⟩], [⟨true, [.int .u8, .int .i64, .int .i64, .int .i64]⟩, ⟨false, [.bool]⟩, ⟨false, [.int .i64]⟩]⟩
def pre48 : List AV → Prop
  | [.i v0, .i v1, .i v2, .i v3, .i v4, .i v5] => 0 ≤ v0 ∧ v0 ≤ 255 ∧ 0 ≤ v4 ∧ v4 ≤ 255
  | _ => False
noncomputable def raw48 : List AV → List AV
  | [.i v0, .i v1, .i v2, .i v3, .i v4, .i v5] => [.i ((hidF SC) v0 v1 v2 v3 v4 v5), .i ((hidF SW) v0 v1 v2 v3 v4 v5), .i ((hidF SN) v0 v1 v2 v3 v4 v5), .i ((hidF SR) v0 v1 v2 v3 v4 v5), .b ((hidF SG) v0 v1 v2 v3 v4 v5), .i ((hidF SE) v0 v1 v2 v3 v4 v5)]
  | _ => []

def VH48 : Prop :=
 ∀ (v0 : Int) (v1 : Int) (v2 : Int) (v3 : Int) (v4 : Int) (v5 : Int),
 (0 ≤ v0 ∧ v0 ≤ 255 ∧ 0 ≤ v4 ∧ v4 ≤ 255) →
 (0 ≤ v0 ∧ v0 ≤ 255) ∧ (∀ (v6 : Int), v6 = (hidF chkE) v0 v1 v2 v3 → 
 (¬ (v6 = 0) →
 (0 : Int) = (hidF SC) v0 v1 v2 v3 v4 v5 ∧ (0 : Int) = (hidF SW) v0 v1 v2 v3 v4 v5 ∧ (0 : Int) = (hidF SN) v0 v1 v2 v3 v4 v5 ∧ (0 : Int) = (hidF SR) v0 v1 v2 v3 v4 v5 ∧ (False ↔ (hidF SG) v0 v1 v2 v3 v4 v5 = true) ∧ (8 : Int) = (hidF SE) v0 v1 v2 v3 v4 v5 ∧ True) ∧
 (¬ (¬ (v6 = 0)) →
 ((¬ (3 < v4) → True)) ∧ (∀ (v7 : Bool), v7 = (hidF fitA) v5 → 
 ((3 < v4 ∨ ¬ (v7 = true)) →
 (0 : Int) = (hidF SC) v0 v1 v2 v3 v4 v5 ∧ (0 : Int) = (hidF SW) v0 v1 v2 v3 v4 v5 ∧ (0 : Int) = (hidF SN) v0 v1 v2 v3 v4 v5 ∧ (0 : Int) = (hidF SR) v0 v1 v2 v3 v4 v5 ∧ (False ↔ (hidF SG) v0 v1 v2 v3 v4 v5 = true) ∧ (2 : Int) = (hidF SE) v0 v1 v2 v3 v4 v5 ∧ True) ∧
 (¬ ((3 < v4 ∨ ¬ (v7 = true))) →
 (v4 = 0 →
 (0 < v2 →
 (-9223372036854775808 ≤ (v2 - 1) ∧ (v2 - 1) ≤ 9223372036854775807) ∧ ((-9223372036854775808 ≤ (v2 - 1) ∧ (v2 - 1) ≤ 9223372036854775807) →
 v0 = (hidF SC) v0 v1 v2 v3 v4 v5 ∧ v1 = (hidF SW) v0 v1 v2 v3 v4 v5 ∧ (v2 - 1) = (hidF SN) v0 v1 v2 v3 v4 v5 ∧ v3 = (hidF SR) v0 v1 v2 v3 v4 v5 ∧ (False ↔ (hidF SG) v0 v1 v2 v3 v4 v5 = true) ∧ (0 : Int) = (hidF SE) v0 v1 v2 v3 v4 v5 ∧ True)) ∧
 (¬ (0 < v2) →
 v0 = (hidF SC) v0 v1 v2 v3 v4 v5 ∧ v1 = (hidF SW) v0 v1 v2 v3 v4 v5 ∧ v2 = (hidF SN) v0 v1 v2 v3 v4 v5 ∧ v3 = (hidF SR) v0 v1 v2 v3 v4 v5 ∧ (False ↔ (hidF SG) v0 v1 v2 v3 v4 v5 = true) ∧ (0 : Int) = (hidF SE) v0 v1 v2 v3 v4 v5 ∧ True)) ∧
 (¬ (v4 = 0) →
 (v4 = 1 →
 v0 = (hidF SC) v0 v1 v2 v3 v4 v5 ∧ v1 = (hidF SW) v0 v1 v2 v3 v4 v5 ∧ v2 = (hidF SN) v0 v1 v2 v3 v4 v5 ∧ v3 = (hidF SR) v0 v1 v2 v3 v4 v5 ∧ (False ↔ (hidF SG) v0 v1 v2 v3 v4 v5 = true) ∧ (0 : Int) = (hidF SE) v0 v1 v2 v3 v4 v5 ∧ True) ∧
 (¬ (v4 = 1) →
 (0 < v2 →
 (0 : Int) = (hidF SC) v0 v1 v2 v3 v4 v5 ∧ (0 : Int) = (hidF SW) v0 v1 v2 v3 v4 v5 ∧ (0 : Int) = (hidF SN) v0 v1 v2 v3 v4 v5 ∧ (0 : Int) = (hidF SR) v0 v1 v2 v3 v4 v5 ∧ (False ↔ (hidF SG) v0 v1 v2 v3 v4 v5 = true) ∧ (20 : Int) = (hidF SE) v0 v1 v2 v3 v4 v5 ∧ True) ∧
 (¬ (0 < v2) →
 (v4 = 2 →
 (0 ≤ v0 ∧ v0 ≤ 3 ∧ 0 ≤ (0 : Int) ∧ (0 : Int) ≤ 6 ∧ 0 ≤ v5 ∧ v5 ≤ 1099511627776) ∧ (∀ (v8 : Int) (v9 : Int) (v10 : Int) (v11 : Int), v8 = v0 → v9 = (hidF aft) v0 (0 : Int) → v10 = (hidF drN) v0 (0 : Int) v5 → v11 = (0 : Int) → 
 v8 = (hidF SC) v0 v1 v2 v3 v4 v5 ∧ v9 = (hidF SW) v0 v1 v2 v3 v4 v5 ∧ v10 = (hidF SN) v0 v1 v2 v3 v4 v5 ∧ v11 = (hidF SR) v0 v1 v2 v3 v4 v5 ∧ (False ↔ (hidF SG) v0 v1 v2 v3 v4 v5 = true) ∧ (0 : Int) = (hidF SE) v0 v1 v2 v3 v4 v5 ∧ True)) ∧
 (¬ (v4 = 2) →
 (0 ≤ v0 ∧ v0 ≤ 3 ∧ 0 ≤ v3 ∧ v3 ≤ 6 ∧ 0 ≤ v2 ∧ 0 ≤ v5 ∧ v5 ≤ 1099511627776) ∧ (∀ (v8 : Int) (v9 : Int) (v10 : Int) (v11 : Int) (v12 : Bool), v8 = v0 → v9 = (hidF stW) v0 v1 v2 v3 3 v5 → v10 = (hidF stN) v0 v1 v2 v3 3 v5 → v11 = (hidF stT) v0 v1 v2 v3 3 v5 → v12 = (hidF stG) v0 v1 v2 v3 3 v5 → 
 v8 = (hidF SC) v0 v1 v2 v3 v4 v5 ∧ v9 = (hidF SW) v0 v1 v2 v3 v4 v5 ∧ v10 = (hidF SN) v0 v1 v2 v3 v4 v5 ∧ v11 = (hidF SR) v0 v1 v2 v3 v4 v5 ∧ (v12 = true ↔ (hidF SG) v0 v1 v2 v3 v4 v5 = true) ∧ (0 : Int) = (hidF SE) v0 v1 v2 v3 v4 v5 ∧ True)))))))))
def VC48 : Prop :=
 ∀ (v0 : Int) (v1 : Int) (v2 : Int) (v3 : Int) (v4 : Int) (v5 : Int),
 (0 ≤ v0 ∧ v0 ≤ 255 ∧ 0 ≤ v4 ∧ v4 ≤ 255) →
 (0 ≤ v0 ∧ v0 ≤ 255) ∧ (∀ (v6 : Int), v6 = chkE v0 v1 v2 v3 → 
 (¬ (v6 = 0) →
 (0 : Int) = SC v0 v1 v2 v3 v4 v5 ∧ (0 : Int) = SW v0 v1 v2 v3 v4 v5 ∧ (0 : Int) = SN v0 v1 v2 v3 v4 v5 ∧ (0 : Int) = SR v0 v1 v2 v3 v4 v5 ∧ (False ↔ SG v0 v1 v2 v3 v4 v5 = true) ∧ (8 : Int) = SE v0 v1 v2 v3 v4 v5 ∧ True) ∧
 (¬ (¬ (v6 = 0)) →
 ((¬ (3 < v4) → True)) ∧ (∀ (v7 : Bool), v7 = fitA v5 → 
 ((3 < v4 ∨ ¬ (v7 = true)) →
 (0 : Int) = SC v0 v1 v2 v3 v4 v5 ∧ (0 : Int) = SW v0 v1 v2 v3 v4 v5 ∧ (0 : Int) = SN v0 v1 v2 v3 v4 v5 ∧ (0 : Int) = SR v0 v1 v2 v3 v4 v5 ∧ (False ↔ SG v0 v1 v2 v3 v4 v5 = true) ∧ (2 : Int) = SE v0 v1 v2 v3 v4 v5 ∧ True) ∧
 (¬ ((3 < v4 ∨ ¬ (v7 = true))) →
 (v4 = 0 →
 (0 < v2 →
 (-9223372036854775808 ≤ (v2 - 1) ∧ (v2 - 1) ≤ 9223372036854775807) ∧ ((-9223372036854775808 ≤ (v2 - 1) ∧ (v2 - 1) ≤ 9223372036854775807) →
 v0 = SC v0 v1 v2 v3 v4 v5 ∧ v1 = SW v0 v1 v2 v3 v4 v5 ∧ (v2 - 1) = SN v0 v1 v2 v3 v4 v5 ∧ v3 = SR v0 v1 v2 v3 v4 v5 ∧ (False ↔ SG v0 v1 v2 v3 v4 v5 = true) ∧ (0 : Int) = SE v0 v1 v2 v3 v4 v5 ∧ True)) ∧
 (¬ (0 < v2) →
 v0 = SC v0 v1 v2 v3 v4 v5 ∧ v1 = SW v0 v1 v2 v3 v4 v5 ∧ v2 = SN v0 v1 v2 v3 v4 v5 ∧ v3 = SR v0 v1 v2 v3 v4 v5 ∧ (False ↔ SG v0 v1 v2 v3 v4 v5 = true) ∧ (0 : Int) = SE v0 v1 v2 v3 v4 v5 ∧ True)) ∧
 (¬ (v4 = 0) →
 (v4 = 1 →
 v0 = SC v0 v1 v2 v3 v4 v5 ∧ v1 = SW v0 v1 v2 v3 v4 v5 ∧ v2 = SN v0 v1 v2 v3 v4 v5 ∧ v3 = SR v0 v1 v2 v3 v4 v5 ∧ (False ↔ SG v0 v1 v2 v3 v4 v5 = true) ∧ (0 : Int) = SE v0 v1 v2 v3 v4 v5 ∧ True) ∧
 (¬ (v4 = 1) →
 (0 < v2 →
 (0 : Int) = SC v0 v1 v2 v3 v4 v5 ∧ (0 : Int) = SW v0 v1 v2 v3 v4 v5 ∧ (0 : Int) = SN v0 v1 v2 v3 v4 v5 ∧ (0 : Int) = SR v0 v1 v2 v3 v4 v5 ∧ (False ↔ SG v0 v1 v2 v3 v4 v5 = true) ∧ (20 : Int) = SE v0 v1 v2 v3 v4 v5 ∧ True) ∧
 (¬ (0 < v2) →
 (v4 = 2 →
 (0 ≤ v0 ∧ v0 ≤ 3 ∧ 0 ≤ (0 : Int) ∧ (0 : Int) ≤ 6 ∧ 0 ≤ v5 ∧ v5 ≤ 1099511627776) ∧ (∀ (v8 : Int) (v9 : Int) (v10 : Int) (v11 : Int), v8 = v0 → v9 = aft v0 (0 : Int) → v10 = drN v0 (0 : Int) v5 → v11 = (0 : Int) → 
 v8 = SC v0 v1 v2 v3 v4 v5 ∧ v9 = SW v0 v1 v2 v3 v4 v5 ∧ v10 = SN v0 v1 v2 v3 v4 v5 ∧ v11 = SR v0 v1 v2 v3 v4 v5 ∧ (False ↔ SG v0 v1 v2 v3 v4 v5 = true) ∧ (0 : Int) = SE v0 v1 v2 v3 v4 v5 ∧ True)) ∧
 (¬ (v4 = 2) →
 (0 ≤ v0 ∧ v0 ≤ 3 ∧ 0 ≤ v3 ∧ v3 ≤ 6 ∧ 0 ≤ v2 ∧ 0 ≤ v5 ∧ v5 ≤ 1099511627776) ∧ (∀ (v8 : Int) (v9 : Int) (v10 : Int) (v11 : Int) (v12 : Bool), v8 = v0 → v9 = stW v0 v1 v2 v3 3 v5 → v10 = stN v0 v1 v2 v3 3 v5 → v11 = stT v0 v1 v2 v3 3 v5 → v12 = stG v0 v1 v2 v3 3 v5 → 
 v8 = SC v0 v1 v2 v3 v4 v5 ∧ v9 = SW v0 v1 v2 v3 v4 v5 ∧ v10 = SN v0 v1 v2 v3 v4 v5 ∧ v11 = SR v0 v1 v2 v3 v4 v5 ∧ (v12 = true ↔ SG v0 v1 v2 v3 v4 v5 = true) ∧ (0 : Int) = SE v0 v1 v2 v3 v4 v5 ∧ True)))))))))
theorem vh48 (h : VC48) : VH48 := by
  unfold VH48
  rw [hidF_eq SC, hidF_eq SE, hidF_eq SG, hidF_eq SN, hidF_eq SR, hidF_eq SW, hidF_eq aft, hidF_eq chkE, hidF_eq drN, hidF_eq fitA, hidF_eq stG, hidF_eq stN, hidF_eq stT, hidF_eq stW]
  exact h
/-! hotspotref10.In -/
def sig38 : CSig := ⟨[⟨false, [.int .i64]⟩, ⟨false, [.int .i64]⟩, ⟨false, [.int .i64]⟩], [⟨false, [.bool]⟩]⟩
def pre38 : List AV → Prop
  | [.i v0, .i v1, .i v2] => True
  | _ => False
noncomputable def raw38 : List AV → List AV
  | [.i v0, .i v1, .i v2] => [.b ((hidF inR) v0 v1 v2)]
  | _ => []

def VH38 : Prop :=
 ∀ (v0 : Int) (v1 : Int) (v2 : Int),
 (True) →
 ((v1 ≤ v0 ∧ v0 ≤ v2) ↔ (hidF inR) v0 v1 v2 = true) ∧ True
def VC38 : Prop :=
 ∀ (v0 : Int) (v1 : Int) (v2 : Int),
 (True) →
 ((v1 ≤ v0 ∧ v0 ≤ v2) ↔ inR v0 v1 v2 = true) ∧ True
theorem vh38 (h : VC38) : VH38 := by
  unfold VH38
  rw [hidF_eq inR]
  exact h
/-! hotspotref16.Check -/
def sig22 : CSig := ⟨[⟨true, [.slc [.int .u8, .int .i64, .int .i64, .int .i64, .int .i64, .int .i64, .int .i64], .mat [.bool], .bool, .int .i64]⟩], [⟨false, [.int .i64]⟩]⟩
def pre22 : List AV → Prop
  | [.a v0, .i v1, .m v2l v2f, .i v3, .b v4, .i v5] => u8P v0 v1
  | _ => False
noncomputable def raw22 : List AV → List AV
  | [.a v0, .i v1, .m v2l v2f, .i v3, .b v4, .i v5] => [.i ((hidF ccE) v0 v1 v2l v2f v3 v4 v5)]
  | _ => []

def VH22 : Prop :=
 ∀ (v0 : Int → Nat → Int) (v1 : Int) (v2l : Int → Int) (v2f : Int → Int → Nat → Int) (v3 : Int) (v4 : Bool) (v5 : Int),
 (u8P v0 v1) →
 (0 ≤ v1 →
 (0 ≤ v3 →
 ((¬ (((v1 < 2 ∨ 16 < v1) ∨ ¬ (v3 = v1))) → True)) ∧ (∀ (v6 : Bool), v6 = (hidF inR) v5 (0 : Int) (2000 : Int) → 
 (v1 ≤ 9223372036854775807 →
 (v3 ≤ 9223372036854775807 →
 ((((v1 < 2 ∨ 16 < v1) ∨ ¬ (v3 = v1)) ∨ ¬ (v6 = true)) →
 (8 : Int) = (hidF ccE) v0 v1 v2l v2f v3 v4 v5 ∧ True) ∧
 (¬ ((((v1 < 2 ∨ 16 < v1) ∨ ¬ (v3 = v1)) ∨ ¬ (v6 = true))) →
 ∃ (I0 : (Int) → Prop) (μ0 : (Int) → Nat), I0 (0 : Int) ∧ (∀ (v7 : Int), I0 v7 →
 (v7 < v1 →
 0 ≤ v7 ∧ (0 ≤ v7 →
 v7 < v3 ∧ (v7 < v3 →
 (¬ ((v2l v7) = v1) ∨ v7 < (v2l v7)) ∧ ((¬ ((v2l v7) = v1) ∨ v7 < (v2l v7)) →
 (¬ ((v2l v7) = v1) ∨ v7 < (v2l v7)) ∧ ((¬ ((v2l v7) = v1) ∨ v7 < (v2l v7)) →
 ((¬ ((¬ ((v2l v7) = v1) ∨ ¬ (((rowA v2f v7) v7 0) = 0))) → 0 ≤ (v0 v7 0) ∧ (v0 v7 0) ≤ 255)) ∧ (∀ (v8 : Int), v8 = (hidF chkE) (v0 v7 0) (v0 v7 1) (v0 v7 2) (v0 v7 3) → 
 (0 ≤ (v2l v7) →
 ((v2l v7) ≤ 9223372036854775807 →
 ((¬ (((¬ ((v2l v7) = v1) ∨ ¬ (((rowA v2f v7) v7 0) = 0)) ∨ ¬ (v8 = 0))) → True)) ∧ (∀ (v9 : Bool), v9 = (hidF inR) (v0 v7 4) (0 : Int) (1000 : Int) → 
 ((¬ ((((¬ ((v2l v7) = v1) ∨ ¬ (((rowA v2f v7) v7 0) = 0)) ∨ ¬ (v8 = 0)) ∨ ¬ (v9 = true))) → True)) ∧ (∀ (v10 : Bool), v10 = (hidF inR) (v0 v7 5) (1 : Int) (200 : Int) → 
 (((((¬ ((v2l v7) = v1) ∨ ¬ (((rowA v2f v7) v7 0) = 0)) ∨ ¬ (v8 = 0)) ∨ ¬ (v9 = true)) ∨ ¬ (v10 = true)) ∨ (-9223372036854775808 ≤ (v1 - 1) ∧ (v1 - 1) ≤ 9223372036854775807)) ∧ ((((((¬ ((v2l v7) = v1) ∨ ¬ (((rowA v2f v7) v7 0) = 0)) ∨ ¬ (v8 = 0)) ∨ ¬ (v9 = true)) ∨ ¬ (v10 = true)) ∨ (-9223372036854775808 ≤ (v1 - 1) ∧ (v1 - 1) ≤ 9223372036854775807)) →
 ((¬ (((((¬ ((v2l v7) = v1) ∨ ¬ (((rowA v2f v7) v7 0) = 0)) ∨ ¬ (v8 = 0)) ∨ ¬ (v9 = true)) ∨ ¬ (v10 = true))) → True)) ∧ (∀ (v11 : Bool), v11 = (hidF inR) (v0 v7 6) (0 : Int) (v1 - 1) → 
 (((((((¬ ((v2l v7) = v1) ∨ ¬ (((rowA v2f v7) v7 0) = 0)) ∨ ¬ (v8 = 0)) ∨ ¬ (v9 = true)) ∨ ¬ (v10 = true)) ∨ ¬ (v11 = true)) ∨ (v0 v7 6) = v7) →
 (8 : Int) = (hidF ccE) v0 v1 v2l v2f v3 v4 v5 ∧ True) ∧
 (¬ (((((((¬ ((v2l v7) = v1) ∨ ¬ (((rowA v2f v7) v7 0) = 0)) ∨ ¬ (v8 = 0)) ∨ ¬ (v9 = true)) ∨ ¬ (v10 = true)) ∨ ¬ (v11 = true)) ∨ (v0 v7 6) = v7)) →
 (-9223372036854775808 ≤ (v7 + 1) ∧ (v7 + 1) ≤ 9223372036854775807) ∧ ((-9223372036854775808 ≤ (v7 + 1) ∧ (v7 + 1) ≤ 9223372036854775807) →
 I0 (v7 + 1) ∧ μ0 (v7 + 1) < μ0 v7)))))))))))))) ∧
 (¬ (v7 < v1) →
 (0 : Int) = (hidF ccE) v0 v1 v2l v2f v3 v4 v5 ∧ True))))))))
def VC22 : Prop :=
 ∀ (v0 : Int → Nat → Int) (v1 : Int) (v2l : Int → Int) (v2f : Int → Int → Nat → Int) (v3 : Int) (v4 : Bool) (v5 : Int),
 (u8P v0 v1) →
 (0 ≤ v1 →
 (0 ≤ v3 →
 ((¬ (((v1 < 2 ∨ 16 < v1) ∨ ¬ (v3 = v1))) → True)) ∧ (∀ (v6 : Bool), v6 = inR v5 (0 : Int) (2000 : Int) → 
 (v1 ≤ 9223372036854775807 →
 (v3 ≤ 9223372036854775807 →
 ((((v1 < 2 ∨ 16 < v1) ∨ ¬ (v3 = v1)) ∨ ¬ (v6 = true)) →
 (8 : Int) = ccE v0 v1 v2l v2f v3 v4 v5 ∧ True) ∧
 (¬ ((((v1 < 2 ∨ 16 < v1) ∨ ¬ (v3 = v1)) ∨ ¬ (v6 = true))) →
 ∃ (I0 : (Int) → Prop) (μ0 : (Int) → Nat), I0 (0 : Int) ∧ (∀ (v7 : Int), I0 v7 →
 (v7 < v1 →
 0 ≤ v7 ∧ (0 ≤ v7 →
 v7 < v3 ∧ (v7 < v3 →
 (¬ ((v2l v7) = v1) ∨ v7 < (v2l v7)) ∧ ((¬ ((v2l v7) = v1) ∨ v7 < (v2l v7)) →
 (¬ ((v2l v7) = v1) ∨ v7 < (v2l v7)) ∧ ((¬ ((v2l v7) = v1) ∨ v7 < (v2l v7)) →
 ((¬ ((¬ ((v2l v7) = v1) ∨ ¬ (((rowA v2f v7) v7 0) = 0))) → 0 ≤ (v0 v7 0) ∧ (v0 v7 0) ≤ 255)) ∧ (∀ (v8 : Int), v8 = chkE (v0 v7 0) (v0 v7 1) (v0 v7 2) (v0 v7 3) → 
 (0 ≤ (v2l v7) →
 ((v2l v7) ≤ 9223372036854775807 →
 ((¬ (((¬ ((v2l v7) = v1) ∨ ¬ (((rowA v2f v7) v7 0) = 0)) ∨ ¬ (v8 = 0))) → True)) ∧ (∀ (v9 : Bool), v9 = inR (v0 v7 4) (0 : Int) (1000 : Int) → 
 ((¬ ((((¬ ((v2l v7) = v1) ∨ ¬ (((rowA v2f v7) v7 0) = 0)) ∨ ¬ (v8 = 0)) ∨ ¬ (v9 = true))) → True)) ∧ (∀ (v10 : Bool), v10 = inR (v0 v7 5) (1 : Int) (200 : Int) → 
 (((((¬ ((v2l v7) = v1) ∨ ¬ (((rowA v2f v7) v7 0) = 0)) ∨ ¬ (v8 = 0)) ∨ ¬ (v9 = true)) ∨ ¬ (v10 = true)) ∨ (-9223372036854775808 ≤ (v1 - 1) ∧ (v1 - 1) ≤ 9223372036854775807)) ∧ ((((((¬ ((v2l v7) = v1) ∨ ¬ (((rowA v2f v7) v7 0) = 0)) ∨ ¬ (v8 = 0)) ∨ ¬ (v9 = true)) ∨ ¬ (v10 = true)) ∨ (-9223372036854775808 ≤ (v1 - 1) ∧ (v1 - 1) ≤ 9223372036854775807)) →
 ((¬ (((((¬ ((v2l v7) = v1) ∨ ¬ (((rowA v2f v7) v7 0) = 0)) ∨ ¬ (v8 = 0)) ∨ ¬ (v9 = true)) ∨ ¬ (v10 = true))) → True)) ∧ (∀ (v11 : Bool), v11 = inR (v0 v7 6) (0 : Int) (v1 - 1) → 
 (((((((¬ ((v2l v7) = v1) ∨ ¬ (((rowA v2f v7) v7 0) = 0)) ∨ ¬ (v8 = 0)) ∨ ¬ (v9 = true)) ∨ ¬ (v10 = true)) ∨ ¬ (v11 = true)) ∨ (v0 v7 6) = v7) →
 (8 : Int) = ccE v0 v1 v2l v2f v3 v4 v5 ∧ True) ∧
 (¬ (((((((¬ ((v2l v7) = v1) ∨ ¬ (((rowA v2f v7) v7 0) = 0)) ∨ ¬ (v8 = 0)) ∨ ¬ (v9 = true)) ∨ ¬ (v10 = true)) ∨ ¬ (v11 = true)) ∨ (v0 v7 6) = v7)) →
 (-9223372036854775808 ≤ (v7 + 1) ∧ (v7 + 1) ≤ 9223372036854775807) ∧ ((-9223372036854775808 ≤ (v7 + 1) ∧ (v7 + 1) ≤ 9223372036854775807) →
 I0 (v7 + 1) ∧ μ0 (v7 + 1) < μ0 v7)))))))))))))) ∧
 (¬ (v7 < v1) →
 (0 : Int) = ccE v0 v1 v2l v2f v3 v4 v5 ∧ True))))))))
theorem vh22 (h : VC22) : VH22 := by
  unfold VH22
  rw [hidF_eq ccE, hidF_eq chkE, hidF_eq inR]
  exact h
/-! hotspotref16.Even -/
def sig23 : CSig := ⟨[⟨true, [.slc [.int .u8, .int .i64, .int .i64, .int .i64, .int .i64, .int .i64, .int .i64], .mat [.bool], .bool, .int .i64]⟩], [⟨false, [.bool]⟩]⟩
def pre23 : List AV → Prop
  | [.a v0, .i v1, .m v2l v2f, .i v3, .b v4, .i v5] => u8P v0 v1
  | _ => False
noncomputable def raw23 : List AV → List AV
  | [.a v0, .i v1, .m v2l v2f, .i v3, .b v4, .i v5] => [.b ((hidF evB) v0 v1 v2l v2f v3 v4 v5)]
  | _ => []

def VH23 : Prop :=
 ∀ (v0 : Int → Nat → Int) (v1 : Int) (v2l : Int → Int) (v2f : Int → Int → Nat → Int) (v3 : Int) (v4 : Bool) (v5 : Int),
 (u8P v0 v1) →
 (0 ≤ v1 →
 (0 ≤ v3 →
 (u8P v0 v1) ∧ (∀ (v6 : Int), v6 = (hidF ccE) v0 v1 v2l v2f v3 v4 v5 → 
 (v1 ≤ 9223372036854775807 →
 (v3 ≤ 9223372036854775807 →
 (¬ (v6 = 0) →
 (False ↔ (hidF evB) v0 v1 v2l v2f v3 v4 v5 = true) ∧ True) ∧
 (¬ (¬ (v6 = 0)) →
 ∃ (I0 : (Int) → Prop) (μ0 : (Int) → Nat), I0 (0 : Int) ∧ (∀ (v7 : Int), I0 v7 →
 (v7 < v3 →
 ∃ (I1 : (Int) → Prop) (μ1 : (Int) → Nat), I1 (0 : Int) ∧ (∀ (v8 : Int), I1 v8 →
 (v8 < v7 →
 0 ≤ v7 ∧ (0 ≤ v7 →
 0 ≤ v8 ∧ (0 ≤ v8 →
 v8 < (v2l v7) ∧ (v8 < (v2l v7) →
 v8 < v3 ∧ (v8 < v3 →
 v7 < (v2l v8) ∧ (v7 < (v2l v8) →
 (0 ≤ (v2l v7) →
 ((v2l v7) ≤ 9223372036854775807 →
 (0 ≤ (v2l v8) →
 ((v2l v8) ≤ 9223372036854775807 →
 (¬ (((¬ (((rowA v2f v7) v8 0) = 0) ∧ ¬ (((rowA v2f v8) v7 0) = 0)) ∨ (((rowA v2f v7) v8 0) = 0 ∧ ((rowA v2f v8) v7 0) = 0))) →
 (False ↔ (hidF evB) v0 v1 v2l v2f v3 v4 v5 = true) ∧ True) ∧
 (¬ (¬ (((¬ (((rowA v2f v7) v8 0) = 0) ∧ ¬ (((rowA v2f v8) v7 0) = 0)) ∨ (((rowA v2f v7) v8 0) = 0 ∧ ((rowA v2f v8) v7 0) = 0)))) →
 (-9223372036854775808 ≤ (v8 + 1) ∧ (v8 + 1) ≤ 9223372036854775807) ∧ ((-9223372036854775808 ≤ (v8 + 1) ∧ (v8 + 1) ≤ 9223372036854775807) →
 I1 (v8 + 1) ∧ μ1 (v8 + 1) < μ1 v8)))))))))))) ∧
 (¬ (v8 < v7) →
 (-9223372036854775808 ≤ (v7 + 1) ∧ (v7 + 1) ≤ 9223372036854775807) ∧ ((-9223372036854775808 ≤ (v7 + 1) ∧ (v7 + 1) ≤ 9223372036854775807) →
 I0 (v7 + 1) ∧ μ0 (v7 + 1) < μ0 v7)))) ∧
 (¬ (v7 < v3) →
 (True ↔ (hidF evB) v0 v1 v2l v2f v3 v4 v5 = true) ∧ True))))))))
def VC23 : Prop :=
 ∀ (v0 : Int → Nat → Int) (v1 : Int) (v2l : Int → Int) (v2f : Int → Int → Nat → Int) (v3 : Int) (v4 : Bool) (v5 : Int),
 (u8P v0 v1) →
 (0 ≤ v1 →
 (0 ≤ v3 →
 (u8P v0 v1) ∧ (∀ (v6 : Int), v6 = ccE v0 v1 v2l v2f v3 v4 v5 → 
 (v1 ≤ 9223372036854775807 →
 (v3 ≤ 9223372036854775807 →
 (¬ (v6 = 0) →
 (False ↔ evB v0 v1 v2l v2f v3 v4 v5 = true) ∧ True) ∧
 (¬ (¬ (v6 = 0)) →
 ∃ (I0 : (Int) → Prop) (μ0 : (Int) → Nat), I0 (0 : Int) ∧ (∀ (v7 : Int), I0 v7 →
 (v7 < v3 →
 ∃ (I1 : (Int) → Prop) (μ1 : (Int) → Nat), I1 (0 : Int) ∧ (∀ (v8 : Int), I1 v8 →
 (v8 < v7 →
 0 ≤ v7 ∧ (0 ≤ v7 →
 0 ≤ v8 ∧ (0 ≤ v8 →
 v8 < (v2l v7) ∧ (v8 < (v2l v7) →
 v8 < v3 ∧ (v8 < v3 →
 v7 < (v2l v8) ∧ (v7 < (v2l v8) →
 (0 ≤ (v2l v7) →
 ((v2l v7) ≤ 9223372036854775807 →
 (0 ≤ (v2l v8) →
 ((v2l v8) ≤ 9223372036854775807 →
 (¬ (((¬ (((rowA v2f v7) v8 0) = 0) ∧ ¬ (((rowA v2f v8) v7 0) = 0)) ∨ (((rowA v2f v7) v8 0) = 0 ∧ ((rowA v2f v8) v7 0) = 0))) →
 (False ↔ evB v0 v1 v2l v2f v3 v4 v5 = true) ∧ True) ∧
 (¬ (¬ (((¬ (((rowA v2f v7) v8 0) = 0) ∧ ¬ (((rowA v2f v8) v7 0) = 0)) ∨ (((rowA v2f v7) v8 0) = 0 ∧ ((rowA v2f v8) v7 0) = 0)))) →
 (-9223372036854775808 ≤ (v8 + 1) ∧ (v8 + 1) ≤ 9223372036854775807) ∧ ((-9223372036854775808 ≤ (v8 + 1) ∧ (v8 + 1) ≤ 9223372036854775807) →
 I1 (v8 + 1) ∧ μ1 (v8 + 1) < μ1 v8)))))))))))) ∧
 (¬ (v8 < v7) →
 (-9223372036854775808 ≤ (v7 + 1) ∧ (v7 + 1) ≤ 9223372036854775807) ∧ ((-9223372036854775808 ≤ (v7 + 1) ∧ (v7 + 1) ≤ 9223372036854775807) →
 I0 (v7 + 1) ∧ μ0 (v7 + 1) < μ0 v7)))) ∧
 (¬ (v7 < v3) →
 (True ↔ evB v0 v1 v2l v2f v3 v4 v5 = true) ∧ True))))))))
theorem vh23 (h : VC23) : VH23 := by
  unfold VH23
  rw [hidF_eq ccE, hidF_eq evB]
  exact h
/-! hotspotref16.on -/
def sig50 : CSig := ⟨[⟨true, [.slc [.int .u8, .int .i64, .int .i64, .int .i64, .int .i64, .int .i64, .int .i64], .slc [.int .i64, .int .i64, .int .i64, .bool, .bool], .slc [.int .i64, .int .i64, .int .i64, .bool, .bool], .slc [.int .i64], .int .i64]⟩, ⟨false, [.int .i64]⟩, ⟨false, [.int .i64]⟩, ⟨false, [.int .i64]⟩], [⟨false, [.bool]⟩]⟩
def pre50 : List AV → Prop
  | [.a v0, .i v1, .a v2, .i v3, .a v4, .i v5, .a v6, .i v7, .i v8, .i v9, .i v10, .i v11] => True
  | _ => False
noncomputable def raw50 : List AV → List AV
  | [.a v0, .i v1, .a v2, .i v3, .a v4, .i v5, .a v6, .i v7, .i v8, .i v9, .i v10, .i v11] => [.b ((hidF onB) v2 v3 v9 v10 v11)]
  | _ => []

def VH50 : Prop :=
 ∀ (v0 : Int → Nat → Int) (v1 : Int) (v2 : Int → Nat → Int) (v3 : Int) (v4 : Int → Nat → Int) (v5 : Int) (v6 : Int → Nat → Int) (v7 : Int) (v8 : Int) (v9 : Int) (v10 : Int) (v11 : Int),
 (True) →
 (0 ≤ v1 →
 (0 ≤ v3 →
 (0 ≤ v5 →
 (0 ≤ v7 →
 ∃ (I0 : (Int) → Prop) (μ0 : (Int) → Nat), I0 (0 : Int) ∧ (∀ (v12 : Int), I0 v12 →
 (v1 ≤ 9223372036854775807 →
 (v3 ≤ 9223372036854775807 →
 (v5 ≤ 9223372036854775807 →
 (v7 ≤ 9223372036854775807 →
 (v12 < v3 →
 0 ≤ v12 ∧ (0 ≤ v12 →
 (((((v2 v12 0) = v9 ∧ (v2 v12 1) < v11) ∧ (v2 v12 1) ≤ v10) ∧ v10 < (v2 v12 2)) →
 (True ↔ (hidF onB) v2 v3 v9 v10 v11 = true) ∧ True) ∧
 (¬ (((((v2 v12 0) = v9 ∧ (v2 v12 1) < v11) ∧ (v2 v12 1) ≤ v10) ∧ v10 < (v2 v12 2))) →
 (-9223372036854775808 ≤ (v12 + 1) ∧ (v12 + 1) ≤ 9223372036854775807) ∧ ((-9223372036854775808 ≤ (v12 + 1) ∧ (v12 + 1) ≤ 9223372036854775807) →
 I0 (v12 + 1) ∧ μ0 (v12 + 1) < μ0 v12)))) ∧
 (¬ (v12 < v3) →
 (False ↔ (hidF onB) v2 v3 v9 v10 v11 = true) ∧ True))))))))))
def VC50 : Prop :=
 ∀ (v0 : Int → Nat → Int) (v1 : Int) (v2 : Int → Nat → Int) (v3 : Int) (v4 : Int → Nat → Int) (v5 : Int) (v6 : Int → Nat → Int) (v7 : Int) (v8 : Int) (v9 : Int) (v10 : Int) (v11 : Int),
 (True) →
 (0 ≤ v1 →
 (0 ≤ v3 →
 (0 ≤ v5 →
 (0 ≤ v7 →
 ∃ (I0 : (Int) → Prop) (μ0 : (Int) → Nat), I0 (0 : Int) ∧ (∀ (v12 : Int), I0 v12 →
 (v1 ≤ 9223372036854775807 →
 (v3 ≤ 9223372036854775807 →
 (v5 ≤ 9223372036854775807 →
 (v7 ≤ 9223372036854775807 →
 (v12 < v3 →
 0 ≤ v12 ∧ (0 ≤ v12 →
 (((((v2 v12 0) = v9 ∧ (v2 v12 1) < v11) ∧ (v2 v12 1) ≤ v10) ∧ v10 < (v2 v12 2)) →
 (True ↔ onB v2 v3 v9 v10 v11 = true) ∧ True) ∧
 (¬ (((((v2 v12 0) = v9 ∧ (v2 v12 1) < v11) ∧ (v2 v12 1) ≤ v10) ∧ v10 < (v2 v12 2))) →
 (-9223372036854775808 ≤ (v12 + 1) ∧ (v12 + 1) ≤ 9223372036854775807) ∧ ((-9223372036854775808 ≤ (v12 + 1) ∧ (v12 + 1) ≤ 9223372036854775807) →
 I0 (v12 + 1) ∧ μ0 (v12 + 1) < μ0 v12)))) ∧
 (¬ (v12 < v3) →
 (False ↔ onB v2 v3 v9 v10 v11 = true) ∧ True))))))))))
theorem vh50 (h : VC50) : VH50 := by
  unfold VH50
  rw [hidF_eq onB]
  exact h
/-! hotspotref16.disturbed -/
def sig49 : CSig := ⟨[⟨true, [.slc [.int .u8, .int .i64, .int .i64, .int .i64, .int .i64, .int .i64, .int .i64], .mat [.bool], .bool, .int .i64]⟩, ⟨true, [.slc [.int .u8, .int .i64, .int .i64, .int .i64, .int .i64, .int .i64, .int .i64], .slc [.int .i64, .int .i64, .int .i64, .bool, .bool], .slc [.int .i64, .int .i64, .int .i64, .bool, .bool], .slc [.int .i64], .int .i64]⟩, ⟨false, [.int .i64]⟩, ⟨false, [.int .i64]⟩], [⟨false, [.bool]⟩]⟩
def pre49 : List AV → Prop
  | [.a v0, .i v1, .m v2l v2f, .i v3, .b v4, .i v5, .a v6, .i v7, .a v8, .i v9, .a v10, .i v11, .a v12, .i v13, .i v14, .i v15, .i v16] => dsP v6 v7 v2l v3 v15 v16
  | _ => False
noncomputable def raw49 : List AV → List AV
  | [.a v0, .i v1, .m v2l v2f, .i v3, .b v4, .i v5, .a v6, .i v7, .a v8, .i v9, .a v10, .i v11, .a v12, .i v13, .i v14, .i v15, .i v16] => [.b ((hidF diB) v2f v7 (v6 v15 6) v8 v9 v15 v16)]
  | _ => []

def VH49 : Prop :=
 ∀ (v0 : Int → Nat → Int) (v1 : Int) (v2l : Int → Int) (v2f : Int → Int → Nat → Int) (v3 : Int) (v4 : Bool) (v5 : Int) (v6 : Int → Nat → Int) (v7 : Int) (v8 : Int → Nat → Int) (v9 : Int) (v10 : Int → Nat → Int) (v11 : Int) (v12 : Int → Nat → Int) (v13 : Int) (v14 : Int) (v15 : Int) (v16 : Int),
 (dsP v6 v7 v2l v3 v15 v16) →
 (0 ≤ v1 →
 (0 ≤ v3 →
 (0 ≤ v7 →
 (0 ≤ v9 →
 (0 ≤ v11 →
 (0 ≤ v13 →
 0 ≤ v15 ∧ (0 ≤ v15 →
 v15 < v7 ∧ (v15 < v7 →
 0 ≤ (v6 v15 6) ∧ (0 ≤ (v6 v15 6) →
 (v6 v15 6) < v3 ∧ ((v6 v15 6) < v3 →
 v15 < (v2l (v6 v15 6)) ∧ (v15 < (v2l (v6 v15 6)) →
 (((rowA v2f (v6 v15 6)) v15 0) = 0 ∨ (-9223372036854775808 ≤ (v16 + 1) ∧ (v16 + 1) ≤ 9223372036854775807)) ∧ ((((rowA v2f (v6 v15 6)) v15 0) = 0 ∨ (-9223372036854775808 ≤ (v16 + 1) ∧ (v16 + 1) ≤ 9223372036854775807)) →
 ((¬ (((rowA v2f (v6 v15 6)) v15 0) = 0) → True)) ∧ (∀ (v17 : Bool), v17 = (hidF onB) v8 v9 (v6 v15 6) v16 (v16 + 1) → 
 (v1 ≤ 9223372036854775807 →
 (v3 ≤ 9223372036854775807 →
 (v7 ≤ 9223372036854775807 →
 (v9 ≤ 9223372036854775807 →
 (v11 ≤ 9223372036854775807 →
 (v13 ≤ 9223372036854775807 →
 (0 ≤ (v2l (v6 v15 6)) →
 ((v2l (v6 v15 6)) ≤ 9223372036854775807 →
 ((((rowA v2f (v6 v15 6)) v15 0) = 0 ∨ v17 = true) →
 (True ↔ (hidF diB) v2f v7 (v6 v15 6) v8 v9 v15 v16 = true) ∧ True) ∧
 (¬ ((((rowA v2f (v6 v15 6)) v15 0) = 0 ∨ v17 = true)) →
 ∃ (I0 : (Int) → Prop) (μ0 : (Int) → Nat), I0 (0 : Int) ∧ (∀ (v18 : Int), I0 v18 →
 (v18 < v7 →
 (v18 = v15 ∨ 0 ≤ v18) ∧ ((v18 = v15 ∨ 0 ≤ v18) →
 (v18 = v15 ∨ v18 < (v2l (v6 v15 6))) ∧ ((v18 = v15 ∨ v18 < (v2l (v6 v15 6))) →
 (v18 = v15 ∨ 0 ≤ v18) ∧ ((v18 = v15 ∨ 0 ≤ v18) →
 (v18 = v15 ∨ v18 < (v2l (v6 v15 6))) ∧ ((v18 = v15 ∨ v18 < (v2l (v6 v15 6))) →
 (¬ ((¬ (v18 = v15) ∧ ¬ (((rowA v2f (v6 v15 6)) v18 0) = 0))) ∨ (-9223372036854775808 ≤ (v16 + 1) ∧ (v16 + 1) ≤ 9223372036854775807)) ∧ ((¬ ((¬ (v18 = v15) ∧ ¬ (((rowA v2f (v6 v15 6)) v18 0) = 0))) ∨ (-9223372036854775808 ≤ (v16 + 1) ∧ (v16 + 1) ≤ 9223372036854775807)) →
 (((¬ (v18 = v15) ∧ ¬ (((rowA v2f (v6 v15 6)) v18 0) = 0)) → True)) ∧ (∀ (v19 : Bool), v19 = (hidF onB) v8 v9 v18 v16 (v16 + 1) → 
 (((¬ (v18 = v15) ∧ ¬ (((rowA v2f (v6 v15 6)) v18 0) = 0)) ∧ v19 = true) →
 (True ↔ (hidF diB) v2f v7 (v6 v15 6) v8 v9 v15 v16 = true) ∧ True) ∧
 (¬ (((¬ (v18 = v15) ∧ ¬ (((rowA v2f (v6 v15 6)) v18 0) = 0)) ∧ v19 = true)) →
 (-9223372036854775808 ≤ (v18 + 1) ∧ (v18 + 1) ≤ 9223372036854775807) ∧ ((-9223372036854775808 ≤ (v18 + 1) ∧ (v18 + 1) ≤ 9223372036854775807) →
 I0 (v18 + 1) ∧ μ0 (v18 + 1) < μ0 v18))))))))) ∧
 (¬ (v18 < v7) →
 (False ↔ (hidF diB) v2f v7 (v6 v15 6) v8 v9 v15 v16 = true) ∧ True))))))))))))))))))))))))
def VC49 : Prop :=
 ∀ (v0 : Int → Nat → Int) (v1 : Int) (v2l : Int → Int) (v2f : Int → Int → Nat → Int) (v3 : Int) (v4 : Bool) (v5 : Int) (v6 : Int → Nat → Int) (v7 : Int) (v8 : Int → Nat → Int) (v9 : Int) (v10 : Int → Nat → Int) (v11 : Int) (v12 : Int → Nat → Int) (v13 : Int) (v14 : Int) (v15 : Int) (v16 : Int),
 (dsP v6 v7 v2l v3 v15 v16) →
 (0 ≤ v1 →
 (0 ≤ v3 →
 (0 ≤ v7 →
 (0 ≤ v9 →
 (0 ≤ v11 →
 (0 ≤ v13 →
 0 ≤ v15 ∧ (0 ≤ v15 →
 v15 < v7 ∧ (v15 < v7 →
 0 ≤ (v6 v15 6) ∧ (0 ≤ (v6 v15 6) →
 (v6 v15 6) < v3 ∧ ((v6 v15 6) < v3 →
 v15 < (v2l (v6 v15 6)) ∧ (v15 < (v2l (v6 v15 6)) →
 (((rowA v2f (v6 v15 6)) v15 0) = 0 ∨ (-9223372036854775808 ≤ (v16 + 1) ∧ (v16 + 1) ≤ 9223372036854775807)) ∧ ((((rowA v2f (v6 v15 6)) v15 0) = 0 ∨ (-9223372036854775808 ≤ (v16 + 1) ∧ (v16 + 1) ≤ 9223372036854775807)) →
 ((¬ (((rowA v2f (v6 v15 6)) v15 0) = 0) → True)) ∧ (∀ (v17 : Bool), v17 = onB v8 v9 (v6 v15 6) v16 (v16 + 1) → 
 (v1 ≤ 9223372036854775807 →
 (v3 ≤ 9223372036854775807 →
 (v7 ≤ 9223372036854775807 →
 (v9 ≤ 9223372036854775807 →
 (v11 ≤ 9223372036854775807 →
 (v13 ≤ 9223372036854775807 →
 (0 ≤ (v2l (v6 v15 6)) →
 ((v2l (v6 v15 6)) ≤ 9223372036854775807 →
 ((((rowA v2f (v6 v15 6)) v15 0) = 0 ∨ v17 = true) →
 (True ↔ diB v2f v7 (v6 v15 6) v8 v9 v15 v16 = true) ∧ True) ∧
 (¬ ((((rowA v2f (v6 v15 6)) v15 0) = 0 ∨ v17 = true)) →
 ∃ (I0 : (Int) → Prop) (μ0 : (Int) → Nat), I0 (0 : Int) ∧ (∀ (v18 : Int), I0 v18 →
 (v18 < v7 →
 (v18 = v15 ∨ 0 ≤ v18) ∧ ((v18 = v15 ∨ 0 ≤ v18) →
 (v18 = v15 ∨ v18 < (v2l (v6 v15 6))) ∧ ((v18 = v15 ∨ v18 < (v2l (v6 v15 6))) →
 (v18 = v15 ∨ 0 ≤ v18) ∧ ((v18 = v15 ∨ 0 ≤ v18) →
 (v18 = v15 ∨ v18 < (v2l (v6 v15 6))) ∧ ((v18 = v15 ∨ v18 < (v2l (v6 v15 6))) →
 (¬ ((¬ (v18 = v15) ∧ ¬ (((rowA v2f (v6 v15 6)) v18 0) = 0))) ∨ (-9223372036854775808 ≤ (v16 + 1) ∧ (v16 + 1) ≤ 9223372036854775807)) ∧ ((¬ ((¬ (v18 = v15) ∧ ¬ (((rowA v2f (v6 v15 6)) v18 0) = 0))) ∨ (-9223372036854775808 ≤ (v16 + 1) ∧ (v16 + 1) ≤ 9223372036854775807)) →
 (((¬ (v18 = v15) ∧ ¬ (((rowA v2f (v6 v15 6)) v18 0) = 0)) → True)) ∧ (∀ (v19 : Bool), v19 = onB v8 v9 v18 v16 (v16 + 1) → 
 (((¬ (v18 = v15) ∧ ¬ (((rowA v2f (v6 v15 6)) v18 0) = 0)) ∧ v19 = true) →
 (True ↔ diB v2f v7 (v6 v15 6) v8 v9 v15 v16 = true) ∧ True) ∧
 (¬ (((¬ (v18 = v15) ∧ ¬ (((rowA v2f (v6 v15 6)) v18 0) = 0)) ∧ v19 = true)) →
 (-9223372036854775808 ≤ (v18 + 1) ∧ (v18 + 1) ≤ 9223372036854775807) ∧ ((-9223372036854775808 ≤ (v18 + 1) ∧ (v18 + 1) ≤ 9223372036854775807) →
 I0 (v18 + 1) ∧ μ0 (v18 + 1) < μ0 v18))))))))) ∧
 (¬ (v18 < v7) →
 (False ↔ diB v2f v7 (v6 v15 6) v8 v9 v15 v16 = true) ∧ True))))))))))))))))))))))))
theorem vh49 (h : VC49) : VH49 := by
  unfold VH49
  rw [hidF_eq diB, hidF_eq onB]
  exact h
/-! hotspotref16.SameStations -/
def sig19 : CSig := ⟨[⟨false, [.slc [.int .u8, .int .i64, .int .i64, .int .i64, .int .i64, .int .i64, .int .i64]]⟩, ⟨false, [.slc [.int .u8, .int .i64, .int .i64, .int .i64, .int .i64, .int .i64, .int .i64]]⟩], [⟨false, [.bool]⟩]⟩
def pre19 : List AV → Prop
  | [.a v0, .i v1, .a v2, .i v3] => True
  | _ => False
noncomputable def raw19 : List AV → List AV
  | [.a v0, .i v1, .a v2, .i v3] => [.b ((hidF ssB) v0 v1 v2 v3)]
  | _ => []

def VH19 : Prop :=
 ∀ (v0 : Int → Nat → Int) (v1 : Int) (v2 : Int → Nat → Int) (v3 : Int),
 (True) →
 (0 ≤ v1 →
 (0 ≤ v3 →
 (v1 ≤ 9223372036854775807 →
 (v3 ≤ 9223372036854775807 →
 (¬ (v1 = v3) →
 (False ↔ (hidF ssB) v0 v1 v2 v3 = true) ∧ True) ∧
 (¬ (¬ (v1 = v3)) →
 ∃ (I0 : (Int) → Prop) (μ0 : (Int) → Nat), I0 (0 : Int) ∧ (∀ (v4 : Int), I0 v4 →
 (v4 < v1 →
 0 ≤ v4 ∧ (0 ≤ v4 →
 v4 < v3 ∧ (v4 < v3 →
 (¬ (((v0 v4 0) = (v2 v4 0) ∧ ((v0 v4 1) = (v2 v4 1) ∧ ((v0 v4 2) = (v2 v4 2) ∧ ((v0 v4 3) = (v2 v4 3) ∧ ((v0 v4 4) = (v2 v4 4) ∧ ((v0 v4 5) = (v2 v4 5) ∧ (v0 v4 6) = (v2 v4 6)))))))) →
 (False ↔ (hidF ssB) v0 v1 v2 v3 = true) ∧ True) ∧
 (¬ (¬ (((v0 v4 0) = (v2 v4 0) ∧ ((v0 v4 1) = (v2 v4 1) ∧ ((v0 v4 2) = (v2 v4 2) ∧ ((v0 v4 3) = (v2 v4 3) ∧ ((v0 v4 4) = (v2 v4 4) ∧ ((v0 v4 5) = (v2 v4 5) ∧ (v0 v4 6) = (v2 v4 6))))))))) →
 (-9223372036854775808 ≤ (v4 + 1) ∧ (v4 + 1) ≤ 9223372036854775807) ∧ ((-9223372036854775808 ≤ (v4 + 1) ∧ (v4 + 1) ≤ 9223372036854775807) →
 I0 (v4 + 1) ∧ μ0 (v4 + 1) < μ0 v4))))) ∧
 (¬ (v4 < v1) →
 (True ↔ (hidF ssB) v0 v1 v2 v3 = true) ∧ True)))))))
def VC19 : Prop :=
 ∀ (v0 : Int → Nat → Int) (v1 : Int) (v2 : Int → Nat → Int) (v3 : Int),
 (True) →
 (0 ≤ v1 →
 (0 ≤ v3 →
 (v1 ≤ 9223372036854775807 →
 (v3 ≤ 9223372036854775807 →
 (¬ (v1 = v3) →
 (False ↔ ssB v0 v1 v2 v3 = true) ∧ True) ∧
 (¬ (¬ (v1 = v3)) →
 ∃ (I0 : (Int) → Prop) (μ0 : (Int) → Nat), I0 (0 : Int) ∧ (∀ (v4 : Int), I0 v4 →
 (v4 < v1 →
 0 ≤ v4 ∧ (0 ≤ v4 →
 v4 < v3 ∧ (v4 < v3 →
 (¬ (((v0 v4 0) = (v2 v4 0) ∧ ((v0 v4 1) = (v2 v4 1) ∧ ((v0 v4 2) = (v2 v4 2) ∧ ((v0 v4 3) = (v2 v4 3) ∧ ((v0 v4 4) = (v2 v4 4) ∧ ((v0 v4 5) = (v2 v4 5) ∧ (v0 v4 6) = (v2 v4 6)))))))) →
 (False ↔ ssB v0 v1 v2 v3 = true) ∧ True) ∧
 (¬ (¬ (((v0 v4 0) = (v2 v4 0) ∧ ((v0 v4 1) = (v2 v4 1) ∧ ((v0 v4 2) = (v2 v4 2) ∧ ((v0 v4 3) = (v2 v4 3) ∧ ((v0 v4 4) = (v2 v4 4) ∧ ((v0 v4 5) = (v2 v4 5) ∧ (v0 v4 6) = (v2 v4 6))))))))) →
 (-9223372036854775808 ≤ (v4 + 1) ∧ (v4 + 1) ≤ 9223372036854775807) ∧ ((-9223372036854775808 ≤ (v4 + 1) ∧ (v4 + 1) ≤ 9223372036854775807) →
 I0 (v4 + 1) ∧ μ0 (v4 + 1) < μ0 v4))))) ∧
 (¬ (v4 < v1) →
 (True ↔ ssB v0 v1 v2 v3 = true) ∧ True)))))))
theorem vh19 (h : VC19) : VH19 := by
  unfold VH19
  rw [hidF_eq ssB]
  exact h
end Go.Proofs.YtkagcjibneigdaaDoor
