/- What the functions do, and what is left to show of each. -/
import Derived.Test.YtiiabaklipmbbaaDoorW
import Derived.Test.YtiiabaklipmbbaaDoorD
import Derived.Test.YtiiabaklipmbbaaDoorD9
import Derived.Test.YtiiabaklipmbbaaDoorD12
import Derived.Test.YtiiabaklipmbbaaDoorD14
set_option linter.unusedVariables false
namespace Go.Proofs.YtiiabaklipmbbaaDoor
open Go Go.RowKit Go.Proofs.YtiiabaklipmbbaaDoor.Vc
/-- a function that the kernel does not open -/
noncomputable def hideS {α : Type} (x : α) : {y : α // y = x} := Classical.choice ⟨⟨x, rfl⟩⟩
noncomputable def hidF {α : Type} (x : α) : α := (hideS x).1
theorem hidF_eq {α : Type} (x : α) : hidF x = x := (hideS x).2
/-! exchange.odd -/
def sig15 : CSig := ⟨[⟨false, [.int .i64]⟩], [⟨false, [.bool]⟩]⟩
def pre15 : List AV → Prop
  | [.i v0] => True
  | _ => False
noncomputable def raw15 : List AV → List AV
  | [.i v0] => [.b (decide (v0 < 1 ∨ 32767 < v0))]
  | _ => []

def VH15 : Prop :=
  ∀ (v0 : Int),
  (True) →
  ((v0 < 1 ∨ 32767 < v0) ↔ decide (v0 < 1 ∨ 32767 < v0) = true) ∧ True
def VC15 : Prop :=
  ∀ (v0 : Int),
  (True) →
  ((v0 < 1 ∨ 32767 < v0) ↔ decide (v0 < 1 ∨ 32767 < v0) = true) ∧ True
theorem vh15 (h : VC15) : VH15 := by
  unfold VH15
  exact h
/-! hotspotref10.In -/
def sig13 : CSig := ⟨[⟨false, [.int .i64]⟩, ⟨false, [.int .i64]⟩, ⟨false, [.int .i64]⟩], [⟨false, [.bool]⟩]⟩
def pre13 : List AV → Prop
  | [.i v0, .i v1, .i v2] => True
  | _ => False
noncomputable def raw13 : List AV → List AV
  | [.i v0, .i v1, .i v2] => [.b (decide (v1 ≤ v0 ∧ v0 ≤ v2))]
  | _ => []

def VH13 : Prop :=
  ∀ (v0 : Int) (v1 : Int) (v2 : Int),
  (True) →
  ((v1 ≤ v0 ∧ v0 ≤ v2) ↔ decide (v1 ≤ v0 ∧ v0 ≤ v2) = true) ∧ True
def VC13 : Prop :=
  ∀ (v0 : Int) (v1 : Int) (v2 : Int),
  (True) →
  ((v1 ≤ v0 ∧ v0 ≤ v2) ↔ decide (v1 ≤ v0 ∧ v0 ≤ v2) = true) ∧ True
theorem vh13 (h : VC13) : VH13 := by
  unfold VH13
  exact h
/-! exchange.Length -/
def sig10 : CSig := ⟨[⟨false, [.slc [.int .u8, .bool, .int .i64, .int .i64, .int .i64, .int .i64]]⟩], [⟨false, [.int .i64]⟩]⟩
def pre10 : List AV → Prop
  | [.a v0, .i v1] => lnP v0 v1
  | _ => False
noncomputable def raw10 : List AV → List AV
  | [.a v0, .i v1] => [.i ((hidF lnA) v0 v1)]
  | _ => []

def VH10 : Prop :=
  ∀ (v0 : Int → Nat → Int) (v1 : Int),
  (lnP v0 v1) →
  (0 ≤ v1 →
  ∃ (I0 : (Int) → (Int) → Prop) (μ0 : (Int) → (Int) → Nat), I0 (0 : Int) (0 : Int) ∧ (∀ (v2 : Int) (v3 : Int), I0 v2 v3 →
    (v1 ≤ 9223372036854775807 →
    (v3 < v1 →
      0 ≤ v3 ∧ (0 ≤ v3 →
      (-9223372036854775808 ≤ ((v0 v3 3) + (v0 v3 4)) ∧ ((v0 v3 3) + (v0 v3 4)) ≤ 9223372036854775807) ∧ ((-9223372036854775808 ≤ ((v0 v3 3) + (v0 v3 4)) ∧ ((v0 v3 3) + (v0 v3 4)) ≤ 9223372036854775807) →
      (-9223372036854775808 ≤ (v3 + 1) ∧ (v3 + 1) ≤ 9223372036854775807) ∧ ((-9223372036854775808 ≤ (v3 + 1) ∧ (v3 + 1) ≤ 9223372036854775807) →
      I0 (max v2 ((v0 v3 3) + (v0 v3 4))) (v3 + 1) ∧ μ0 (max v2 ((v0 v3 3) + (v0 v3 4))) (v3 + 1) < μ0 v2 v3)))) ∧
    (¬ (v3 < v1) →
      v2 = (hidF lnA) v0 v1 ∧ True))))
def VC10 : Prop :=
  ∀ (v0 : Int → Nat → Int) (v1 : Int),
  (lnP v0 v1) →
  (0 ≤ v1 →
  ∃ (I0 : (Int) → (Int) → Prop) (μ0 : (Int) → (Int) → Nat), I0 (0 : Int) (0 : Int) ∧ (∀ (v2 : Int) (v3 : Int), I0 v2 v3 →
    (v1 ≤ 9223372036854775807 →
    (v3 < v1 →
      0 ≤ v3 ∧ (0 ≤ v3 →
      (-9223372036854775808 ≤ ((v0 v3 3) + (v0 v3 4)) ∧ ((v0 v3 3) + (v0 v3 4)) ≤ 9223372036854775807) ∧ ((-9223372036854775808 ≤ ((v0 v3 3) + (v0 v3 4)) ∧ ((v0 v3 3) + (v0 v3 4)) ≤ 9223372036854775807) →
      (-9223372036854775808 ≤ (v3 + 1) ∧ (v3 + 1) ≤ 9223372036854775807) ∧ ((-9223372036854775808 ≤ (v3 + 1) ∧ (v3 + 1) ≤ 9223372036854775807) →
      I0 (max v2 ((v0 v3 3) + (v0 v3 4))) (v3 + 1) ∧ μ0 (max v2 ((v0 v3 3) + (v0 v3 4))) (v3 + 1) < μ0 v2 v3)))) ∧
    (¬ (v3 < v1) →
      v2 = lnA v0 v1 ∧ True))))
theorem vh10 (h : VC10) : VH10 := by
  unfold VH10
  rw [hidF_eq lnA]
  exact h
/-! hotspotref15.Same -/
def sig20 : CSig := ⟨[⟨false, [.slc [.int .u8, .bool, .int .i64, .int .i64, .int .i64, .int .i64]]⟩, ⟨false, [.slc [.int .u8, .bool, .int .i64, .int .i64, .int .i64, .int .i64]]⟩], [⟨false, [.bool]⟩]⟩
def pre20 : List AV → Prop
  | [.a v0, .i v1, .a v2, .i v3] => True
  | _ => False
noncomputable def raw20 : List AV → List AV
  | [.a v0, .i v1, .a v2, .i v3] => [.b (smP v0 v1 v2 v3)]
  | _ => []

def VH20 : Prop :=
  ∀ (v0 : Int → Nat → Int) (v1 : Int) (v2 : Int → Nat → Int) (v3 : Int),
  (True) →
  (0 ≤ v1 →
  (0 ≤ v3 →
  (v1 ≤ 9223372036854775807 →
  (v3 ≤ 9223372036854775807 →
  (¬ (v1 = v3) →
    (False ↔ smP v0 v1 v2 v3 = true) ∧ True) ∧
  (¬ (¬ (v1 = v3)) →
    ∃ (I0 : (Int) → Prop) (μ0 : (Int) → Nat), I0 (0 : Int) ∧ (∀ (v4 : Int), I0 v4 →
      (v4 < v1 →
        0 ≤ v4 ∧ (0 ≤ v4 →
        v4 < v3 ∧ (v4 < v3 →
        (¬ (((v0 v4 0) = (v2 v4 0) ∧ (((¬ ((v0 v4 1) = 0) ∧ ¬ ((v2 v4 1) = 0)) ∨ ((v0 v4 1) = 0 ∧ (v2 v4 1) = 0)) ∧ ((v0 v4 2) = (v2 v4 2) ∧ ((v0 v4 3) = (v2 v4 3) ∧ ((v0 v4 4) = (v2 v4 4) ∧ (v0 v4 5) = (v2 v4 5))))))) →
          (False ↔ smP v0 v1 v2 v3 = true) ∧ True) ∧
        (¬ (¬ (((v0 v4 0) = (v2 v4 0) ∧ (((¬ ((v0 v4 1) = 0) ∧ ¬ ((v2 v4 1) = 0)) ∨ ((v0 v4 1) = 0 ∧ (v2 v4 1) = 0)) ∧ ((v0 v4 2) = (v2 v4 2) ∧ ((v0 v4 3) = (v2 v4 3) ∧ ((v0 v4 4) = (v2 v4 4) ∧ (v0 v4 5) = (v2 v4 5)))))))) →
          (-9223372036854775808 ≤ (v4 + 1) ∧ (v4 + 1) ≤ 9223372036854775807) ∧ ((-9223372036854775808 ≤ (v4 + 1) ∧ (v4 + 1) ≤ 9223372036854775807) →
          I0 (v4 + 1) ∧ μ0 (v4 + 1) < μ0 v4))))) ∧
      (¬ (v4 < v1) →
        (True ↔ smP v0 v1 v2 v3 = true) ∧ True)))))))
def VC20 : Prop :=
  ∀ (v0 : Int → Nat → Int) (v1 : Int) (v2 : Int → Nat → Int) (v3 : Int),
  (True) →
  (0 ≤ v1 →
  (0 ≤ v3 →
  (v1 ≤ 9223372036854775807 →
  (v3 ≤ 9223372036854775807 →
  (¬ (v1 = v3) →
    (False ↔ smP v0 v1 v2 v3 = true) ∧ True) ∧
  (¬ (¬ (v1 = v3)) →
    ∃ (I0 : (Int) → Prop) (μ0 : (Int) → Nat), I0 (0 : Int) ∧ (∀ (v4 : Int), I0 v4 →
      (v4 < v1 →
        0 ≤ v4 ∧ (0 ≤ v4 →
        v4 < v3 ∧ (v4 < v3 →
        (¬ (((v0 v4 0) = (v2 v4 0) ∧ (((¬ ((v0 v4 1) = 0) ∧ ¬ ((v2 v4 1) = 0)) ∨ ((v0 v4 1) = 0 ∧ (v2 v4 1) = 0)) ∧ ((v0 v4 2) = (v2 v4 2) ∧ ((v0 v4 3) = (v2 v4 3) ∧ ((v0 v4 4) = (v2 v4 4) ∧ (v0 v4 5) = (v2 v4 5))))))) →
          (False ↔ smP v0 v1 v2 v3 = true) ∧ True) ∧
        (¬ (¬ (((v0 v4 0) = (v2 v4 0) ∧ (((¬ ((v0 v4 1) = 0) ∧ ¬ ((v2 v4 1) = 0)) ∨ ((v0 v4 1) = 0 ∧ (v2 v4 1) = 0)) ∧ ((v0 v4 2) = (v2 v4 2) ∧ ((v0 v4 3) = (v2 v4 3) ∧ ((v0 v4 4) = (v2 v4 4) ∧ (v0 v4 5) = (v2 v4 5)))))))) →
          (-9223372036854775808 ≤ (v4 + 1) ∧ (v4 + 1) ≤ 9223372036854775807) ∧ ((-9223372036854775808 ≤ (v4 + 1) ∧ (v4 + 1) ≤ 9223372036854775807) →
          I0 (v4 + 1) ∧ μ0 (v4 + 1) < μ0 v4))))) ∧
      (¬ (v4 < v1) →
        (True ↔ smP v0 v1 v2 v3 = true) ∧ True)))))))
theorem vh20 (h : VC20) : VH20 := by
  unfold VH20
  exact h
/-! hotspotref10.SameInts -/
def sig19 : CSig := ⟨[⟨false, [.slc [.int .i64]]⟩, ⟨false, [.slc [.int .i64]]⟩], [⟨false, [.bool]⟩]⟩
def pre19 : List AV → Prop
  | [.a v0, .i v1, .a v2, .i v3] => True
  | _ => False
noncomputable def raw19 : List AV → List AV
  | [.a v0, .i v1, .a v2, .i v3] => [.b (smZ v0 v1 v2 v3)]
  | _ => []

def VH19 : Prop :=
  ∀ (v0 : Int → Nat → Int) (v1 : Int) (v2 : Int → Nat → Int) (v3 : Int),
  (True) →
  (0 ≤ v1 →
  (0 ≤ v3 →
  (v1 ≤ 9223372036854775807 →
  (v3 ≤ 9223372036854775807 →
  (¬ (v1 = v3) →
    (False ↔ smZ v0 v1 v2 v3 = true) ∧ True) ∧
  (¬ (¬ (v1 = v3)) →
    ∃ (I0 : (Int) → Prop) (μ0 : (Int) → Nat), I0 (0 : Int) ∧ (∀ (v4 : Int), I0 v4 →
      (v4 < v1 →
        0 ≤ v4 ∧ (0 ≤ v4 →
        v4 < v3 ∧ (v4 < v3 →
        (¬ ((v0 v4 0) = (v2 v4 0)) →
          (False ↔ smZ v0 v1 v2 v3 = true) ∧ True) ∧
        (¬ (¬ ((v0 v4 0) = (v2 v4 0))) →
          (-9223372036854775808 ≤ (v4 + 1) ∧ (v4 + 1) ≤ 9223372036854775807) ∧ ((-9223372036854775808 ≤ (v4 + 1) ∧ (v4 + 1) ≤ 9223372036854775807) →
          I0 (v4 + 1) ∧ μ0 (v4 + 1) < μ0 v4))))) ∧
      (¬ (v4 < v1) →
        (True ↔ smZ v0 v1 v2 v3 = true) ∧ True)))))))
def VC19 : Prop :=
  ∀ (v0 : Int → Nat → Int) (v1 : Int) (v2 : Int → Nat → Int) (v3 : Int),
  (True) →
  (0 ≤ v1 →
  (0 ≤ v3 →
  (v1 ≤ 9223372036854775807 →
  (v3 ≤ 9223372036854775807 →
  (¬ (v1 = v3) →
    (False ↔ smZ v0 v1 v2 v3 = true) ∧ True) ∧
  (¬ (¬ (v1 = v3)) →
    ∃ (I0 : (Int) → Prop) (μ0 : (Int) → Nat), I0 (0 : Int) ∧ (∀ (v4 : Int), I0 v4 →
      (v4 < v1 →
        0 ≤ v4 ∧ (0 ≤ v4 →
        v4 < v3 ∧ (v4 < v3 →
        (¬ ((v0 v4 0) = (v2 v4 0)) →
          (False ↔ smZ v0 v1 v2 v3 = true) ∧ True) ∧
        (¬ (¬ ((v0 v4 0) = (v2 v4 0))) →
          (-9223372036854775808 ≤ (v4 + 1) ∧ (v4 + 1) ≤ 9223372036854775807) ∧ ((-9223372036854775808 ≤ (v4 + 1) ∧ (v4 + 1) ≤ 9223372036854775807) →
          I0 (v4 + 1) ∧ μ0 (v4 + 1) < μ0 v4))))) ∧
      (¬ (v4 < v1) →
        (True ↔ smZ v0 v1 v2 v3 = true) ∧ True)))))))
theorem vh19 (h : VC19) : VH19 := by
  unfold VH19
  exact h
/-! hotspotlaw15.alive -/
def sig12 : CSig := ⟨[], [⟨false, [.bool]⟩]⟩
def pre12 : List AV → Prop
  | [] => True
  | _ => False
noncomputable def raw12 : List AV → List AV
  | [] => [.b (true)]
  | _ => []

def VH12 : Prop :=
  (True) →
  (True ↔ true = true) ∧ True
def VC12 : Prop :=
  (True) →
  (True ↔ true = true) ∧ True
theorem vh12 (h : VC12) : VH12 := by
  unfold VH12
  exact h
end Go.Proofs.YtiiabaklipmbbaaDoor
