/- What the functions do, and what is left to show of each. -/
import Derived.Test.YtiiabaklipmbbaaW
import Derived.Test.YtiiabaklipmbbaaD
import Derived.Test.YtiiabaklipmbbaaD9
set_option linter.unusedVariables false
namespace Go.Proofs.Ytiiabaklipmbbaa
open Go Go.RowKit Go.Proofs.Ytiiabaklipmbbaa.Vc
/-- a function that the kernel does not open -/
noncomputable def hideS {α : Type} (x : α) : {y : α // y = x} := Classical.choice ⟨⟨x, rfl⟩⟩
noncomputable def hidF {α : Type} (x : α) : α := (hideS x).1
theorem hidF_eq {α : Type} (x : α) : hidF x = x := (hideS x).2
/-! exchange.odd -/
def sig17 : CSig := ⟨[⟨false, [.int .i64]⟩], [⟨false, [.bool]⟩]⟩
def pre17 : List AV → Prop
  | [.i v0] => True
  | _ => False
noncomputable def raw17 : List AV → List AV
  | [.i v0] => [.b (decide (v0 < 1 ∨ 32767 < v0))]
  | _ => []

def VH17 : Prop :=
  ∀ (v0 : Int),
  (True) →
  ((v0 < 1 ∨ 32767 < v0) ↔ decide (v0 < 1 ∨ 32767 < v0) = true) ∧ True
def VC17 : Prop :=
  ∀ (v0 : Int),
  (True) →
  ((v0 < 1 ∨ 32767 < v0) ↔ decide (v0 < 1 ∨ 32767 < v0) = true) ∧ True
theorem vh17 (h : VC17) : VH17 := by
  unfold VH17
  exact h
/-! hotspotref10.In -/
def sig26 : CSig := ⟨[⟨false, [.int .i64]⟩, ⟨false, [.int .i64]⟩, ⟨false, [.int .i64]⟩], [⟨false, [.bool]⟩]⟩
def pre26 : List AV → Prop
  | [.i v0, .i v1, .i v2] => True
  | _ => False
noncomputable def raw26 : List AV → List AV
  | [.i v0, .i v1, .i v2] => [.b (decide (v1 ≤ v0 ∧ v0 ≤ v2))]
  | _ => []

def VH26 : Prop :=
  ∀ (v0 : Int) (v1 : Int) (v2 : Int),
  (True) →
  ((v1 ≤ v0 ∧ v0 ≤ v2) ↔ decide (v1 ≤ v0 ∧ v0 ≤ v2) = true) ∧ True
def VC26 : Prop :=
  ∀ (v0 : Int) (v1 : Int) (v2 : Int),
  (True) →
  ((v1 ≤ v0 ∧ v0 ≤ v2) ↔ decide (v1 ≤ v0 ∧ v0 ≤ v2) = true) ∧ True
theorem vh26 (h : VC26) : VH26 := by
  unfold VH26
  exact h
/-! exchange.Length -/
def sig12 : CSig := ⟨[⟨false, [.slc [.int .u8, .bool, .int .i64, .int .i64, .int .i64, .int .i64]]⟩], [⟨false, [.int .i64]⟩]⟩
def pre12 : List AV → Prop
  | [.a v0, .i v1] => lnP v0 v1
  | _ => False
noncomputable def raw12 : List AV → List AV
  | [.a v0, .i v1] => [.i (lnA v0 v1)]
  | _ => []

def VH12 : Prop :=
  ∀ (v0 : Int → Nat → Int) (v1 : Int),
  (lnP v0 v1) →
  (0 ≤ v1 →
  ∃ (I0 : (Int) → (Int) → Prop) (μ0 : (Int) → (Int) → Nat), I0 (0 : Int) (0 : Int) ∧ (∀ (v2 : Int) (v3 : Int), I0 v2 v3 →
    (v1 ≤ 9223372036854775807 →
    (v3 < v1 →
      0 ≤ v3 ∧ (0 ≤ v3 →
      (-9223372036854775808 ≤ ((v0 v3 3) + (v0 v3 4)) ∧ ((v0 v3 3) + (v0 v3 4)) ≤ 9223372036854775807) ∧ ((-9223372036854775808 ≤ ((v0 v3 3) + (v0 v3 4)) ∧ ((v0 v3 3) + (v0 v3 4)) ≤ 9223372036854775807) →
      (-9223372036854775808 ≤ (v3 + 1) ∧ (v3 + 1) ≤ 9223372036854775807) ∧ ((-9223372036854775808 ≤ (v3 + 1) ∧ (v3 + 1) ≤ 9223372036854775807) →
      I0 (max v2 ((v0 v3 3) + (v0 v3 4))) (v3 + 1) ∧ μ0 (max v2 ((v0 v3 3) + (v0 v3 4))) (v3 + 1) < μ0 v2 v3)))) ∧
    (¬ (v3 < v1) →
      v2 = lnA v0 v1 ∧ True))))
def VC12 : Prop :=
  ∀ (v0 : Int → Nat → Int) (v1 : Int),
  (lnP v0 v1) →
  (0 ≤ v1 →
  ∃ (I0 : (Int) → (Int) → Prop) (μ0 : (Int) → (Int) → Nat), I0 (0 : Int) (0 : Int) ∧ (∀ (v2 : Int) (v3 : Int), I0 v2 v3 →
    (v1 ≤ 9223372036854775807 →
    (v3 < v1 →
      0 ≤ v3 ∧ (0 ≤ v3 →
      (-9223372036854775808 ≤ ((v0 v3 3) + (v0 v3 4)) ∧ ((v0 v3 3) + (v0 v3 4)) ≤ 9223372036854775807) ∧ ((-9223372036854775808 ≤ ((v0 v3 3) + (v0 v3 4)) ∧ ((v0 v3 3) + (v0 v3 4)) ≤ 9223372036854775807) →
      (-9223372036854775808 ≤ (v3 + 1) ∧ (v3 + 1) ≤ 9223372036854775807) ∧ ((-9223372036854775808 ≤ (v3 + 1) ∧ (v3 + 1) ≤ 9223372036854775807) →
      I0 (max v2 ((v0 v3 3) + (v0 v3 4))) (v3 + 1) ∧ μ0 (max v2 ((v0 v3 3) + (v0 v3 4))) (v3 + 1) < μ0 v2 v3)))) ∧
    (¬ (v3 < v1) →
      v2 = lnA v0 v1 ∧ True))))
theorem vh12 (h : VC12) : VH12 := by
  unfold VH12
  exact h
/-! hotspotref15.Valid -/
def sig19 : CSig := ⟨[⟨true, [.int .u8, .int .u8, .int .i64, .slc [.int .i64], .int .i64, .int .i64, .int .i64, .int .i64, .int .i64]⟩], [⟨false, [.bool]⟩]⟩
def pre19 : List AV → Prop
  | [.i v0, .i v1, .i v2, .a v3, .i v4, .i v5, .i v6, .i v7, .i v8, .i v9] => True
  | _ => False
noncomputable def raw19 : List AV → List AV
  | [.i v0, .i v1, .i v2, .a v3, .i v4, .i v5, .i v6, .i v7, .i v8, .i v9] => [.b (exV (Xc.mk v0 v1 v2 v3 v4 v5 v6 v7 v8 v9))]
  | _ => []

def VH19 : Prop :=
  ∀ (v0 : Int) (v1 : Int) (v2 : Int) (v3 : Int → Nat → Int) (v4 : Int) (v5 : Int) (v6 : Int) (v7 : Int) (v8 : Int) (v9 : Int),
  (True) →
  (0 ≤ v4 →
  ((¬ ((2 < v0 ∨ 2 < v1)) → True)) ∧ (∀ (v10 : Bool), v10 = decide ((0 : Int) ≤ v2 ∧ v2 ≤ (32767 : Int)) → 
  (v4 ≤ 9223372036854775807 →
  ((¬ (((2 < v0 ∨ 2 < v1) ∨ ¬ (v10 = true))) → True)) ∧ (∀ (v11 : Bool), v11 = decide ((1 : Int) ≤ v4 ∧ v4 ≤ (16 : Int)) → 
  ((((2 < v0 ∨ 2 < v1) ∨ ¬ (v10 = true)) ∨ ¬ (v11 = true)) →
    (False ↔ exV (Xc.mk v0 v1 v2 v3 v4 v5 v6 v7 v8 v9) = true) ∧ True) ∧
  (¬ ((((2 < v0 ∨ 2 < v1) ∨ ¬ (v10 = true)) ∨ ¬ (v11 = true))) →
    ((5 + v4) * 8) ≤ 140737488355328 ∧ (((5 + v4) * 8) ≤ 140737488355328 →
    (5 + v4) ≤ 140737488355328 ∧ ((5 + v4) ≤ 140737488355328 →
    ∃ (I0 : (Int) → Prop) (μ0 : (Int) → Nat), I0 (0 : Int) ∧ (∀ (v12 : Int), I0 v12 →
      ((5 + v4) ≤ 9223372036854775807 →
      (v12 < (5 + v4) →
        0 ≤ v12 ∧ (0 ≤ v12 →
        (True) ∧ (∀ (v13 : Bool), v13 = decide ((1 : Int) ≤ ((appA (setA (setA (setA (setA (setA zA 0 0 v5) 1 0 v6) 2 0 v7) 3 0 v8) 4 0 v9) 5 v3) v12 0) ∧ ((appA (setA (setA (setA (setA (setA zA 0 0 v5) 1 0 v6) 2 0 v7) 3 0 v8) 4 0 v9) 5 v3) v12 0) ≤ (32767 : Int)) → 
        (¬ (v13 = true) →
          (False ↔ exV (Xc.mk v0 v1 v2 v3 v4 v5 v6 v7 v8 v9) = true) ∧ True) ∧
        (¬ (¬ (v13 = true)) →
          (-9223372036854775808 ≤ (v12 + 1) ∧ (v12 + 1) ≤ 9223372036854775807) ∧ ((-9223372036854775808 ≤ (v12 + 1) ∧ (v12 + 1) ≤ 9223372036854775807) →
          I0 (v12 + 1) ∧ μ0 (v12 + 1) < μ0 v12))))) ∧
      (¬ (v12 < (5 + v4)) →
        (True ↔ exV (Xc.mk v0 v1 v2 v3 v4 v5 v6 v7 v8 v9) = true) ∧ True))))))))))
def VC19 : Prop :=
  ∀ (v0 : Int) (v1 : Int) (v2 : Int) (v3 : Int → Nat → Int) (v4 : Int) (v5 : Int) (v6 : Int) (v7 : Int) (v8 : Int) (v9 : Int),
  (True) →
  (0 ≤ v4 →
  ((¬ ((2 < v0 ∨ 2 < v1)) → True)) ∧ (∀ (v10 : Bool), v10 = decide ((0 : Int) ≤ v2 ∧ v2 ≤ (32767 : Int)) → 
  (v4 ≤ 9223372036854775807 →
  ((¬ (((2 < v0 ∨ 2 < v1) ∨ ¬ (v10 = true))) → True)) ∧ (∀ (v11 : Bool), v11 = decide ((1 : Int) ≤ v4 ∧ v4 ≤ (16 : Int)) → 
  ((((2 < v0 ∨ 2 < v1) ∨ ¬ (v10 = true)) ∨ ¬ (v11 = true)) →
    (False ↔ exV (Xc.mk v0 v1 v2 v3 v4 v5 v6 v7 v8 v9) = true) ∧ True) ∧
  (¬ ((((2 < v0 ∨ 2 < v1) ∨ ¬ (v10 = true)) ∨ ¬ (v11 = true))) →
    ((5 + v4) * 8) ≤ 140737488355328 ∧ (((5 + v4) * 8) ≤ 140737488355328 →
    (5 + v4) ≤ 140737488355328 ∧ ((5 + v4) ≤ 140737488355328 →
    ∃ (I0 : (Int) → Prop) (μ0 : (Int) → Nat), I0 (0 : Int) ∧ (∀ (v12 : Int), I0 v12 →
      ((5 + v4) ≤ 9223372036854775807 →
      (v12 < (5 + v4) →
        0 ≤ v12 ∧ (0 ≤ v12 →
        (True) ∧ (∀ (v13 : Bool), v13 = decide ((1 : Int) ≤ ((appA (setA (setA (setA (setA (setA zA 0 0 v5) 1 0 v6) 2 0 v7) 3 0 v8) 4 0 v9) 5 v3) v12 0) ∧ ((appA (setA (setA (setA (setA (setA zA 0 0 v5) 1 0 v6) 2 0 v7) 3 0 v8) 4 0 v9) 5 v3) v12 0) ≤ (32767 : Int)) → 
        (¬ (v13 = true) →
          (False ↔ exV (Xc.mk v0 v1 v2 v3 v4 v5 v6 v7 v8 v9) = true) ∧ True) ∧
        (¬ (¬ (v13 = true)) →
          (-9223372036854775808 ≤ (v12 + 1) ∧ (v12 + 1) ≤ 9223372036854775807) ∧ ((-9223372036854775808 ≤ (v12 + 1) ∧ (v12 + 1) ≤ 9223372036854775807) →
          I0 (v12 + 1) ∧ μ0 (v12 + 1) < μ0 v12))))) ∧
      (¬ (v12 < (5 + v4)) →
        (True ↔ exV (Xc.mk v0 v1 v2 v3 v4 v5 v6 v7 v8 v9) = true) ∧ True))))))))))
theorem vh19 (h : VC19) : VH19 := by
  unfold VH19
  exact h
/-! hotspotref15.Same -/
def sig9 : CSig := ⟨[⟨false, [.slc [.int .u8, .bool, .int .i64, .int .i64, .int .i64, .int .i64]]⟩, ⟨false, [.slc [.int .u8, .bool, .int .i64, .int .i64, .int .i64, .int .i64]]⟩], [⟨false, [.bool]⟩]⟩
def pre9 : List AV → Prop
  | [.a v0, .i v1, .a v2, .i v3] => True
  | _ => False
noncomputable def raw9 : List AV → List AV
  | [.a v0, .i v1, .a v2, .i v3] => [.b (smP v0 v1 v2 v3)]
  | _ => []

def VH9 : Prop :=
  ∀ (v0 : Int → Nat → Int) (v1 : Int) (v2 : Int → Nat → Int) (v3 : Int),
  (True) →
  (0 ≤ v1 →
  (0 ≤ v3 →
  (v1 ≤ 9223372036854775807 →
  (v3 ≤ 9223372036854775807 →
  (¬ (v1 = v3) →
    (False ↔ smP v0 v1 v2 v3 = true) ∧ True) ∧
  (¬ (¬ (v1 = v3)) →
    ∃ (I0 : (Int) → Prop) (μ0 : (Int) → Nat), I0 (0 : Int) ∧ (∀ (v4 : Int), I0 v4 →
      (v4 < v1 →
        0 ≤ v4 ∧ (0 ≤ v4 →
        v4 < v3 ∧ (v4 < v3 →
        (¬ (((v0 v4 0) = (v2 v4 0) ∧ (((¬ ((v0 v4 1) = 0) ∧ ¬ ((v2 v4 1) = 0)) ∨ ((v0 v4 1) = 0 ∧ (v2 v4 1) = 0)) ∧ ((v0 v4 2) = (v2 v4 2) ∧ ((v0 v4 3) = (v2 v4 3) ∧ ((v0 v4 4) = (v2 v4 4) ∧ (v0 v4 5) = (v2 v4 5))))))) →
          (False ↔ smP v0 v1 v2 v3 = true) ∧ True) ∧
        (¬ (¬ (((v0 v4 0) = (v2 v4 0) ∧ (((¬ ((v0 v4 1) = 0) ∧ ¬ ((v2 v4 1) = 0)) ∨ ((v0 v4 1) = 0 ∧ (v2 v4 1) = 0)) ∧ ((v0 v4 2) = (v2 v4 2) ∧ ((v0 v4 3) = (v2 v4 3) ∧ ((v0 v4 4) = (v2 v4 4) ∧ (v0 v4 5) = (v2 v4 5)))))))) →
          (-9223372036854775808 ≤ (v4 + 1) ∧ (v4 + 1) ≤ 9223372036854775807) ∧ ((-9223372036854775808 ≤ (v4 + 1) ∧ (v4 + 1) ≤ 9223372036854775807) →
          I0 (v4 + 1) ∧ μ0 (v4 + 1) < μ0 v4))))) ∧
      (¬ (v4 < v1) →
        (True ↔ smP v0 v1 v2 v3 = true) ∧ True)))))))
def VC9 : Prop :=
  ∀ (v0 : Int → Nat → Int) (v1 : Int) (v2 : Int → Nat → Int) (v3 : Int),
  (True) →
  (0 ≤ v1 →
  (0 ≤ v3 →
  (v1 ≤ 9223372036854775807 →
  (v3 ≤ 9223372036854775807 →
  (¬ (v1 = v3) →
    (False ↔ smP v0 v1 v2 v3 = true) ∧ True) ∧
  (¬ (¬ (v1 = v3)) →
    ∃ (I0 : (Int) → Prop) (μ0 : (Int) → Nat), I0 (0 : Int) ∧ (∀ (v4 : Int), I0 v4 →
      (v4 < v1 →
        0 ≤ v4 ∧ (0 ≤ v4 →
        v4 < v3 ∧ (v4 < v3 →
        (¬ (((v0 v4 0) = (v2 v4 0) ∧ (((¬ ((v0 v4 1) = 0) ∧ ¬ ((v2 v4 1) = 0)) ∨ ((v0 v4 1) = 0 ∧ (v2 v4 1) = 0)) ∧ ((v0 v4 2) = (v2 v4 2) ∧ ((v0 v4 3) = (v2 v4 3) ∧ ((v0 v4 4) = (v2 v4 4) ∧ (v0 v4 5) = (v2 v4 5))))))) →
          (False ↔ smP v0 v1 v2 v3 = true) ∧ True) ∧
        (¬ (¬ (((v0 v4 0) = (v2 v4 0) ∧ (((¬ ((v0 v4 1) = 0) ∧ ¬ ((v2 v4 1) = 0)) ∨ ((v0 v4 1) = 0 ∧ (v2 v4 1) = 0)) ∧ ((v0 v4 2) = (v2 v4 2) ∧ ((v0 v4 3) = (v2 v4 3) ∧ ((v0 v4 4) = (v2 v4 4) ∧ (v0 v4 5) = (v2 v4 5)))))))) →
          (-9223372036854775808 ≤ (v4 + 1) ∧ (v4 + 1) ≤ 9223372036854775807) ∧ ((-9223372036854775808 ≤ (v4 + 1) ∧ (v4 + 1) ≤ 9223372036854775807) →
          I0 (v4 + 1) ∧ μ0 (v4 + 1) < μ0 v4))))) ∧
      (¬ (v4 < v1) →
        (True ↔ smP v0 v1 v2 v3 = true) ∧ True)))))))
theorem vh9 (h : VC9) : VH9 := by
  unfold VH9
  exact h
/-! hotspotref10.SameInts -/
def sig10 : CSig := ⟨[⟨false, [.slc [.int .i64]]⟩, ⟨false, [.slc [.int .i64]]⟩], [⟨false, [.bool]⟩]⟩
def pre10 : List AV → Prop
  | [.a v0, .i v1, .a v2, .i v3] => True
  | _ => False
noncomputable def raw10 : List AV → List AV
  | [.a v0, .i v1, .a v2, .i v3] => [.b (smZ v0 v1 v2 v3)]
  | _ => []

def VH10 : Prop :=
  ∀ (v0 : Int → Nat → Int) (v1 : Int) (v2 : Int → Nat → Int) (v3 : Int),
  (True) →
  (0 ≤ v1 →
  (0 ≤ v3 →
  (v1 ≤ 9223372036854775807 →
  (v3 ≤ 9223372036854775807 →
  (¬ (v1 = v3) →
    (False ↔ smZ v0 v1 v2 v3 = true) ∧ True) ∧
  (¬ (¬ (v1 = v3)) →
    ∃ (I0 : (Int) → Prop) (μ0 : (Int) → Nat), I0 (0 : Int) ∧ (∀ (v4 : Int), I0 v4 →
      (v4 < v1 →
        0 ≤ v4 ∧ (0 ≤ v4 →
        v4 < v3 ∧ (v4 < v3 →
        (¬ ((v0 v4 0) = (v2 v4 0)) →
          (False ↔ smZ v0 v1 v2 v3 = true) ∧ True) ∧
        (¬ (¬ ((v0 v4 0) = (v2 v4 0))) →
          (-9223372036854775808 ≤ (v4 + 1) ∧ (v4 + 1) ≤ 9223372036854775807) ∧ ((-9223372036854775808 ≤ (v4 + 1) ∧ (v4 + 1) ≤ 9223372036854775807) →
          I0 (v4 + 1) ∧ μ0 (v4 + 1) < μ0 v4))))) ∧
      (¬ (v4 < v1) →
        (True ↔ smZ v0 v1 v2 v3 = true) ∧ True)))))))
def VC10 : Prop :=
  ∀ (v0 : Int → Nat → Int) (v1 : Int) (v2 : Int → Nat → Int) (v3 : Int),
  (True) →
  (0 ≤ v1 →
  (0 ≤ v3 →
  (v1 ≤ 9223372036854775807 →
  (v3 ≤ 9223372036854775807 →
  (¬ (v1 = v3) →
    (False ↔ smZ v0 v1 v2 v3 = true) ∧ True) ∧
  (¬ (¬ (v1 = v3)) →
    ∃ (I0 : (Int) → Prop) (μ0 : (Int) → Nat), I0 (0 : Int) ∧ (∀ (v4 : Int), I0 v4 →
      (v4 < v1 →
        0 ≤ v4 ∧ (0 ≤ v4 →
        v4 < v3 ∧ (v4 < v3 →
        (¬ ((v0 v4 0) = (v2 v4 0)) →
          (False ↔ smZ v0 v1 v2 v3 = true) ∧ True) ∧
        (¬ (¬ ((v0 v4 0) = (v2 v4 0))) →
          (-9223372036854775808 ≤ (v4 + 1) ∧ (v4 + 1) ≤ 9223372036854775807) ∧ ((-9223372036854775808 ≤ (v4 + 1) ∧ (v4 + 1) ≤ 9223372036854775807) →
          I0 (v4 + 1) ∧ μ0 (v4 + 1) < μ0 v4))))) ∧
      (¬ (v4 < v1) →
        (True ↔ smZ v0 v1 v2 v3 = true) ∧ True)))))))
theorem vh10 (h : VC10) : VH10 := by
  unfold VH10
  exact h
/-! hotspotlaw15.alive -/
def sig11 : CSig := ⟨[], [⟨false, [.bool]⟩]⟩
def pre11 : List AV → Prop
  | [] => True
  | _ => False
noncomputable def raw11 : List AV → List AV
  | [] => [.b (true)]
  | _ => []

def VH11 : Prop :=
  (True) →
  (True ↔ true = true) ∧ True
def VC11 : Prop :=
  (True) →
  (True ↔ true = true) ∧ True
theorem vh11 (h : VC11) : VH11 := by
  unfold VH11
  exact h
/-! hotspotlaw15.count -/
def sig13 : CSig := ⟨[⟨false, [.slc [.int .u8, .bool, .int .i64, .int .i64, .int .i64, .int .i64]]⟩, ⟨false, [.int .u8]⟩], [⟨false, [.int .i64]⟩]⟩
def pre13 : List AV → Prop
  | [.a v0, .i v1, .i v2] => True
  | _ => False
noncomputable def raw13 : List AV → List AV
  | [.a v0, .i v1, .i v2] => [.i (ctA v0 v1 v2)]
  | _ => []

def VH13 : Prop :=
  ∀ (v0 : Int → Nat → Int) (v1 : Int) (v2 : Int),
  (True) →
  (0 ≤ v1 →
  ∃ (I0 : (Int) → (Int) → Prop) (μ0 : (Int) → (Int) → Nat), I0 (0 : Int) (0 : Int) ∧ (∀ (v3 : Int) (v4 : Int), I0 v3 v4 →
    (v1 ≤ 9223372036854775807 →
    (v4 < v1 →
      0 ≤ v4 ∧ (0 ≤ v4 →
      ((v0 v4 0) = v2 →
        (-9223372036854775808 ≤ (v3 + 1) ∧ (v3 + 1) ≤ 9223372036854775807) ∧ ((-9223372036854775808 ≤ (v3 + 1) ∧ (v3 + 1) ≤ 9223372036854775807) →
        (-9223372036854775808 ≤ (v4 + 1) ∧ (v4 + 1) ≤ 9223372036854775807) ∧ ((-9223372036854775808 ≤ (v4 + 1) ∧ (v4 + 1) ≤ 9223372036854775807) →
        I0 (v3 + 1) (v4 + 1) ∧ μ0 (v3 + 1) (v4 + 1) < μ0 v3 v4))) ∧
      (¬ ((v0 v4 0) = v2) →
        (-9223372036854775808 ≤ (v4 + 1) ∧ (v4 + 1) ≤ 9223372036854775807) ∧ ((-9223372036854775808 ≤ (v4 + 1) ∧ (v4 + 1) ≤ 9223372036854775807) →
        I0 v3 (v4 + 1) ∧ μ0 v3 (v4 + 1) < μ0 v3 v4)))) ∧
    (¬ (v4 < v1) →
      v3 = ctA v0 v1 v2 ∧ True))))
def VC13 : Prop :=
  ∀ (v0 : Int → Nat → Int) (v1 : Int) (v2 : Int),
  (True) →
  (0 ≤ v1 →
  ∃ (I0 : (Int) → (Int) → Prop) (μ0 : (Int) → (Int) → Nat), I0 (0 : Int) (0 : Int) ∧ (∀ (v3 : Int) (v4 : Int), I0 v3 v4 →
    (v1 ≤ 9223372036854775807 →
    (v4 < v1 →
      0 ≤ v4 ∧ (0 ≤ v4 →
      ((v0 v4 0) = v2 →
        (-9223372036854775808 ≤ (v3 + 1) ∧ (v3 + 1) ≤ 9223372036854775807) ∧ ((-9223372036854775808 ≤ (v3 + 1) ∧ (v3 + 1) ≤ 9223372036854775807) →
        (-9223372036854775808 ≤ (v4 + 1) ∧ (v4 + 1) ≤ 9223372036854775807) ∧ ((-9223372036854775808 ≤ (v4 + 1) ∧ (v4 + 1) ≤ 9223372036854775807) →
        I0 (v3 + 1) (v4 + 1) ∧ μ0 (v3 + 1) (v4 + 1) < μ0 v3 v4))) ∧
      (¬ ((v0 v4 0) = v2) →
        (-9223372036854775808 ≤ (v4 + 1) ∧ (v4 + 1) ≤ 9223372036854775807) ∧ ((-9223372036854775808 ≤ (v4 + 1) ∧ (v4 + 1) ≤ 9223372036854775807) →
        I0 v3 (v4 + 1) ∧ μ0 v3 (v4 + 1) < μ0 v3 v4)))) ∧
    (¬ (v4 < v1) →
      v3 = ctA v0 v1 v2 ∧ True))))
theorem vh13 (h : VC13) : VH13 := by
  unfold VH13
  exact h
end Go.Proofs.Ytiiabaklipmbbaa
