/- What the functions do, and what is left to show of each. -/
import Derived.Test.YtccmgepknjkakaaW
import Derived.Test.YtccmgepknjkakaaD
import Derived.Test.YtccmgepknjkakaaD2
set_option linter.unusedVariables false
namespace Go.Proofs.Ytccmgepknjkakaa
open Go Go.RowKit Go.Proofs.Ytccmgepknjkakaa.Vc
/-- a function that the kernel does not open -/
noncomputable def hideS {α : Type} (x : α) : {y : α // y = x} := Classical.choice ⟨⟨x, rfl⟩⟩
noncomputable def hidF {α : Type} (x : α) : α := (hideS x).1
theorem hidF_eq {α : Type} (x : α) : hidF x = x := (hideS x).2
/-! airtime.Check -/
def sig24 : CSig := ⟨[⟨true, [.slc [.int .i64, .int .i64], .int .i64]⟩], [⟨false, [.int .i64]⟩]⟩
def pre24 : List AV → Prop
  | [.a v0, .i v1, .i v2] => True
  | _ => False
noncomputable def raw24 : List AV → List AV
  | [.a v0, .i v1, .i v2] => [.i ((hidF ckA) v0 v1 v2)]
  | _ => []

def VH24 : Prop :=
  ∀ (v0 : Int → Nat → Int) (v1 : Int) (v2 : Int),
  (True) →
  (0 ≤ v1 →
  (¬ ((((v1 < 1 ∨ 32 < v1) ∨ v2 < 0) ∨ v1 ≤ v2)) →
    ∃ (I0 : (Int) → Prop) (μ0 : (Int) → Nat), I0 (0 : Int) ∧ (∀ (v3 : Int), I0 v3 →
      (v1 ≤ 9223372036854775807 →
      (v3 < v1 →
        0 ≤ v3 ∧ (0 ≤ v3 →
        ((((v0 v3 0) < 1 ∨ 16 < (v0 v3 0)) ∨ (v0 v3 1) < (-32767)) ∨ (-9223372036854775808 ≤ (1000 * (v0 v3 0)) ∧ (1000 * (v0 v3 0)) ≤ 9223372036854775807)) ∧ (((((v0 v3 0) < 1 ∨ 16 < (v0 v3 0)) ∨ (v0 v3 1) < (-32767)) ∨ (-9223372036854775808 ≤ (1000 * (v0 v3 0)) ∧ (1000 * (v0 v3 0)) ≤ 9223372036854775807)) →
        (((((v0 v3 0) < 1 ∨ 16 < (v0 v3 0)) ∨ (v0 v3 1) < (-32767)) ∨ (1000 * (v0 v3 0)) < (v0 v3 1)) →
          (8 : Int) = (hidF ckA) v0 v1 v2 ∧ True) ∧
        (¬ (((((v0 v3 0) < 1 ∨ 16 < (v0 v3 0)) ∨ (v0 v3 1) < (-32767)) ∨ (1000 * (v0 v3 0)) < (v0 v3 1))) →
          (-9223372036854775808 ≤ (v3 + 1) ∧ (v3 + 1) ≤ 9223372036854775807) ∧ ((-9223372036854775808 ≤ (v3 + 1) ∧ (v3 + 1) ≤ 9223372036854775807) →
          I0 (v3 + 1) ∧ μ0 (v3 + 1) < μ0 v3))))) ∧
      (¬ (v3 < v1) →
        (0 : Int) = (hidF ckA) v0 v1 v2 ∧ True)))) ∧
  (¬ (¬ ((((v1 < 1 ∨ 32 < v1) ∨ v2 < 0) ∨ v1 ≤ v2))) →
    (8 : Int) = (hidF ckA) v0 v1 v2 ∧ True))
def VC24 : Prop :=
  ∀ (v0 : Int → Nat → Int) (v1 : Int) (v2 : Int),
  (True) →
  (0 ≤ v1 →
  (¬ ((((v1 < 1 ∨ 32 < v1) ∨ v2 < 0) ∨ v1 ≤ v2)) →
    ∃ (I0 : (Int) → Prop) (μ0 : (Int) → Nat), I0 (0 : Int) ∧ (∀ (v3 : Int), I0 v3 →
      (v1 ≤ 9223372036854775807 →
      (v3 < v1 →
        0 ≤ v3 ∧ (0 ≤ v3 →
        ((((v0 v3 0) < 1 ∨ 16 < (v0 v3 0)) ∨ (v0 v3 1) < (-32767)) ∨ (-9223372036854775808 ≤ (1000 * (v0 v3 0)) ∧ (1000 * (v0 v3 0)) ≤ 9223372036854775807)) ∧ (((((v0 v3 0) < 1 ∨ 16 < (v0 v3 0)) ∨ (v0 v3 1) < (-32767)) ∨ (-9223372036854775808 ≤ (1000 * (v0 v3 0)) ∧ (1000 * (v0 v3 0)) ≤ 9223372036854775807)) →
        (((((v0 v3 0) < 1 ∨ 16 < (v0 v3 0)) ∨ (v0 v3 1) < (-32767)) ∨ (1000 * (v0 v3 0)) < (v0 v3 1)) →
          (8 : Int) = ckA v0 v1 v2 ∧ True) ∧
        (¬ (((((v0 v3 0) < 1 ∨ 16 < (v0 v3 0)) ∨ (v0 v3 1) < (-32767)) ∨ (1000 * (v0 v3 0)) < (v0 v3 1))) →
          (-9223372036854775808 ≤ (v3 + 1) ∧ (v3 + 1) ≤ 9223372036854775807) ∧ ((-9223372036854775808 ≤ (v3 + 1) ∧ (v3 + 1) ≤ 9223372036854775807) →
          I0 (v3 + 1) ∧ μ0 (v3 + 1) < μ0 v3))))) ∧
      (¬ (v3 < v1) →
        (0 : Int) = ckA v0 v1 v2 ∧ True)))) ∧
  (¬ (¬ ((((v1 < 1 ∨ 32 < v1) ∨ v2 < 0) ∨ v1 ≤ v2))) →
    (8 : Int) = ckA v0 v1 v2 ∧ True))
theorem vh24 (h : VC24) : VH24 := by
  unfold VH24
  rw [hidF_eq ckA]
  exact h
/-! hotspotref44.Check -/
def sig25 : CSig := ⟨[⟨true, [.slc [.int .i64, .int .i64], .int .i64]⟩], [⟨false, [.int .i64]⟩]⟩
def pre25 : List AV → Prop
  | [.a v0, .i v1, .i v2] => True
  | _ => False
noncomputable def raw25 : List AV → List AV
  | [.a v0, .i v1, .i v2] => [.i ((hidF ckA) v0 v1 v2)]
  | _ => []

def VH25 : Prop :=
  ∀ (v0 : Int → Nat → Int) (v1 : Int) (v2 : Int),
  (True) →
  (0 ≤ v1 →
  (v1 ≤ 9223372036854775807 →
  ((((v1 < 1 ∨ 32 < v1) ∨ v2 < 0) ∨ v1 ≤ v2) →
    (8 : Int) = (hidF ckA) v0 v1 v2 ∧ True) ∧
  (¬ ((((v1 < 1 ∨ 32 < v1) ∨ v2 < 0) ∨ v1 ≤ v2)) →
    ∃ (I0 : (Int) → Prop) (μ0 : (Int) → Nat), I0 (0 : Int) ∧ (∀ (v3 : Int), I0 v3 →
      (v3 < v1 →
        0 ≤ v3 ∧ (0 ≤ v3 →
        ((((v0 v3 0) < 1 ∨ 16 < (v0 v3 0)) ∨ (v0 v3 1) < (-32767)) ∨ (-9223372036854775808 ≤ (1000 * (v0 v3 0)) ∧ (1000 * (v0 v3 0)) ≤ 9223372036854775807)) ∧ (((((v0 v3 0) < 1 ∨ 16 < (v0 v3 0)) ∨ (v0 v3 1) < (-32767)) ∨ (-9223372036854775808 ≤ (1000 * (v0 v3 0)) ∧ (1000 * (v0 v3 0)) ≤ 9223372036854775807)) →
        (((((v0 v3 0) < 1 ∨ 16 < (v0 v3 0)) ∨ (v0 v3 1) < (-32767)) ∨ (1000 * (v0 v3 0)) < (v0 v3 1)) →
          (8 : Int) = (hidF ckA) v0 v1 v2 ∧ True) ∧
        (¬ (((((v0 v3 0) < 1 ∨ 16 < (v0 v3 0)) ∨ (v0 v3 1) < (-32767)) ∨ (1000 * (v0 v3 0)) < (v0 v3 1))) →
          (-9223372036854775808 ≤ (v3 + 1) ∧ (v3 + 1) ≤ 9223372036854775807) ∧ ((-9223372036854775808 ≤ (v3 + 1) ∧ (v3 + 1) ≤ 9223372036854775807) →
          I0 (v3 + 1) ∧ μ0 (v3 + 1) < μ0 v3))))) ∧
      (¬ (v3 < v1) →
        (0 : Int) = (hidF ckA) v0 v1 v2 ∧ True)))))
def VC25 : Prop :=
  ∀ (v0 : Int → Nat → Int) (v1 : Int) (v2 : Int),
  (True) →
  (0 ≤ v1 →
  (v1 ≤ 9223372036854775807 →
  ((((v1 < 1 ∨ 32 < v1) ∨ v2 < 0) ∨ v1 ≤ v2) →
    (8 : Int) = ckA v0 v1 v2 ∧ True) ∧
  (¬ ((((v1 < 1 ∨ 32 < v1) ∨ v2 < 0) ∨ v1 ≤ v2)) →
    ∃ (I0 : (Int) → Prop) (μ0 : (Int) → Nat), I0 (0 : Int) ∧ (∀ (v3 : Int), I0 v3 →
      (v3 < v1 →
        0 ≤ v3 ∧ (0 ≤ v3 →
        ((((v0 v3 0) < 1 ∨ 16 < (v0 v3 0)) ∨ (v0 v3 1) < (-32767)) ∨ (-9223372036854775808 ≤ (1000 * (v0 v3 0)) ∧ (1000 * (v0 v3 0)) ≤ 9223372036854775807)) ∧ (((((v0 v3 0) < 1 ∨ 16 < (v0 v3 0)) ∨ (v0 v3 1) < (-32767)) ∨ (-9223372036854775808 ≤ (1000 * (v0 v3 0)) ∧ (1000 * (v0 v3 0)) ≤ 9223372036854775807)) →
        (((((v0 v3 0) < 1 ∨ 16 < (v0 v3 0)) ∨ (v0 v3 1) < (-32767)) ∨ (1000 * (v0 v3 0)) < (v0 v3 1)) →
          (8 : Int) = ckA v0 v1 v2 ∧ True) ∧
        (¬ (((((v0 v3 0) < 1 ∨ 16 < (v0 v3 0)) ∨ (v0 v3 1) < (-32767)) ∨ (1000 * (v0 v3 0)) < (v0 v3 1))) →
          (-9223372036854775808 ≤ (v3 + 1) ∧ (v3 + 1) ≤ 9223372036854775807) ∧ ((-9223372036854775808 ≤ (v3 + 1) ∧ (v3 + 1) ≤ 9223372036854775807) →
          I0 (v3 + 1) ∧ μ0 (v3 + 1) < μ0 v3))))) ∧
      (¬ (v3 < v1) →
        (0 : Int) = ckA v0 v1 v2 ∧ True)))))
theorem vh25 (h : VC25) : VH25 := by
  unfold VH25
  rw [hidF_eq ckA]
  exact h
/-! hotspotref44.Same -/
def sig14 : CSig := ⟨[⟨true, [.slc [.int .i64, .int .i64], .int .i64]⟩, ⟨true, [.slc [.int .i64, .int .i64], .int .i64]⟩], [⟨false, [.bool]⟩]⟩
def pre14 : List AV → Prop
  | [.a v0, .i v1, .i v2, .a v3, .i v4, .i v5] => True
  | _ => False
noncomputable def raw14 : List AV → List AV
  | [.a v0, .i v1, .i v2, .a v3, .i v4, .i v5] => [.b ((hidF smA) v0 v1 v2 v3 v4 v5)]
  | _ => []

def VH14 : Prop :=
  ∀ (v0 : Int → Nat → Int) (v1 : Int) (v2 : Int) (v3 : Int → Nat → Int) (v4 : Int) (v5 : Int),
  (True) →
  (0 ≤ v1 →
  (0 ≤ v4 →
  (v1 ≤ 9223372036854775807 →
  (v4 ≤ 9223372036854775807 →
  ((¬ (v1 = v4) ∨ ¬ (v2 = v5)) →
    (False ↔ (hidF smA) v0 v1 v2 v3 v4 v5 = true) ∧ True) ∧
  (¬ ((¬ (v1 = v4) ∨ ¬ (v2 = v5))) →
    ∃ (I0 : (Int) → Prop) (μ0 : (Int) → Nat), I0 (0 : Int) ∧ (∀ (v6 : Int), I0 v6 →
      (v6 < v1 →
        0 ≤ v6 ∧ (0 ≤ v6 →
        v6 < v4 ∧ (v6 < v4 →
        (¬ (((v0 v6 0) = (v3 v6 0) ∧ (v0 v6 1) = (v3 v6 1))) →
          (False ↔ (hidF smA) v0 v1 v2 v3 v4 v5 = true) ∧ True) ∧
        (¬ (¬ (((v0 v6 0) = (v3 v6 0) ∧ (v0 v6 1) = (v3 v6 1)))) →
          (-9223372036854775808 ≤ (v6 + 1) ∧ (v6 + 1) ≤ 9223372036854775807) ∧ ((-9223372036854775808 ≤ (v6 + 1) ∧ (v6 + 1) ≤ 9223372036854775807) →
          I0 (v6 + 1) ∧ μ0 (v6 + 1) < μ0 v6))))) ∧
      (¬ (v6 < v1) →
        (True ↔ (hidF smA) v0 v1 v2 v3 v4 v5 = true) ∧ True)))))))
def VC14 : Prop :=
  ∀ (v0 : Int → Nat → Int) (v1 : Int) (v2 : Int) (v3 : Int → Nat → Int) (v4 : Int) (v5 : Int),
  (True) →
  (0 ≤ v1 →
  (0 ≤ v4 →
  (v1 ≤ 9223372036854775807 →
  (v4 ≤ 9223372036854775807 →
  ((¬ (v1 = v4) ∨ ¬ (v2 = v5)) →
    (False ↔ smA v0 v1 v2 v3 v4 v5 = true) ∧ True) ∧
  (¬ ((¬ (v1 = v4) ∨ ¬ (v2 = v5))) →
    ∃ (I0 : (Int) → Prop) (μ0 : (Int) → Nat), I0 (0 : Int) ∧ (∀ (v6 : Int), I0 v6 →
      (v6 < v1 →
        0 ≤ v6 ∧ (0 ≤ v6 →
        v6 < v4 ∧ (v6 < v4 →
        (¬ (((v0 v6 0) = (v3 v6 0) ∧ (v0 v6 1) = (v3 v6 1))) →
          (False ↔ smA v0 v1 v2 v3 v4 v5 = true) ∧ True) ∧
        (¬ (¬ (((v0 v6 0) = (v3 v6 0) ∧ (v0 v6 1) = (v3 v6 1)))) →
          (-9223372036854775808 ≤ (v6 + 1) ∧ (v6 + 1) ≤ 9223372036854775807) ∧ ((-9223372036854775808 ≤ (v6 + 1) ∧ (v6 + 1) ≤ 9223372036854775807) →
          I0 (v6 + 1) ∧ μ0 (v6 + 1) < μ0 v6))))) ∧
      (¬ (v6 < v1) →
        (True ↔ smA v0 v1 v2 v3 v4 v5 = true) ∧ True)))))))
theorem vh14 (h : VC14) : VH14 := by
  unfold VH14
  rw [hidF_eq smA]
  exact h
/-! hotspotref44.Twin -/
def sig18 : CSig := ⟨[⟨true, [.slc [.int .i64, .int .i64], .int .i64]⟩], [⟨true, [.slc [.int .i64, .int .i64], .int .i64]⟩]⟩
def pre18 : List AV → Prop
  | [.a v0, .i v1, .i v2] => v1 ≤ 40
  | _ => False
noncomputable def raw18 : List AV → List AV
  | [.a v0, .i v1, .i v2] => [.a (v0), .i (v1), .i (v2)]
  | _ => []

def VH18 : Prop :=
  ∀ (v0 : Int → Nat → Int) (v1 : Int) (v2 : Int),
  (v1 ≤ 40) →
  (0 ≤ v1 →
  (v1 * 16) ≤ 140737488355328 ∧ ((v1 * 16) ≤ 140737488355328 →
  v1 ≤ 140737488355328 ∧ (v1 ≤ 140737488355328 →
  (v1 ≤ 9223372036854775807 →
  v1 = v1 ∧ (∀ (i : Int) (f : Nat), 0 ≤ i → i < v1 → f < 2 → v0 i f = v0 i f) ∧ v2 = v2 ∧ True))))
def VC18 : Prop :=
  ∀ (v0 : Int → Nat → Int) (v1 : Int) (v2 : Int),
  (v1 ≤ 40) →
  (0 ≤ v1 →
  (v1 * 16) ≤ 140737488355328 ∧ ((v1 * 16) ≤ 140737488355328 →
  v1 ≤ 140737488355328 ∧ (v1 ≤ 140737488355328 →
  (v1 ≤ 9223372036854775807 →
  v1 = v1 ∧ (∀ (i : Int) (f : Nat), 0 ≤ i → i < v1 → f < 2 → v0 i f = v0 i f) ∧ v2 = v2 ∧ True))))
theorem vh18 (h : VC18) : VH18 := by
  unfold VH18
  exact h
/-! slices.Clone[[]api.Share,api.Share] -/
def sig38 : CSig := ⟨[⟨false, [.slc [.int .i64, .int .i64]]⟩], [⟨false, [.slc [.int .i64, .int .i64]]⟩]⟩
def pre38 : List AV → Prop
  | [.a v0, .i v1] => v1 ≤ 1000
  | _ => False
noncomputable def raw38 : List AV → List AV
  | [.a v0, .i v1] => [.a (v0), .i (v1)]
  | _ => []

def VH38 : Prop :=
  ∀ (v0 : Int → Nat → Int) (v1 : Int),
  (v1 ≤ 1000) →
  (0 ≤ v1 →
  (∀ (v2 : Bool),
  ((¬ (v2 = true) ∨ v1 = 0) →
  (v1 ≤ 9223372036854775807 →
  (v2 = true →
    (0 : Int) = v1 ∧ (∀ (i : Int) (f : Nat), 0 ≤ i → i < v1 → f < 2 → zA i f = v0 i f) ∧ True) ∧
  (¬ (v2 = true) →
    (v1 * 16) ≤ 140737488355328 ∧ ((v1 * 16) ≤ 140737488355328 →
    v1 ≤ 140737488355328 ∧ (v1 ≤ 140737488355328 →
    v1 = v1 ∧ (∀ (i : Int) (f : Nat), 0 ≤ i → i < v1 → f < 2 → v0 i f = v0 i f) ∧ True)))))))
def VC38 : Prop :=
  ∀ (v0 : Int → Nat → Int) (v1 : Int),
  (v1 ≤ 1000) →
  (0 ≤ v1 →
  (∀ (v2 : Bool),
  ((¬ (v2 = true) ∨ v1 = 0) →
  (v1 ≤ 9223372036854775807 →
  (v2 = true →
    (0 : Int) = v1 ∧ (∀ (i : Int) (f : Nat), 0 ≤ i → i < v1 → f < 2 → zA i f = v0 i f) ∧ True) ∧
  (¬ (v2 = true) →
    (v1 * 16) ≤ 140737488355328 ∧ ((v1 * 16) ≤ 140737488355328 →
    v1 ≤ 140737488355328 ∧ (v1 ≤ 140737488355328 →
    v1 = v1 ∧ (∀ (i : Int) (f : Nat), 0 ≤ i → i < v1 → f < 2 → v0 i f = v0 i f) ∧ True)))))))
theorem vh38 (h : VC38) : VH38 := by
  unfold VH38
  exact h
/-! airtime.New -/
def sig16 : CSig := ⟨[⟨false, [.slc [.int .i64]]⟩], [⟨true, [.slc [.int .i64, .int .i64], .int .i64]⟩, ⟨false, [.int .i64]⟩]⟩
def pre16 : List AV → Prop
  | [.a v0, .i v1] => v1 ≤ 40
  | _ => False
noncomputable def raw16 : List AV → List AV
  | [.a v0, .i v1] => [.a ((hidF nwA) v0), .i ((hidF nwN) v0 v1 v1), .i (0), .i ((hidF nwE) v0 v1)]
  | _ => []

def VH16 : Prop :=
  ∀ (v0 : Int → Nat → Int) (v1 : Int),
  (v1 ≤ 40) →
  (0 ≤ v1 →
  ∃ (I0 : (Int → Nat → Int) → (Int) → (Int) → Prop) (μ0 : (Int → Nat → Int) → (Int) → (Int) → Nat), I0 zA (0 : Int) (0 : Int) ∧ (∀ (v2 : Int → Nat → Int) (v3 : Int) (v4 : Int), I0 v2 v3 v4 →
    (0 ≤ v3 →
    (v3 ≤ 9223372036854775807 →
    (v1 ≤ 9223372036854775807 →
    (v4 < v1 →
      0 ≤ v4 ∧ (0 ≤ v4 →
      ((v3 + 1) * 16) ≤ 140737488355328 ∧ (((v3 + 1) * 16) ≤ 140737488355328 →
      (v3 + 1) ≤ 140737488355328 ∧ ((v3 + 1) ≤ 140737488355328 →
      (-9223372036854775808 ≤ (v4 + 1) ∧ (v4 + 1) ≤ 9223372036854775807) ∧ ((-9223372036854775808 ≤ (v4 + 1) ∧ (v4 + 1) ≤ 9223372036854775807) →
      I0 (appA v2 v3 (setA (setA zA 0 0 (v0 v4 0)) 0 1 0)) (v3 + 1) (v4 + 1) ∧ μ0 (appA v2 v3 (setA (setA zA 0 0 (v0 v4 0)) 0 1 0)) (v3 + 1) (v4 + 1) < μ0 v2 v3 v4))))) ∧
    (¬ (v4 < v1) →
      (True) ∧ (∀ (v5 : Int), v5 = (hidF ckA) v2 v3 (0 : Int) → 
      (¬ (v5 = 0) →
        (0 : Int) = (hidF nwN) v0 v1 v1 ∧ (∀ (i : Int) (f : Nat), 0 ≤ i → i < (hidF nwN) v0 v1 v1 → f < 2 → zA i f = (hidF nwA) v0 i f) ∧ (0 : Int) = 0 ∧ (2 : Int) = (hidF nwE) v0 v1 ∧ True) ∧
      (¬ (¬ (v5 = 0)) →
        v3 = (hidF nwN) v0 v1 v1 ∧ (∀ (i : Int) (f : Nat), 0 ≤ i → i < (hidF nwN) v0 v1 v1 → f < 2 → v2 i f = (hidF nwA) v0 i f) ∧ (0 : Int) = 0 ∧ (0 : Int) = (hidF nwE) v0 v1 ∧ True))))))))
def VC16 : Prop :=
  ∀ (v0 : Int → Nat → Int) (v1 : Int),
  (v1 ≤ 40) →
  (0 ≤ v1 →
  ∃ (I0 : (Int → Nat → Int) → (Int) → (Int) → Prop) (μ0 : (Int → Nat → Int) → (Int) → (Int) → Nat), I0 zA (0 : Int) (0 : Int) ∧ (∀ (v2 : Int → Nat → Int) (v3 : Int) (v4 : Int), I0 v2 v3 v4 →
    (0 ≤ v3 →
    (v3 ≤ 9223372036854775807 →
    (v1 ≤ 9223372036854775807 →
    (v4 < v1 →
      0 ≤ v4 ∧ (0 ≤ v4 →
      ((v3 + 1) * 16) ≤ 140737488355328 ∧ (((v3 + 1) * 16) ≤ 140737488355328 →
      (v3 + 1) ≤ 140737488355328 ∧ ((v3 + 1) ≤ 140737488355328 →
      (-9223372036854775808 ≤ (v4 + 1) ∧ (v4 + 1) ≤ 9223372036854775807) ∧ ((-9223372036854775808 ≤ (v4 + 1) ∧ (v4 + 1) ≤ 9223372036854775807) →
      I0 (appA v2 v3 (setA (setA zA 0 0 (v0 v4 0)) 0 1 0)) (v3 + 1) (v4 + 1) ∧ μ0 (appA v2 v3 (setA (setA zA 0 0 (v0 v4 0)) 0 1 0)) (v3 + 1) (v4 + 1) < μ0 v2 v3 v4))))) ∧
    (¬ (v4 < v1) →
      (True) ∧ (∀ (v5 : Int), v5 = ckA v2 v3 (0 : Int) → 
      (¬ (v5 = 0) →
        (0 : Int) = nwN v0 v1 v1 ∧ (∀ (i : Int) (f : Nat), 0 ≤ i → i < nwN v0 v1 v1 → f < 2 → zA i f = nwA v0 i f) ∧ (0 : Int) = 0 ∧ (2 : Int) = nwE v0 v1 ∧ True) ∧
      (¬ (¬ (v5 = 0)) →
        v3 = nwN v0 v1 v1 ∧ (∀ (i : Int) (f : Nat), 0 ≤ i → i < nwN v0 v1 v1 → f < 2 → v2 i f = nwA v0 i f) ∧ (0 : Int) = 0 ∧ (0 : Int) = nwE v0 v1 ∧ True))))))))
theorem vh16 (h : VC16) : VH16 := by
  unfold VH16
  rw [hidF_eq ckA, hidF_eq nwA, hidF_eq nwE, hidF_eq nwN]
  exact h
/-! hotspotref44.New -/
def sig19 : CSig := ⟨[⟨false, [.slc [.int .i64]]⟩], [⟨true, [.slc [.int .i64, .int .i64], .int .i64]⟩, ⟨false, [.int .i64]⟩]⟩
def pre19 : List AV → Prop
  | [.a v0, .i v1] => v1 ≤ 40
  | _ => False
noncomputable def raw19 : List AV → List AV
  | [.a v0, .i v1] => [.a ((hidF nwA) v0), .i ((hidF nwN) v0 v1 v1), .i (0), .i ((hidF nwE) v0 v1)]
  | _ => []

def VH19 : Prop :=
  ∀ (v0 : Int → Nat → Int) (v1 : Int),
  (v1 ≤ 40) →
  (0 ≤ v1 →
  (v1 ≤ 9223372036854775807 →
  ((v1 < 1 ∨ 32 < v1) →
    (0 : Int) = (hidF nwN) v0 v1 v1 ∧ (∀ (i : Int) (f : Nat), 0 ≤ i → i < (hidF nwN) v0 v1 v1 → f < 2 → zA i f = (hidF nwA) v0 i f) ∧ (0 : Int) = 0 ∧ (2 : Int) = (hidF nwE) v0 v1 ∧ True) ∧
  (¬ ((v1 < 1 ∨ 32 < v1)) →
    ∃ (I0 : (Int → Nat → Int) → (Int) → (Int) → Prop) (μ0 : (Int → Nat → Int) → (Int) → (Int) → Nat), I0 zA (0 : Int) (0 : Int) ∧ (∀ (v2 : Int → Nat → Int) (v3 : Int) (v4 : Int), I0 v2 v3 v4 →
      (0 ≤ v3 →
      (v3 ≤ 9223372036854775807 →
      (v4 < v1 →
        0 ≤ v4 ∧ (0 ≤ v4 →
        (((v0 v4 0) < 1 ∨ 16 < (v0 v4 0)) →
          (0 : Int) = (hidF nwN) v0 v1 v1 ∧ (∀ (i : Int) (f : Nat), 0 ≤ i → i < (hidF nwN) v0 v1 v1 → f < 2 → zA i f = (hidF nwA) v0 i f) ∧ (0 : Int) = 0 ∧ (2 : Int) = (hidF nwE) v0 v1 ∧ True) ∧
        (¬ (((v0 v4 0) < 1 ∨ 16 < (v0 v4 0))) →
          ((v3 + 1) * 16) ≤ 140737488355328 ∧ (((v3 + 1) * 16) ≤ 140737488355328 →
          (v3 + 1) ≤ 140737488355328 ∧ ((v3 + 1) ≤ 140737488355328 →
          ((v3 + 1) ≤ 9223372036854775807 →
          (-9223372036854775808 ≤ (v4 + 1) ∧ (v4 + 1) ≤ 9223372036854775807) ∧ ((-9223372036854775808 ≤ (v4 + 1) ∧ (v4 + 1) ≤ 9223372036854775807) →
          I0 (appA v2 v3 (setA (setA zA 0 0 (v0 v4 0)) 0 1 0)) (v3 + 1) (v4 + 1) ∧ μ0 (appA v2 v3 (setA (setA zA 0 0 (v0 v4 0)) 0 1 0)) (v3 + 1) (v4 + 1) < μ0 v2 v3 v4))))))) ∧
      (¬ (v4 < v1) →
        v3 = (hidF nwN) v0 v1 v1 ∧ (∀ (i : Int) (f : Nat), 0 ≤ i → i < (hidF nwN) v0 v1 v1 → f < 2 → v2 i f = (hidF nwA) v0 i f) ∧ (0 : Int) = 0 ∧ (0 : Int) = (hidF nwE) v0 v1 ∧ True)))))))
def VC19 : Prop :=
  ∀ (v0 : Int → Nat → Int) (v1 : Int),
  (v1 ≤ 40) →
  (0 ≤ v1 →
  (v1 ≤ 9223372036854775807 →
  ((v1 < 1 ∨ 32 < v1) →
    (0 : Int) = nwN v0 v1 v1 ∧ (∀ (i : Int) (f : Nat), 0 ≤ i → i < nwN v0 v1 v1 → f < 2 → zA i f = nwA v0 i f) ∧ (0 : Int) = 0 ∧ (2 : Int) = nwE v0 v1 ∧ True) ∧
  (¬ ((v1 < 1 ∨ 32 < v1)) →
    ∃ (I0 : (Int → Nat → Int) → (Int) → (Int) → Prop) (μ0 : (Int → Nat → Int) → (Int) → (Int) → Nat), I0 zA (0 : Int) (0 : Int) ∧ (∀ (v2 : Int → Nat → Int) (v3 : Int) (v4 : Int), I0 v2 v3 v4 →
      (0 ≤ v3 →
      (v3 ≤ 9223372036854775807 →
      (v4 < v1 →
        0 ≤ v4 ∧ (0 ≤ v4 →
        (((v0 v4 0) < 1 ∨ 16 < (v0 v4 0)) →
          (0 : Int) = nwN v0 v1 v1 ∧ (∀ (i : Int) (f : Nat), 0 ≤ i → i < nwN v0 v1 v1 → f < 2 → zA i f = nwA v0 i f) ∧ (0 : Int) = 0 ∧ (2 : Int) = nwE v0 v1 ∧ True) ∧
        (¬ (((v0 v4 0) < 1 ∨ 16 < (v0 v4 0))) →
          ((v3 + 1) * 16) ≤ 140737488355328 ∧ (((v3 + 1) * 16) ≤ 140737488355328 →
          (v3 + 1) ≤ 140737488355328 ∧ ((v3 + 1) ≤ 140737488355328 →
          ((v3 + 1) ≤ 9223372036854775807 →
          (-9223372036854775808 ≤ (v4 + 1) ∧ (v4 + 1) ≤ 9223372036854775807) ∧ ((-9223372036854775808 ≤ (v4 + 1) ∧ (v4 + 1) ≤ 9223372036854775807) →
          I0 (appA v2 v3 (setA (setA zA 0 0 (v0 v4 0)) 0 1 0)) (v3 + 1) (v4 + 1) ∧ μ0 (appA v2 v3 (setA (setA zA 0 0 (v0 v4 0)) 0 1 0)) (v3 + 1) (v4 + 1) < μ0 v2 v3 v4))))))) ∧
      (¬ (v4 < v1) →
        v3 = nwN v0 v1 v1 ∧ (∀ (i : Int) (f : Nat), 0 ≤ i → i < nwN v0 v1 v1 → f < 2 → v2 i f = nwA v0 i f) ∧ (0 : Int) = 0 ∧ (0 : Int) = nwE v0 v1 ∧ True)))))))
theorem vh19 (h : VC19) : VH19 := by
  unfold VH19
  rw [hidF_eq nwA, hidF_eq nwE, hidF_eq nwN]
  exact h
/-! airtime.Charge -/
def sig22 : CSig := ⟨[⟨true, [.slc [.int .i64, .int .i64], .int .i64]⟩, ⟨false, [.int .i64]⟩, ⟨false, [.int .i64]⟩], [⟨true, [.slc [.int .i64, .int .i64], .int .i64]⟩, ⟨false, [.int .i64]⟩]⟩
def pre22 : List AV → Prop
  | [.a v0, .i v1, .i v2, .i v3, .i v4] => True
  | _ => False
noncomputable def raw22 : List AV → List AV
  | [.a v0, .i v1, .i v2, .i v3, .i v4] => [.a ((hidF chA) v0 v3 v4), .i ((hidF chN) v0 v1 v2 v3 v4 v1), .i ((hidF chN) v0 v1 v2 v3 v4 v2), .i ((hidF chE) v0 v1 v2 v3 v4)]
  | _ => []

def VH22 : Prop :=
  ∀ (v0 : Int → Nat → Int) (v1 : Int) (v2 : Int) (v3 : Int) (v4 : Int),
  (True) →
  (0 ≤ v1 →
  (True) ∧ (∀ (v5 : Int), v5 = (hidF ckA) v0 v1 v2 → 
  (v1 ≤ 9223372036854775807 →
  (¬ (v5 = 0) →
    (0 : Int) = (hidF chN) v0 v1 v2 v3 v4 v1 ∧ (∀ (i : Int) (f : Nat), 0 ≤ i → i < (hidF chN) v0 v1 v2 v3 v4 v1 → f < 2 → zA i f = (hidF chA) v0 v3 v4 i f) ∧ (0 : Int) = (hidF chN) v0 v1 v2 v3 v4 v2 ∧ v5 = (hidF chE) v0 v1 v2 v3 v4 ∧ True) ∧
  (¬ (¬ (v5 = 0)) →
    ((((v3 < 0 ∨ v1 ≤ v3) ∨ v4 < 1) ∨ 32767 < v4) →
      (0 : Int) = (hidF chN) v0 v1 v2 v3 v4 v1 ∧ (∀ (i : Int) (f : Nat), 0 ≤ i → i < (hidF chN) v0 v1 v2 v3 v4 v1 → f < 2 → zA i f = (hidF chA) v0 v3 v4 i f) ∧ (0 : Int) = (hidF chN) v0 v1 v2 v3 v4 v2 ∧ (2 : Int) = (hidF chE) v0 v1 v2 v3 v4 ∧ True) ∧
    (¬ ((((v3 < 0 ∨ v1 ≤ v3) ∨ v4 < 1) ∨ 32767 < v4)) →
      0 ≤ v3 ∧ (0 ≤ v3 →
      v3 < v1 ∧ (v3 < v1 →
      ((v0 v3 1) ≤ 0 →
        (0 : Int) = (hidF chN) v0 v1 v2 v3 v4 v1 ∧ (∀ (i : Int) (f : Nat), 0 ≤ i → i < (hidF chN) v0 v1 v2 v3 v4 v1 → f < 2 → zA i f = (hidF chA) v0 v3 v4 i f) ∧ (0 : Int) = (hidF chN) v0 v1 v2 v3 v4 v2 ∧ (20 : Int) = (hidF chE) v0 v1 v2 v3 v4 ∧ True) ∧
      (¬ ((v0 v3 1) ≤ 0) →
        (v1 ≤ 1000) ∧ (∀ (v6 : Int → Nat → Int) (v7 : Int), v6 = v0 → v7 = v1 → 
        (0 ≤ v7 →
        (v7 ≤ 9223372036854775807 →
        v3 < v7 ∧ (v3 < v7 →
        (-9223372036854775808 ≤ ((v6 v3 1) - v4) ∧ ((v6 v3 1) - v4) ≤ 9223372036854775807) ∧ ((-9223372036854775808 ≤ ((v6 v3 1) - v4) ∧ ((v6 v3 1) - v4) ≤ 9223372036854775807) →
        v7 = (hidF chN) v0 v1 v2 v3 v4 v1 ∧ (∀ (i : Int) (f : Nat), 0 ≤ i → i < (hidF chN) v0 v1 v2 v3 v4 v1 → f < 2 → (setA v6 v3 1 ((v6 v3 1) - v4)) i f = (hidF chA) v0 v3 v4 i f) ∧ v2 = (hidF chN) v0 v1 v2 v3 v4 v2 ∧ (0 : Int) = (hidF chE) v0 v1 v2 v3 v4 ∧ True)))))))))))))
def VC22 : Prop :=
  ∀ (v0 : Int → Nat → Int) (v1 : Int) (v2 : Int) (v3 : Int) (v4 : Int),
  (True) →
  (0 ≤ v1 →
  (True) ∧ (∀ (v5 : Int), v5 = ckA v0 v1 v2 → 
  (v1 ≤ 9223372036854775807 →
  (¬ (v5 = 0) →
    (0 : Int) = chN v0 v1 v2 v3 v4 v1 ∧ (∀ (i : Int) (f : Nat), 0 ≤ i → i < chN v0 v1 v2 v3 v4 v1 → f < 2 → zA i f = chA v0 v3 v4 i f) ∧ (0 : Int) = chN v0 v1 v2 v3 v4 v2 ∧ v5 = chE v0 v1 v2 v3 v4 ∧ True) ∧
  (¬ (¬ (v5 = 0)) →
    ((((v3 < 0 ∨ v1 ≤ v3) ∨ v4 < 1) ∨ 32767 < v4) →
      (0 : Int) = chN v0 v1 v2 v3 v4 v1 ∧ (∀ (i : Int) (f : Nat), 0 ≤ i → i < chN v0 v1 v2 v3 v4 v1 → f < 2 → zA i f = chA v0 v3 v4 i f) ∧ (0 : Int) = chN v0 v1 v2 v3 v4 v2 ∧ (2 : Int) = chE v0 v1 v2 v3 v4 ∧ True) ∧
    (¬ ((((v3 < 0 ∨ v1 ≤ v3) ∨ v4 < 1) ∨ 32767 < v4)) →
      0 ≤ v3 ∧ (0 ≤ v3 →
      v3 < v1 ∧ (v3 < v1 →
      ((v0 v3 1) ≤ 0 →
        (0 : Int) = chN v0 v1 v2 v3 v4 v1 ∧ (∀ (i : Int) (f : Nat), 0 ≤ i → i < chN v0 v1 v2 v3 v4 v1 → f < 2 → zA i f = chA v0 v3 v4 i f) ∧ (0 : Int) = chN v0 v1 v2 v3 v4 v2 ∧ (20 : Int) = chE v0 v1 v2 v3 v4 ∧ True) ∧
      (¬ ((v0 v3 1) ≤ 0) →
        (v1 ≤ 1000) ∧ (∀ (v6 : Int → Nat → Int) (v7 : Int), v6 = v0 → v7 = v1 → 
        (0 ≤ v7 →
        (v7 ≤ 9223372036854775807 →
        v3 < v7 ∧ (v3 < v7 →
        (-9223372036854775808 ≤ ((v6 v3 1) - v4) ∧ ((v6 v3 1) - v4) ≤ 9223372036854775807) ∧ ((-9223372036854775808 ≤ ((v6 v3 1) - v4) ∧ ((v6 v3 1) - v4) ≤ 9223372036854775807) →
        v7 = chN v0 v1 v2 v3 v4 v1 ∧ (∀ (i : Int) (f : Nat), 0 ≤ i → i < chN v0 v1 v2 v3 v4 v1 → f < 2 → (setA v6 v3 1 ((v6 v3 1) - v4)) i f = chA v0 v3 v4 i f) ∧ v2 = chN v0 v1 v2 v3 v4 v2 ∧ (0 : Int) = chE v0 v1 v2 v3 v4 ∧ True)))))))))))))
theorem vh22 (h : VC22) : VH22 := by
  unfold VH22
  rw [hidF_eq chA, hidF_eq chE, hidF_eq chN, hidF_eq ckA]
  exact h
/-! hotspotref44.Charge -/
def sig23 : CSig := ⟨[⟨true, [.slc [.int .i64, .int .i64], .int .i64]⟩, ⟨false, [.int .i64]⟩, ⟨false, [.int .i64]⟩], [⟨true, [.slc [.int .i64, .int .i64], .int .i64]⟩, ⟨false, [.int .i64]⟩]⟩
def pre23 : List AV → Prop
  | [.a v0, .i v1, .i v2, .i v3, .i v4] => True
  | _ => False
noncomputable def raw23 : List AV → List AV
  | [.a v0, .i v1, .i v2, .i v3, .i v4] => [.a ((hidF chA) v0 v3 v4), .i ((hidF chN) v0 v1 v2 v3 v4 v1), .i ((hidF chN) v0 v1 v2 v3 v4 v2), .i ((hidF chE) v0 v1 v2 v3 v4)]
  | _ => []

def VH23 : Prop :=
  ∀ (v0 : Int → Nat → Int) (v1 : Int) (v2 : Int) (v3 : Int) (v4 : Int),
  (True) →
  (0 ≤ v1 →
  (True) ∧ (∀ (v5 : Int), v5 = (hidF ckA) v0 v1 v2 → 
  (v1 ≤ 9223372036854775807 →
  (¬ (v5 = 0) →
    (0 : Int) = (hidF chN) v0 v1 v2 v3 v4 v1 ∧ (∀ (i : Int) (f : Nat), 0 ≤ i → i < (hidF chN) v0 v1 v2 v3 v4 v1 → f < 2 → zA i f = (hidF chA) v0 v3 v4 i f) ∧ (0 : Int) = (hidF chN) v0 v1 v2 v3 v4 v2 ∧ (8 : Int) = (hidF chE) v0 v1 v2 v3 v4 ∧ True) ∧
  (¬ (¬ (v5 = 0)) →
    ((((v3 < 0 ∨ v1 ≤ v3) ∨ v4 < 1) ∨ 32767 < v4) →
      (0 : Int) = (hidF chN) v0 v1 v2 v3 v4 v1 ∧ (∀ (i : Int) (f : Nat), 0 ≤ i → i < (hidF chN) v0 v1 v2 v3 v4 v1 → f < 2 → zA i f = (hidF chA) v0 v3 v4 i f) ∧ (0 : Int) = (hidF chN) v0 v1 v2 v3 v4 v2 ∧ (2 : Int) = (hidF chE) v0 v1 v2 v3 v4 ∧ True) ∧
    (¬ ((((v3 < 0 ∨ v1 ≤ v3) ∨ v4 < 1) ∨ 32767 < v4)) →
      0 ≤ v3 ∧ (0 ≤ v3 →
      v3 < v1 ∧ (v3 < v1 →
      ((v0 v3 1) ≤ 0 →
        (0 : Int) = (hidF chN) v0 v1 v2 v3 v4 v1 ∧ (∀ (i : Int) (f : Nat), 0 ≤ i → i < (hidF chN) v0 v1 v2 v3 v4 v1 → f < 2 → zA i f = (hidF chA) v0 v3 v4 i f) ∧ (0 : Int) = (hidF chN) v0 v1 v2 v3 v4 v2 ∧ (20 : Int) = (hidF chE) v0 v1 v2 v3 v4 ∧ True) ∧
      (¬ ((v0 v3 1) ≤ 0) →
        (v1 ≤ 40) ∧ (∀ (v6 : Int → Nat → Int) (v7 : Int) (v8 : Int), v6 = v0 → v7 = v1 → v8 = v2 → 
        (0 ≤ v7 →
        v3 < v7 ∧ (v3 < v7 →
        (-9223372036854775808 ≤ ((v6 v3 1) - v4) ∧ ((v6 v3 1) - v4) ≤ 9223372036854775807) ∧ ((-9223372036854775808 ≤ ((v6 v3 1) - v4) ∧ ((v6 v3 1) - v4) ≤ 9223372036854775807) →
        (v7 ≤ 9223372036854775807 →
        v7 = (hidF chN) v0 v1 v2 v3 v4 v1 ∧ (∀ (i : Int) (f : Nat), 0 ≤ i → i < (hidF chN) v0 v1 v2 v3 v4 v1 → f < 2 → (setA v6 v3 1 ((v6 v3 1) - v4)) i f = (hidF chA) v0 v3 v4 i f) ∧ v8 = (hidF chN) v0 v1 v2 v3 v4 v2 ∧ (0 : Int) = (hidF chE) v0 v1 v2 v3 v4 ∧ True)))))))))))))
def VC23 : Prop :=
  ∀ (v0 : Int → Nat → Int) (v1 : Int) (v2 : Int) (v3 : Int) (v4 : Int),
  (True) →
  (0 ≤ v1 →
  (True) ∧ (∀ (v5 : Int), v5 = ckA v0 v1 v2 → 
  (v1 ≤ 9223372036854775807 →
  (¬ (v5 = 0) →
    (0 : Int) = chN v0 v1 v2 v3 v4 v1 ∧ (∀ (i : Int) (f : Nat), 0 ≤ i → i < chN v0 v1 v2 v3 v4 v1 → f < 2 → zA i f = chA v0 v3 v4 i f) ∧ (0 : Int) = chN v0 v1 v2 v3 v4 v2 ∧ (8 : Int) = chE v0 v1 v2 v3 v4 ∧ True) ∧
  (¬ (¬ (v5 = 0)) →
    ((((v3 < 0 ∨ v1 ≤ v3) ∨ v4 < 1) ∨ 32767 < v4) →
      (0 : Int) = chN v0 v1 v2 v3 v4 v1 ∧ (∀ (i : Int) (f : Nat), 0 ≤ i → i < chN v0 v1 v2 v3 v4 v1 → f < 2 → zA i f = chA v0 v3 v4 i f) ∧ (0 : Int) = chN v0 v1 v2 v3 v4 v2 ∧ (2 : Int) = chE v0 v1 v2 v3 v4 ∧ True) ∧
    (¬ ((((v3 < 0 ∨ v1 ≤ v3) ∨ v4 < 1) ∨ 32767 < v4)) →
      0 ≤ v3 ∧ (0 ≤ v3 →
      v3 < v1 ∧ (v3 < v1 →
      ((v0 v3 1) ≤ 0 →
        (0 : Int) = chN v0 v1 v2 v3 v4 v1 ∧ (∀ (i : Int) (f : Nat), 0 ≤ i → i < chN v0 v1 v2 v3 v4 v1 → f < 2 → zA i f = chA v0 v3 v4 i f) ∧ (0 : Int) = chN v0 v1 v2 v3 v4 v2 ∧ (20 : Int) = chE v0 v1 v2 v3 v4 ∧ True) ∧
      (¬ ((v0 v3 1) ≤ 0) →
        (v1 ≤ 40) ∧ (∀ (v6 : Int → Nat → Int) (v7 : Int) (v8 : Int), v6 = v0 → v7 = v1 → v8 = v2 → 
        (0 ≤ v7 →
        v3 < v7 ∧ (v3 < v7 →
        (-9223372036854775808 ≤ ((v6 v3 1) - v4) ∧ ((v6 v3 1) - v4) ≤ 9223372036854775807) ∧ ((-9223372036854775808 ≤ ((v6 v3 1) - v4) ∧ ((v6 v3 1) - v4) ≤ 9223372036854775807) →
        (v7 ≤ 9223372036854775807 →
        v7 = chN v0 v1 v2 v3 v4 v1 ∧ (∀ (i : Int) (f : Nat), 0 ≤ i → i < chN v0 v1 v2 v3 v4 v1 → f < 2 → (setA v6 v3 1 ((v6 v3 1) - v4)) i f = chA v0 v3 v4 i f) ∧ v8 = chN v0 v1 v2 v3 v4 v2 ∧ (0 : Int) = chE v0 v1 v2 v3 v4 ∧ True)))))))))))))
theorem vh23 (h : VC23) : VH23 := by
  unfold VH23
  rw [hidF_eq chA, hidF_eq chE, hidF_eq chN, hidF_eq ckA]
  exact h
/-! hotspotref44.Step -/
def sig32 : CSig := ⟨[⟨true, [.slc [.int .i64, .int .i64], .int .i64]⟩, ⟨false, [.bool]⟩], [⟨true, [.slc [.int .i64, .int .i64], .int .i64]⟩, ⟨false, [.bool]⟩]⟩
def pre32 : List AV → Prop
  | [.a v0, .i v1, .i v2, .b v3] => v1 ≤ 40 ∧ 0 ≤ v2 ∧ v2 < v1 ∧ okS v0 v1
  | _ => False
noncomputable def raw32 : List AV → List AV
  | [.a v0, .i v1, .i v2, .b v3] => [.a ((hidF stA) v3 v0 v2), .i (v1), .i ((hidF stT) v3 v0 v1 v2), .b ((hidF cho) v3 v0 v2)]
  | _ => []

def VH32 : Prop :=
  ∀ (v0 : Int → Nat → Int) (v1 : Int) (v2 : Int) (v3 : Bool),
  (v1 ≤ 40 ∧ 0 ≤ v2 ∧ v2 < v1 ∧ okS v0 v1) →
  (0 ≤ v1 →
  (v1 ≤ 40) ∧ (∀ (v4 : Int → Nat → Int) (v5 : Int) (v6 : Int), v4 = v0 → v5 = v1 → v6 = v2 → 
  (v1 ≤ 9223372036854775807 →
  (0 ≤ v5 →
  (¬ (v3 = true) ∨ 0 ≤ v2) ∧ ((¬ (v3 = true) ∨ 0 ≤ v2) →
  (¬ (v3 = true) ∨ v2 < v5) ∧ ((¬ (v3 = true) ∨ v2 < v5) →
  (¬ (v3 = true) ∨ 0 ≤ v2) ∧ ((¬ (v3 = true) ∨ 0 ≤ v2) →
  (¬ (v3 = true) ∨ v2 < v5) ∧ ((¬ (v3 = true) ∨ v2 < v5) →
  (v5 ≤ 9223372036854775807 →
  ((v3 = true ∧ 0 < (v4 v2 1)) →
    v5 = v1 ∧ (∀ (i : Int) (f : Nat), 0 ≤ i → i < v1 → f < 2 → v4 i f = (hidF stA) v3 v0 v2 i f) ∧ v6 = (hidF stT) v3 v0 v1 v2 ∧ (True ↔ (hidF cho) v3 v0 v2 = true) ∧ True) ∧
  (¬ ((v3 = true ∧ 0 < (v4 v2 1))) →
    (v3 = true →
      0 ≤ v2 ∧ (0 ≤ v2 →
      v2 < v5 ∧ (v2 < v5 →
      (-9223372036854775808 ≤ (1000 * (v4 v2 0)) ∧ (1000 * (v4 v2 0)) ≤ 9223372036854775807) ∧ ((-9223372036854775808 ≤ (1000 * (v4 v2 0)) ∧ (1000 * (v4 v2 0)) ≤ 9223372036854775807) →
      (-9223372036854775808 ≤ ((v4 v2 1) + (1000 * (v4 v2 0))) ∧ ((v4 v2 1) + (1000 * (v4 v2 0))) ≤ 9223372036854775807) ∧ ((-9223372036854775808 ≤ ((v4 v2 1) + (1000 * (v4 v2 0))) ∧ ((v4 v2 1) + (1000 * (v4 v2 0))) ≤ 9223372036854775807) →
      (-9223372036854775808 ≤ (v2 + 1) ∧ (v2 + 1) ≤ 9223372036854775807) ∧ ((-9223372036854775808 ≤ (v2 + 1) ∧ (v2 + 1) ≤ 9223372036854775807) →
      ((v2 + 1) = v5 →
        v5 = v1 ∧ (∀ (i : Int) (f : Nat), 0 ≤ i → i < v1 → f < 2 → (setA v4 v2 1 ((v4 v2 1) + (1000 * (v4 v2 0)))) i f = (hidF stA) v3 v0 v2 i f) ∧ (0 : Int) = (hidF stT) v3 v0 v1 v2 ∧ (False ↔ (hidF cho) v3 v0 v2 = true) ∧ True) ∧
      (¬ ((v2 + 1) = v5) →
        v5 = v1 ∧ (∀ (i : Int) (f : Nat), 0 ≤ i → i < v1 → f < 2 → (setA v4 v2 1 ((v4 v2 1) + (1000 * (v4 v2 0)))) i f = (hidF stA) v3 v0 v2 i f) ∧ (v2 + 1) = (hidF stT) v3 v0 v1 v2 ∧ (False ↔ (hidF cho) v3 v0 v2 = true) ∧ True))))))) ∧
    (¬ (v3 = true) →
      0 ≤ v2 ∧ (0 ≤ v2 →
      v2 < v5 ∧ (v2 < v5 →
      (0 < (v4 v2 1) →
        (-9223372036854775808 ≤ (v2 + 1) ∧ (v2 + 1) ≤ 9223372036854775807) ∧ ((-9223372036854775808 ≤ (v2 + 1) ∧ (v2 + 1) ≤ 9223372036854775807) →
        ((v2 + 1) = v5 →
          v5 = v1 ∧ (∀ (i : Int) (f : Nat), 0 ≤ i → i < v1 → f < 2 → (setA v4 v2 1 0) i f = (hidF stA) v3 v0 v2 i f) ∧ (0 : Int) = (hidF stT) v3 v0 v1 v2 ∧ (False ↔ (hidF cho) v3 v0 v2 = true) ∧ True) ∧
        (¬ ((v2 + 1) = v5) →
          v5 = v1 ∧ (∀ (i : Int) (f : Nat), 0 ≤ i → i < v1 → f < 2 → (setA v4 v2 1 0) i f = (hidF stA) v3 v0 v2 i f) ∧ (v2 + 1) = (hidF stT) v3 v0 v1 v2 ∧ (False ↔ (hidF cho) v3 v0 v2 = true) ∧ True))) ∧
      (¬ (0 < (v4 v2 1)) →
        (-9223372036854775808 ≤ (v2 + 1) ∧ (v2 + 1) ≤ 9223372036854775807) ∧ ((-9223372036854775808 ≤ (v2 + 1) ∧ (v2 + 1) ≤ 9223372036854775807) →
        ((v2 + 1) = v5 →
          v5 = v1 ∧ (∀ (i : Int) (f : Nat), 0 ≤ i → i < v1 → f < 2 → v4 i f = (hidF stA) v3 v0 v2 i f) ∧ (0 : Int) = (hidF stT) v3 v0 v1 v2 ∧ (False ↔ (hidF cho) v3 v0 v2 = true) ∧ True) ∧
        (¬ ((v2 + 1) = v5) →
          v5 = v1 ∧ (∀ (i : Int) (f : Nat), 0 ≤ i → i < v1 → f < 2 → v4 i f = (hidF stA) v3 v0 v2 i f) ∧ (v2 + 1) = (hidF stT) v3 v0 v1 v2 ∧ (False ↔ (hidF cho) v3 v0 v2 = true) ∧ True))))))))))))))))
def VC32 : Prop :=
  ∀ (v0 : Int → Nat → Int) (v1 : Int) (v2 : Int) (v3 : Bool),
  (v1 ≤ 40 ∧ 0 ≤ v2 ∧ v2 < v1 ∧ okS v0 v1) →
  (0 ≤ v1 →
  (v1 ≤ 40) ∧ (∀ (v4 : Int → Nat → Int) (v5 : Int) (v6 : Int), v4 = v0 → v5 = v1 → v6 = v2 → 
  (v1 ≤ 9223372036854775807 →
  (0 ≤ v5 →
  (¬ (v3 = true) ∨ 0 ≤ v2) ∧ ((¬ (v3 = true) ∨ 0 ≤ v2) →
  (¬ (v3 = true) ∨ v2 < v5) ∧ ((¬ (v3 = true) ∨ v2 < v5) →
  (¬ (v3 = true) ∨ 0 ≤ v2) ∧ ((¬ (v3 = true) ∨ 0 ≤ v2) →
  (¬ (v3 = true) ∨ v2 < v5) ∧ ((¬ (v3 = true) ∨ v2 < v5) →
  (v5 ≤ 9223372036854775807 →
  ((v3 = true ∧ 0 < (v4 v2 1)) →
    v5 = v1 ∧ (∀ (i : Int) (f : Nat), 0 ≤ i → i < v1 → f < 2 → v4 i f = stA v3 v0 v2 i f) ∧ v6 = stT v3 v0 v1 v2 ∧ (True ↔ cho v3 v0 v2 = true) ∧ True) ∧
  (¬ ((v3 = true ∧ 0 < (v4 v2 1))) →
    (v3 = true →
      0 ≤ v2 ∧ (0 ≤ v2 →
      v2 < v5 ∧ (v2 < v5 →
      (-9223372036854775808 ≤ (1000 * (v4 v2 0)) ∧ (1000 * (v4 v2 0)) ≤ 9223372036854775807) ∧ ((-9223372036854775808 ≤ (1000 * (v4 v2 0)) ∧ (1000 * (v4 v2 0)) ≤ 9223372036854775807) →
      (-9223372036854775808 ≤ ((v4 v2 1) + (1000 * (v4 v2 0))) ∧ ((v4 v2 1) + (1000 * (v4 v2 0))) ≤ 9223372036854775807) ∧ ((-9223372036854775808 ≤ ((v4 v2 1) + (1000 * (v4 v2 0))) ∧ ((v4 v2 1) + (1000 * (v4 v2 0))) ≤ 9223372036854775807) →
      (-9223372036854775808 ≤ (v2 + 1) ∧ (v2 + 1) ≤ 9223372036854775807) ∧ ((-9223372036854775808 ≤ (v2 + 1) ∧ (v2 + 1) ≤ 9223372036854775807) →
      ((v2 + 1) = v5 →
        v5 = v1 ∧ (∀ (i : Int) (f : Nat), 0 ≤ i → i < v1 → f < 2 → (setA v4 v2 1 ((v4 v2 1) + (1000 * (v4 v2 0)))) i f = stA v3 v0 v2 i f) ∧ (0 : Int) = stT v3 v0 v1 v2 ∧ (False ↔ cho v3 v0 v2 = true) ∧ True) ∧
      (¬ ((v2 + 1) = v5) →
        v5 = v1 ∧ (∀ (i : Int) (f : Nat), 0 ≤ i → i < v1 → f < 2 → (setA v4 v2 1 ((v4 v2 1) + (1000 * (v4 v2 0)))) i f = stA v3 v0 v2 i f) ∧ (v2 + 1) = stT v3 v0 v1 v2 ∧ (False ↔ cho v3 v0 v2 = true) ∧ True))))))) ∧
    (¬ (v3 = true) →
      0 ≤ v2 ∧ (0 ≤ v2 →
      v2 < v5 ∧ (v2 < v5 →
      (0 < (v4 v2 1) →
        (-9223372036854775808 ≤ (v2 + 1) ∧ (v2 + 1) ≤ 9223372036854775807) ∧ ((-9223372036854775808 ≤ (v2 + 1) ∧ (v2 + 1) ≤ 9223372036854775807) →
        ((v2 + 1) = v5 →
          v5 = v1 ∧ (∀ (i : Int) (f : Nat), 0 ≤ i → i < v1 → f < 2 → (setA v4 v2 1 0) i f = stA v3 v0 v2 i f) ∧ (0 : Int) = stT v3 v0 v1 v2 ∧ (False ↔ cho v3 v0 v2 = true) ∧ True) ∧
        (¬ ((v2 + 1) = v5) →
          v5 = v1 ∧ (∀ (i : Int) (f : Nat), 0 ≤ i → i < v1 → f < 2 → (setA v4 v2 1 0) i f = stA v3 v0 v2 i f) ∧ (v2 + 1) = stT v3 v0 v1 v2 ∧ (False ↔ cho v3 v0 v2 = true) ∧ True))) ∧
      (¬ (0 < (v4 v2 1)) →
        (-9223372036854775808 ≤ (v2 + 1) ∧ (v2 + 1) ≤ 9223372036854775807) ∧ ((-9223372036854775808 ≤ (v2 + 1) ∧ (v2 + 1) ≤ 9223372036854775807) →
        ((v2 + 1) = v5 →
          v5 = v1 ∧ (∀ (i : Int) (f : Nat), 0 ≤ i → i < v1 → f < 2 → v4 i f = stA v3 v0 v2 i f) ∧ (0 : Int) = stT v3 v0 v1 v2 ∧ (False ↔ cho v3 v0 v2 = true) ∧ True) ∧
        (¬ ((v2 + 1) = v5) →
          v5 = v1 ∧ (∀ (i : Int) (f : Nat), 0 ≤ i → i < v1 → f < 2 → v4 i f = stA v3 v0 v2 i f) ∧ (v2 + 1) = stT v3 v0 v1 v2 ∧ (False ↔ cho v3 v0 v2 = true) ∧ True))))))))))))))))
theorem vh32 (h : VC32) : VH32 := by
  unfold VH32
  rw [hidF_eq cho, hidF_eq stA, hidF_eq stT]
  exact h
end Go.Proofs.Ytccmgepknjkakaa
