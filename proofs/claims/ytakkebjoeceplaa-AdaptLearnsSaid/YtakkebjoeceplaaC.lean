/- What the functions do, and what is left to show of each. -/
import Derived.Test.YtakkebjoeceplaaW
import Derived.Test.YtakkebjoeceplaaE
set_option linter.unusedVariables false
namespace Go.Proofs.Ytakkebjoeceplaa
open Go Go.RowKit Go.Proofs.Ytakkebjoeceplaa.Vc
/-! adapt.in -/
def sig27 : CSig := ⟨[⟨false, [.int .i64]⟩, ⟨false, [.int .i64]⟩, ⟨false, [.int .i64]⟩], [⟨false, [.bool]⟩]⟩
def pre27 : List AV → Prop
  | [.i v0, .i v1, .i v2] => True
  | _ => False
noncomputable def raw27 : List AV → List AV
  | [.i v0, .i v1, .i v2] => [.b (decide (v1 ≤ v0 ∧ v0 ≤ v2))]
  | _ => []

def VC27 : Prop :=
  ∀ (v0 : Int) (v1 : Int) (v2 : Int),
  (True) →
  ((v1 ≤ v0 ∧ v0 ≤ v2) ↔ decide (v1 ≤ v0 ∧ v0 ≤ v2) = true) ∧ True
/-! hotspotref42.In -/
def sig29 : CSig := ⟨[⟨false, [.int .i64]⟩, ⟨false, [.int .i64]⟩, ⟨false, [.int .i64]⟩], [⟨false, [.bool]⟩]⟩
def pre29 : List AV → Prop
  | [.i v0, .i v1, .i v2] => True
  | _ => False
noncomputable def raw29 : List AV → List AV
  | [.i v0, .i v1, .i v2] => [.b (decide (v1 ≤ v0 ∧ v0 ≤ v2))]
  | _ => []

def VC29 : Prop :=
  ∀ (v0 : Int) (v1 : Int) (v2 : Int),
  (True) →
  ((v1 ≤ v0 ∧ v0 ≤ v2) ↔ decide (v1 ≤ v0 ∧ v0 ≤ v2) = true) ∧ True
/-! adapt.valid -/
def sig39 : CSig := ⟨[⟨true, [.int .i64, .int .i64, .int .i64, .int .i64, .bool]⟩], [⟨false, [.bool]⟩]⟩
def pre39 : List AV → Prop
  | [.i v0, .i v1, .i v2, .i v3, .b v4] => True
  | _ => False
noncomputable def raw39 : List AV → List AV
  | [.i v0, .i v1, .i v2, .i v3, .b v4] => [.b (okZ v0 v1 v2 v3 v4)]
  | _ => []

def VC39 : Prop :=
  ∀ (v0 : Int) (v1 : Int) (v2 : Int) (v3 : Int) (v4 : Bool),
  (True) →
  (True) ∧ (∀ (v5 : Bool), v5 = decide ((1 : Int) ≤ v0 ∧ v0 ≤ (32767 : Int)) → 
  ((v5 = true → True)) ∧ (∀ (v6 : Bool), v6 = decide ((0 : Int) ≤ v1 ∧ v1 ≤ (10000 : Int)) → 
  (((v5 = true ∧ v6 = true) → True)) ∧ (∀ (v7 : Bool), v7 = decide ((0 : Int) ≤ v2 ∧ v2 ≤ v1) → 
  ((((v5 = true ∧ v6 = true) ∧ v7 = true) → True)) ∧ (∀ (v8 : Bool), v8 = decide ((0 : Int) ≤ v3 ∧ v3 ≤ (1000 : Int)) → 
  (((((v5 = true ∧ v6 = true) ∧ v7 = true) ∧ v8 = true) ∧ (v4 = true ∨ v3 = 0)) ↔ okZ v0 v1 v2 v3 v4 = true) ∧ True))))
/-! adapt.Check -/
def sig24 : CSig := ⟨[⟨true, [.slc [.int .i64, .int .i64, .int .i64, .int .i64, .bool], .int .i64]⟩], [⟨false, [.int .i64]⟩]⟩
def pre24 : List AV → Prop
  | [.a v0, .i v1, .i v2] => True
  | _ => False
noncomputable def raw24 : List AV → List AV
  | [.a v0, .i v1, .i v2] => [.i (ckA v0 v1 v2)]
  | _ => []

def VC24 : Prop :=
  ∀ (v0 : Int → Nat → Int) (v1 : Int) (v2 : Int),
  (True) →
  (0 ≤ v1 →
  (True) ∧ (∀ (v3 : Bool), v3 = decide ((1 : Int) ≤ v1 ∧ v1 ≤ (16 : Int)) → 
  (v1 ≤ 9223372036854775807 →
  ((v3 = true → True)) ∧ (∀ (v4 : Bool), v4 = decide ((0 : Int) ≤ v2 ∧ v2 ≤ (1099511627776 : Int)) → 
  ((¬ (v3 = true) ∨ ¬ (v4 = true)) →
    (8 : Int) = ckA v0 v1 v2 ∧ True) ∧
  (¬ ((¬ (v3 = true) ∨ ¬ (v4 = true))) →
    ∃ (I0 : (Int) → Prop) (μ0 : (Int) → Nat), I0 (0 : Int) ∧ (∀ (v5 : Int), I0 v5 →
      (v5 < v1 →
        0 ≤ v5 ∧ (0 ≤ v5 →
        (True) ∧ (∀ (v6 : Bool), v6 = okZ (v0 v5 0) (v0 v5 1) (v0 v5 2) (v0 v5 3) (!(decide ((v0 v5 4) = 0))) → 
        (¬ (v6 = true) →
          (8 : Int) = ckA v0 v1 v2 ∧ True) ∧
        (¬ (¬ (v6 = true)) →
          (-9223372036854775808 ≤ (v5 + 1) ∧ (v5 + 1) ≤ 9223372036854775807) ∧ ((-9223372036854775808 ≤ (v5 + 1) ∧ (v5 + 1) ≤ 9223372036854775807) →
          I0 (v5 + 1) ∧ μ0 (v5 + 1) < μ0 v5))))) ∧
      (¬ (v5 < v1) →
        (0 : Int) = ckA v0 v1 v2 ∧ True)))))))
/-! hotspotref42.Check -/
def sig25 : CSig := ⟨[⟨true, [.slc [.int .i64, .int .i64, .int .i64, .int .i64, .bool], .int .i64]⟩], [⟨false, [.int .i64]⟩]⟩
def pre25 : List AV → Prop
  | [.a v0, .i v1, .i v2] => True
  | _ => False
noncomputable def raw25 : List AV → List AV
  | [.a v0, .i v1, .i v2] => [.i (ckA v0 v1 v2)]
  | _ => []

def VC25 : Prop :=
  ∀ (v0 : Int → Nat → Int) (v1 : Int) (v2 : Int),
  (True) →
  (0 ≤ v1 →
  ((¬ ((v1 < 1 ∨ 16 < v1)) → True)) ∧ (∀ (v3 : Bool), v3 = decide ((0 : Int) ≤ v2 ∧ v2 ≤ (1099511627776 : Int)) → 
  (v1 ≤ 9223372036854775807 →
  (((v1 < 1 ∨ 16 < v1) ∨ ¬ (v3 = true)) →
    (8 : Int) = ckA v0 v1 v2 ∧ True) ∧
  (¬ (((v1 < 1 ∨ 16 < v1) ∨ ¬ (v3 = true))) →
    ∃ (I0 : (Int) → Prop) (μ0 : (Int) → Nat), I0 (0 : Int) ∧ (∀ (v4 : Int), I0 v4 →
      (v4 < v1 →
        0 ≤ v4 ∧ (0 ≤ v4 →
        (True) ∧ (∀ (v5 : Bool), v5 = decide ((1 : Int) ≤ (v0 v4 0) ∧ (v0 v4 0) ≤ (32767 : Int)) → 
        ((v5 = true → True)) ∧ (∀ (v6 : Bool), v6 = decide ((0 : Int) ≤ (v0 v4 1) ∧ (v0 v4 1) ≤ (10000 : Int)) → 
        ((¬ ((¬ (v5 = true) ∨ ¬ (v6 = true))) → True)) ∧ (∀ (v7 : Bool), v7 = decide ((0 : Int) ≤ (v0 v4 2) ∧ (v0 v4 2) ≤ (v0 v4 1)) → 
        ((¬ (((¬ (v5 = true) ∨ ¬ (v6 = true)) ∨ ¬ (v7 = true))) → True)) ∧ (∀ (v8 : Bool), v8 = decide ((0 : Int) ≤ (v0 v4 3) ∧ (v0 v4 3) ≤ (1000 : Int)) → 
        (((((¬ (v5 = true) ∨ ¬ (v6 = true)) ∨ ¬ (v7 = true)) ∨ ¬ (v8 = true)) ∨ ((v0 v4 4) = 0 ∧ ¬ ((v0 v4 3) = 0))) →
          (8 : Int) = ckA v0 v1 v2 ∧ True) ∧
        (¬ (((((¬ (v5 = true) ∨ ¬ (v6 = true)) ∨ ¬ (v7 = true)) ∨ ¬ (v8 = true)) ∨ ((v0 v4 4) = 0 ∧ ¬ ((v0 v4 3) = 0)))) →
          (-9223372036854775808 ≤ (v4 + 1) ∧ (v4 + 1) ≤ 9223372036854775807) ∧ ((-9223372036854775808 ≤ (v4 + 1) ∧ (v4 + 1) ≤ 9223372036854775807) →
          I0 (v4 + 1) ∧ μ0 (v4 + 1) < μ0 v4)))))))) ∧
      (¬ (v4 < v1) →
        (0 : Int) = ckA v0 v1 v2 ∧ True))))))
/-! hotspotref42.Twin -/
def sig10 : CSig := ⟨[⟨true, [.slc [.int .i64, .int .i64, .int .i64, .int .i64, .bool], .int .i64]⟩], [⟨true, [.slc [.int .i64, .int .i64, .int .i64, .int .i64, .bool], .int .i64]⟩]⟩
def pre10 : List AV → Prop
  | [.a v0, .i v1, .i v2] => v1 ≤ 1000
  | _ => False
noncomputable def raw10 : List AV → List AV
  | [.a v0, .i v1, .i v2] => [.a (v0), .i (v1), .i (v2)]
  | _ => []

def VC10 : Prop :=
  ∀ (v0 : Int → Nat → Int) (v1 : Int) (v2 : Int),
  (v1 ≤ 1000) →
  (0 ≤ v1 →
  (v1 * 40) ≤ 140737488355328 ∧ ((v1 * 40) ≤ 140737488355328 →
  v1 ≤ 140737488355328 ∧ (v1 ≤ 140737488355328 →
  (v1 ≤ 9223372036854775807 →
  v1 = v1 ∧ (∀ (i : Int) (f : Nat), 0 ≤ i → i < v1 → f < 5 → v0 i f = v0 i f) ∧ v2 = v2 ∧ True))))
/-! slices.Clone[[]api.AdaptRate,api.AdaptRate] -/
def sig28 : CSig := ⟨[⟨false, [.slc [.int .i64, .int .i64, .int .i64, .int .i64, .bool]]⟩], [⟨false, [.slc [.int .i64, .int .i64, .int .i64, .int .i64, .bool]]⟩]⟩
def pre28 : List AV → Prop
  | [.a v0, .i v1] => v1 ≤ 1000
  | _ => False
noncomputable def raw28 : List AV → List AV
  | [.a v0, .i v1] => [.a (v0), .i (v1)]
  | _ => []

def VC28 : Prop :=
  ∀ (v0 : Int → Nat → Int) (v1 : Int),
  (v1 ≤ 1000) →
  (0 ≤ v1 →
  (∀ (v2 : Bool),
  ((¬ (v2 = true) ∨ v1 = 0) →
  (v1 ≤ 9223372036854775807 →
  (v2 = true →
    (0 : Int) = v1 ∧ (∀ (i : Int) (f : Nat), 0 ≤ i → i < v1 → f < 5 → zA i f = v0 i f) ∧ True) ∧
  (¬ (v2 = true) →
    (v1 * 40) ≤ 140737488355328 ∧ ((v1 * 40) ≤ 140737488355328 →
    v1 ≤ 140737488355328 ∧ (v1 ≤ 140737488355328 →
    v1 = v1 ∧ (∀ (i : Int) (f : Nat), 0 ≤ i → i < v1 → f < 5 → v0 i f = v0 i f) ∧ True)))))))
/-! adapt.New -/
def sig11 : CSig := ⟨[⟨false, [.slc [.int .i64]]⟩], [⟨true, [.slc [.int .i64, .int .i64, .int .i64, .int .i64, .bool], .int .i64]⟩, ⟨false, [.int .i64]⟩]⟩
def pre11 : List AV → Prop
  | [.a v0, .i v1] => v1 ≤ 1000
  | _ => False
noncomputable def raw11 : List AV → List AV
  | [.a v0, .i v1] => [.a (nwA v0), .i (nwN v0 v1), .i (0), .i (nwE v0 v1)]
  | _ => []

def VC11 : Prop :=
  ∀ (v0 : Int → Nat → Int) (v1 : Int),
  (v1 ≤ 1000) →
  (0 ≤ v1 →
  ∃ (I0 : (Int → Nat → Int) → (Int) → (Int) → Prop) (μ0 : (Int → Nat → Int) → (Int) → (Int) → Nat), I0 zA (0 : Int) (0 : Int) ∧ (∀ (v2 : Int → Nat → Int) (v3 : Int) (v4 : Int), I0 v2 v3 v4 →
    (0 ≤ v3 →
    (v3 ≤ 9223372036854775807 →
    (v1 ≤ 9223372036854775807 →
    (v4 < v1 →
      0 ≤ v4 ∧ (0 ≤ v4 →
      ((v3 + 1) * 40) ≤ 140737488355328 ∧ (((v3 + 1) * 40) ≤ 140737488355328 →
      (v3 + 1) ≤ 140737488355328 ∧ ((v3 + 1) ≤ 140737488355328 →
      (-9223372036854775808 ≤ (v4 + 1) ∧ (v4 + 1) ≤ 9223372036854775807) ∧ ((-9223372036854775808 ≤ (v4 + 1) ∧ (v4 + 1) ≤ 9223372036854775807) →
      I0 (appA v2 v3 (setA (setA (setA (setA (setA zA 0 0 (v0 v4 0)) 0 1 0) 0 2 0) 0 3 0) 0 4 0)) (v3 + 1) (v4 + 1) ∧ μ0 (appA v2 v3 (setA (setA (setA (setA (setA zA 0 0 (v0 v4 0)) 0 1 0) 0 2 0) 0 3 0) 0 4 0)) (v3 + 1) (v4 + 1) < μ0 v2 v3 v4))))) ∧
    (¬ (v4 < v1) →
      (True) ∧ (∀ (v5 : Int), v5 = ckA v2 v3 (0 : Int) → 
      (¬ (v5 = 0) →
        (0 : Int) = nwN v0 v1 ∧ (∀ (i : Int) (f : Nat), 0 ≤ i → i < nwN v0 v1 → f < 5 → zA i f = nwA v0 i f) ∧ (0 : Int) = 0 ∧ (2 : Int) = nwE v0 v1 ∧ True) ∧
      (¬ (¬ (v5 = 0)) →
        v3 = nwN v0 v1 ∧ (∀ (i : Int) (f : Nat), 0 ≤ i → i < nwN v0 v1 → f < 5 → v2 i f = nwA v0 i f) ∧ (0 : Int) = 0 ∧ (0 : Int) = nwE v0 v1 ∧ True))))))))
/-! hotspotref42.New -/
def sig12 : CSig := ⟨[⟨false, [.slc [.int .i64]]⟩], [⟨true, [.slc [.int .i64, .int .i64, .int .i64, .int .i64, .bool], .int .i64]⟩, ⟨false, [.int .i64]⟩]⟩
def pre12 : List AV → Prop
  | [.a v0, .i v1] => v1 ≤ 1000
  | _ => False
noncomputable def raw12 : List AV → List AV
  | [.a v0, .i v1] => [.a (nwA v0), .i (nwN v0 v1), .i (0), .i (nwE v0 v1)]
  | _ => []

def VC12 : Prop :=
  ∀ (v0 : Int → Nat → Int) (v1 : Int),
  (v1 ≤ 1000) →
  (0 ≤ v1 →
  ∃ (I0 : (Int → Nat → Int) → (Int) → (Int) → Prop) (μ0 : (Int → Nat → Int) → (Int) → (Int) → Nat), I0 zA (0 : Int) (0 : Int) ∧ (∀ (v2 : Int → Nat → Int) (v3 : Int) (v4 : Int), I0 v2 v3 v4 →
    (0 ≤ v3 →
    (v3 ≤ 9223372036854775807 →
    (v1 ≤ 9223372036854775807 →
    (v4 < v1 →
      0 ≤ v4 ∧ (0 ≤ v4 →
      ((v3 + 1) * 40) ≤ 140737488355328 ∧ (((v3 + 1) * 40) ≤ 140737488355328 →
      (v3 + 1) ≤ 140737488355328 ∧ ((v3 + 1) ≤ 140737488355328 →
      ((v3 + 1) ≤ 9223372036854775807 →
      (-9223372036854775808 ≤ (v4 + 1) ∧ (v4 + 1) ≤ 9223372036854775807) ∧ ((-9223372036854775808 ≤ (v4 + 1) ∧ (v4 + 1) ≤ 9223372036854775807) →
      I0 (appA v2 v3 (setA (setA (setA (setA (setA zA 0 0 (v0 v4 0)) 0 1 0) 0 2 0) 0 3 0) 0 4 0)) (v3 + 1) (v4 + 1) ∧ μ0 (appA v2 v3 (setA (setA (setA (setA (setA zA 0 0 (v0 v4 0)) 0 1 0) 0 2 0) 0 3 0) 0 4 0)) (v3 + 1) (v4 + 1) < μ0 v2 v3 v4)))))) ∧
    (¬ (v4 < v1) →
      (True) ∧ (∀ (v5 : Int), v5 = ckA v2 v3 (0 : Int) → 
      (¬ (v5 = 0) →
        (0 : Int) = nwN v0 v1 ∧ (∀ (i : Int) (f : Nat), 0 ≤ i → i < nwN v0 v1 → f < 5 → zA i f = nwA v0 i f) ∧ (0 : Int) = 0 ∧ (2 : Int) = nwE v0 v1 ∧ True) ∧
      (¬ (¬ (v5 = 0)) →
        v3 = nwN v0 v1 ∧ (∀ (i : Int) (f : Nat), 0 ≤ i → i < nwN v0 v1 → f < 5 → v2 i f = nwA v0 i f) ∧ (0 : Int) = 0 ∧ (0 : Int) = nwE v0 v1 ∧ True))))))))
/-! adapt.Report -/
def sig13 : CSig := ⟨[⟨true, [.slc [.int .i64, .int .i64, .int .i64, .int .i64, .bool], .int .i64]⟩, ⟨false, [.int .i64]⟩, ⟨false, [.int .i64]⟩, ⟨false, [.int .i64]⟩], [⟨true, [.slc [.int .i64, .int .i64, .int .i64, .int .i64, .bool], .int .i64]⟩, ⟨false, [.int .i64]⟩]⟩
def pre13 : List AV → Prop
  | [.a v0, .i v1, .i v2, .i v3, .i v4, .i v5] => True
  | _ => False
noncomputable def raw13 : List AV → List AV
  | [.a v0, .i v1, .i v2, .i v3, .i v4, .i v5] => [.a (rpA v0 v3 v4 v5), .i (rpN v0 v1 v2 v3 v4 v5), .i (rpR v0 v1 v2 v3 v4 v5), .i (rpE v0 v1 v2 v3 v4 v5)]
  | _ => []

def VC13 : Prop :=
  ∀ (v0 : Int → Nat → Int) (v1 : Int) (v2 : Int) (v3 : Int) (v4 : Int) (v5 : Int),
  (True) →
  (0 ≤ v1 →
  (True) ∧ (∀ (v6 : Int), v6 = ckA v0 v1 v2 → 
  (v1 ≤ 9223372036854775807 →
  (¬ (v6 = 0) →
    (0 : Int) = rpN v0 v1 v2 v3 v4 v5 ∧ (∀ (i : Int) (f : Nat), 0 ≤ i → i < rpN v0 v1 v2 v3 v4 v5 → f < 5 → zA i f = rpA v0 v3 v4 v5 i f) ∧ (0 : Int) = rpR v0 v1 v2 v3 v4 v5 ∧ v6 = rpE v0 v1 v2 v3 v4 v5 ∧ True) ∧
  (¬ (¬ (v6 = 0)) →
    (-9223372036854775808 ≤ (v1 - 1) ∧ (v1 - 1) ≤ 9223372036854775807) ∧ ((-9223372036854775808 ≤ (v1 - 1) ∧ (v1 - 1) ≤ 9223372036854775807) →
    (True) ∧ (∀ (v7 : Bool), v7 = decide ((0 : Int) ≤ v3 ∧ v3 ≤ (v1 - 1)) → 
    ((v7 = true → True)) ∧ (∀ (v8 : Bool), v8 = decide ((0 : Int) ≤ v4 ∧ v4 ≤ (10000 : Int)) → 
    ((¬ ((¬ (v7 = true) ∨ ¬ (v8 = true))) → True)) ∧ (∀ (v9 : Bool), v9 = decide ((0 : Int) ≤ v5 ∧ v5 ≤ v4) → 
    (((¬ (v7 = true) ∨ ¬ (v8 = true)) ∨ ¬ (v9 = true)) →
      (0 : Int) = rpN v0 v1 v2 v3 v4 v5 ∧ (∀ (i : Int) (f : Nat), 0 ≤ i → i < rpN v0 v1 v2 v3 v4 v5 → f < 5 → zA i f = rpA v0 v3 v4 v5 i f) ∧ (0 : Int) = rpR v0 v1 v2 v3 v4 v5 ∧ (2 : Int) = rpE v0 v1 v2 v3 v4 v5 ∧ True) ∧
    (¬ (((¬ (v7 = true) ∨ ¬ (v8 = true)) ∨ ¬ (v9 = true))) →
      (v1 ≤ 1000) ∧ (∀ (v10 : Int → Nat → Int) (v11 : Int), v10 = v0 → v11 = v1 → 
      (0 ≤ v11 →
      (v11 ≤ 9223372036854775807 →
      0 ≤ v3 ∧ (0 ≤ v3 →
      v3 < v11 ∧ (v3 < v11 →
      (-9223372036854775808 ≤ ((v10 v3 1) + v4) ∧ ((v10 v3 1) + v4) ≤ 9223372036854775807) ∧ ((-9223372036854775808 ≤ ((v10 v3 1) + v4) ∧ ((v10 v3 1) + v4) ≤ 9223372036854775807) →
      (10000 < ((v10 v3 1) + v4) →
        (0 : Int) = rpN v0 v1 v2 v3 v4 v5 ∧ (∀ (i : Int) (f : Nat), 0 ≤ i → i < rpN v0 v1 v2 v3 v4 v5 → f < 5 → zA i f = rpA v0 v3 v4 v5 i f) ∧ (0 : Int) = rpR v0 v1 v2 v3 v4 v5 ∧ (22 : Int) = rpE v0 v1 v2 v3 v4 v5 ∧ True) ∧
      (¬ (10000 < ((v10 v3 1) + v4)) →
        (-9223372036854775808 ≤ ((v10 v3 2) + v5) ∧ ((v10 v3 2) + v5) ≤ 9223372036854775807) ∧ ((-9223372036854775808 ≤ ((v10 v3 2) + v5) ∧ ((v10 v3 2) + v5) ≤ 9223372036854775807) →
        v11 = rpN v0 v1 v2 v3 v4 v5 ∧ (∀ (i : Int) (f : Nat), 0 ≤ i → i < rpN v0 v1 v2 v3 v4 v5 → f < 5 → (setA (setA v10 v3 1 ((v10 v3 1) + v4)) v3 2 ((v10 v3 2) + v5)) i f = rpA v0 v3 v4 v5 i f) ∧ v2 = rpR v0 v1 v2 v3 v4 v5 ∧ (0 : Int) = rpE v0 v1 v2 v3 v4 v5 ∧ True)))))))))))))))))
/-! hotspotref42.Report -/
def sig14 : CSig := ⟨[⟨true, [.slc [.int .i64, .int .i64, .int .i64, .int .i64, .bool], .int .i64]⟩, ⟨false, [.int .i64]⟩, ⟨false, [.int .i64]⟩, ⟨false, [.int .i64]⟩], [⟨true, [.slc [.int .i64, .int .i64, .int .i64, .int .i64, .bool], .int .i64]⟩, ⟨false, [.int .i64]⟩]⟩
def pre14 : List AV → Prop
  | [.a v0, .i v1, .i v2, .i v3, .i v4, .i v5] => True
  | _ => False
noncomputable def raw14 : List AV → List AV
  | [.a v0, .i v1, .i v2, .i v3, .i v4, .i v5] => [.a (rpA v0 v3 v4 v5), .i (rpN v0 v1 v2 v3 v4 v5), .i (rpR v0 v1 v2 v3 v4 v5), .i (rpE v0 v1 v2 v3 v4 v5)]
  | _ => []

def VC14 : Prop :=
  ∀ (v0 : Int → Nat → Int) (v1 : Int) (v2 : Int) (v3 : Int) (v4 : Int) (v5 : Int),
  (True) →
  (0 ≤ v1 →
  (True) ∧ (∀ (v6 : Int), v6 = ckA v0 v1 v2 → 
  (v1 ≤ 9223372036854775807 →
  (¬ (v6 = 0) →
    (0 : Int) = rpN v0 v1 v2 v3 v4 v5 ∧ (∀ (i : Int) (f : Nat), 0 ≤ i → i < rpN v0 v1 v2 v3 v4 v5 → f < 5 → zA i f = rpA v0 v3 v4 v5 i f) ∧ (0 : Int) = rpR v0 v1 v2 v3 v4 v5 ∧ (8 : Int) = rpE v0 v1 v2 v3 v4 v5 ∧ True) ∧
  (¬ (¬ (v6 = 0)) →
    ((¬ ((v3 < 0 ∨ v1 ≤ v3)) → True)) ∧ (∀ (v7 : Bool), v7 = decide ((0 : Int) ≤ v4 ∧ v4 ≤ (10000 : Int)) → 
    ((¬ (((v3 < 0 ∨ v1 ≤ v3) ∨ ¬ (v7 = true))) → True)) ∧ (∀ (v8 : Bool), v8 = decide ((0 : Int) ≤ v5 ∧ v5 ≤ v4) → 
    ((((v3 < 0 ∨ v1 ≤ v3) ∨ ¬ (v7 = true)) ∨ ¬ (v8 = true)) →
      (0 : Int) = rpN v0 v1 v2 v3 v4 v5 ∧ (∀ (i : Int) (f : Nat), 0 ≤ i → i < rpN v0 v1 v2 v3 v4 v5 → f < 5 → zA i f = rpA v0 v3 v4 v5 i f) ∧ (0 : Int) = rpR v0 v1 v2 v3 v4 v5 ∧ (2 : Int) = rpE v0 v1 v2 v3 v4 v5 ∧ True) ∧
    (¬ ((((v3 < 0 ∨ v1 ≤ v3) ∨ ¬ (v7 = true)) ∨ ¬ (v8 = true))) →
      0 ≤ v3 ∧ (0 ≤ v3 →
      v3 < v1 ∧ (v3 < v1 →
      (-9223372036854775808 ≤ ((v0 v3 1) + v4) ∧ ((v0 v3 1) + v4) ≤ 9223372036854775807) ∧ ((-9223372036854775808 ≤ ((v0 v3 1) + v4) ∧ ((v0 v3 1) + v4) ≤ 9223372036854775807) →
      (10000 < ((v0 v3 1) + v4) →
        (0 : Int) = rpN v0 v1 v2 v3 v4 v5 ∧ (∀ (i : Int) (f : Nat), 0 ≤ i → i < rpN v0 v1 v2 v3 v4 v5 → f < 5 → zA i f = rpA v0 v3 v4 v5 i f) ∧ (0 : Int) = rpR v0 v1 v2 v3 v4 v5 ∧ (22 : Int) = rpE v0 v1 v2 v3 v4 v5 ∧ True) ∧
      (¬ (10000 < ((v0 v3 1) + v4)) →
        (v1 ≤ 1000) ∧ (∀ (v9 : Int → Nat → Int) (v10 : Int) (v11 : Int), v9 = v0 → v10 = v1 → v11 = v2 → 
        (0 ≤ v10 →
        v3 < v10 ∧ (v3 < v10 →
        (-9223372036854775808 ≤ ((v9 v3 1) + v4) ∧ ((v9 v3 1) + v4) ≤ 9223372036854775807) ∧ ((-9223372036854775808 ≤ ((v9 v3 1) + v4) ∧ ((v9 v3 1) + v4) ≤ 9223372036854775807) →
        (v10 ≤ 9223372036854775807 →
        (-9223372036854775808 ≤ ((v9 v3 2) + v5) ∧ ((v9 v3 2) + v5) ≤ 9223372036854775807) ∧ ((-9223372036854775808 ≤ ((v9 v3 2) + v5) ∧ ((v9 v3 2) + v5) ≤ 9223372036854775807) →
        v10 = rpN v0 v1 v2 v3 v4 v5 ∧ (∀ (i : Int) (f : Nat), 0 ≤ i → i < rpN v0 v1 v2 v3 v4 v5 → f < 5 → (setA (setA v9 v3 1 ((v9 v3 1) + v4)) v3 2 ((v9 v3 2) + v5)) i f = rpA v0 v3 v4 v5 i f) ∧ v11 = rpR v0 v1 v2 v3 v4 v5 ∧ (0 : Int) = rpE v0 v1 v2 v3 v4 v5 ∧ True)))))))))))))))))
/-! adapt.rounded -/
def sig30 : CSig := ⟨[⟨true, [.int .i64, .int .i64, .int .i64, .int .i64, .bool]⟩], [⟨true, [.int .i64, .int .i64, .int .i64, .int .i64, .bool]⟩]⟩
def pre30 : List AV → Prop
  | [.i v0, .i v1, .i v2, .i v3, .b v4] => okZ v0 v1 v2 v3 v4 = true
  | _ => False
noncomputable def raw30 : List AV → List AV
  | [.i v0, .i v1, .i v2, .i v3, .b v4] => [.i (v0), .i (0), .i (0), .i (rdC v1 v2 v3 v4), .b (rdK v1 v4)]
  | _ => []

def VC30 : Prop :=
  ∀ (v0 : Int) (v1 : Int) (v2 : Int) (v3 : Int) (v4 : Bool),
  (okZ v0 v1 v2 v3 v4 = true) →
  (v1 = 0 →
    v0 = v0 ∧ v1 = 0 ∧ v2 = 0 ∧ v3 = rdC v1 v2 v3 v4 ∧ (v4 = true ↔ rdK v1 v4 = true) ∧ True) ∧
  (¬ (v1 = 0) →
    (-9223372036854775808 ≤ (1000 * v2) ∧ (1000 * v2) ≤ 9223372036854775807) ∧ ((-9223372036854775808 ≤ (1000 * v2) ∧ (1000 * v2) ≤ 9223372036854775807) →
    (-9223372036854775808 ≤ (Int.tdiv (1000 * v2) v1) ∧ (Int.tdiv (1000 * v2) v1) ≤ 9223372036854775807) ∧ ((-9223372036854775808 ≤ (Int.tdiv (1000 * v2) v1) ∧ (Int.tdiv (1000 * v2) v1) ≤ 9223372036854775807) →
    (v4 = true →
      (-9223372036854775808 ≤ (3 * v3) ∧ (3 * v3) ≤ 9223372036854775807) ∧ ((-9223372036854775808 ≤ (3 * v3) ∧ (3 * v3) ≤ 9223372036854775807) →
      (-9223372036854775808 ≤ ((3 * v3) + (Int.tdiv (1000 * v2) v1)) ∧ ((3 * v3) + (Int.tdiv (1000 * v2) v1)) ≤ 9223372036854775807) ∧ ((-9223372036854775808 ≤ ((3 * v3) + (Int.tdiv (1000 * v2) v1)) ∧ ((3 * v3) + (Int.tdiv (1000 * v2) v1)) ≤ 9223372036854775807) →
      (-9223372036854775808 ≤ (Int.tdiv ((3 * v3) + (Int.tdiv (1000 * v2) v1)) 4) ∧ (Int.tdiv ((3 * v3) + (Int.tdiv (1000 * v2) v1)) 4) ≤ 9223372036854775807) ∧ ((-9223372036854775808 ≤ (Int.tdiv ((3 * v3) + (Int.tdiv (1000 * v2) v1)) 4) ∧ (Int.tdiv ((3 * v3) + (Int.tdiv (1000 * v2) v1)) 4) ≤ 9223372036854775807) →
      v0 = v0 ∧ (0 : Int) = 0 ∧ (0 : Int) = 0 ∧ (Int.tdiv ((3 * v3) + (Int.tdiv (1000 * v2) v1)) 4) = rdC v1 v2 v3 v4 ∧ (True ↔ rdK v1 v4 = true) ∧ True)))) ∧
    (¬ (v4 = true) →
      v0 = v0 ∧ (0 : Int) = 0 ∧ (0 : Int) = 0 ∧ (Int.tdiv (1000 * v2) v1) = rdC v1 v2 v3 v4 ∧ (True ↔ rdK v1 v4 = true) ∧ True))))
/-! adapt.Round -/
def sig15 : CSig := ⟨[⟨true, [.slc [.int .i64, .int .i64, .int .i64, .int .i64, .bool], .int .i64]⟩], [⟨true, [.slc [.int .i64, .int .i64, .int .i64, .int .i64, .bool], .int .i64]⟩, ⟨false, [.int .i64]⟩]⟩
def pre15 : List AV → Prop
  | [.a v0, .i v1, .i v2] => True
  | _ => False
noncomputable def raw15 : List AV → List AV
  | [.a v0, .i v1, .i v2] => [.a (rdP v0), .i (rdN v0 v1 v2), .i (rdR v0 v1 v2), .i (rdE v0 v1 v2)]
  | _ => []

def VC15 : Prop :=
  ∀ (v0 : Int → Nat → Int) (v1 : Int) (v2 : Int),
  (True) →
  (0 ≤ v1 →
  (True) ∧ (∀ (v3 : Int), v3 = ckA v0 v1 v2 → 
  (v1 ≤ 9223372036854775807 →
  (¬ (v3 = 0) →
    (0 : Int) = rdN v0 v1 v2 ∧ (∀ (i : Int) (f : Nat), 0 ≤ i → i < rdN v0 v1 v2 → f < 5 → zA i f = rdP v0 i f) ∧ (0 : Int) = rdR v0 v1 v2 ∧ v3 = rdE v0 v1 v2 ∧ True) ∧
  (¬ (¬ (v3 = 0)) →
    (v2 = 1099511627776 →
      (0 : Int) = rdN v0 v1 v2 ∧ (∀ (i : Int) (f : Nat), 0 ≤ i → i < rdN v0 v1 v2 → f < 5 → zA i f = rdP v0 i f) ∧ (0 : Int) = rdR v0 v1 v2 ∧ (22 : Int) = rdE v0 v1 v2 ∧ True) ∧
    (¬ (v2 = 1099511627776) →
      (-9223372036854775808 ≤ (v2 + 1) ∧ (v2 + 1) ≤ 9223372036854775807) ∧ ((-9223372036854775808 ≤ (v2 + 1) ∧ (v2 + 1) ≤ 9223372036854775807) →
      ∃ (I0 : (Int → Nat → Int) → (Int) → (Int) → Prop) (μ0 : (Int → Nat → Int) → (Int) → (Int) → Nat), I0 zA (0 : Int) (0 : Int) ∧ (∀ (v4 : Int → Nat → Int) (v5 : Int) (v6 : Int), I0 v4 v5 v6 →
        (0 ≤ v5 →
        (v5 ≤ 9223372036854775807 →
        (v6 < v1 →
          0 ≤ v6 ∧ (0 ≤ v6 →
          (okZ (v0 v6 0) (v0 v6 1) (v0 v6 2) (v0 v6 3) (!(decide ((v0 v6 4) = 0))) = true) ∧ (∀ (v7 : Int) (v8 : Int) (v9 : Int) (v10 : Int) (v11 : Bool), v7 = (v0 v6 0) → v8 = 0 → v9 = 0 → v10 = rdC (v0 v6 1) (v0 v6 2) (v0 v6 3) (!(decide ((v0 v6 4) = 0))) → v11 = rdK (v0 v6 1) (!(decide ((v0 v6 4) = 0))) → 
          ((v5 + 1) * 40) ≤ 140737488355328 ∧ (((v5 + 1) * 40) ≤ 140737488355328 →
          (v5 + 1) ≤ 140737488355328 ∧ ((v5 + 1) ≤ 140737488355328 →
          ((v5 + 1) ≤ 9223372036854775807 →
          (-9223372036854775808 ≤ (v6 + 1) ∧ (v6 + 1) ≤ 9223372036854775807) ∧ ((-9223372036854775808 ≤ (v6 + 1) ∧ (v6 + 1) ≤ 9223372036854775807) →
          I0 (appA v4 v5 (setA (setA (setA (setA (setA zA 0 0 v7) 0 1 v8) 0 2 v9) 0 3 v10) 0 4 (if v11 = true then 1 else 0))) (v5 + 1) (v6 + 1) ∧ μ0 (appA v4 v5 (setA (setA (setA (setA (setA zA 0 0 v7) 0 1 v8) 0 2 v9) 0 3 v10) 0 4 (if v11 = true then 1 else 0))) (v5 + 1) (v6 + 1) < μ0 v4 v5 v6))))))) ∧
        (¬ (v6 < v1) →
          v5 = rdN v0 v1 v2 ∧ (∀ (i : Int) (f : Nat), 0 ≤ i → i < rdN v0 v1 v2 → f < 5 → v4 i f = rdP v0 i f) ∧ (v2 + 1) = rdR v0 v1 v2 ∧ (0 : Int) = rdE v0 v1 v2 ∧ True))))))))))
/-! hotspotref42.Round -/
def sig16 : CSig := ⟨[⟨true, [.slc [.int .i64, .int .i64, .int .i64, .int .i64, .bool], .int .i64]⟩], [⟨true, [.slc [.int .i64, .int .i64, .int .i64, .int .i64, .bool], .int .i64]⟩, ⟨false, [.int .i64]⟩]⟩
def pre16 : List AV → Prop
  | [.a v0, .i v1, .i v2] => True
  | _ => False
noncomputable def raw16 : List AV → List AV
  | [.a v0, .i v1, .i v2] => [.a (rdF v0), .i (rdN v0 v1 v2), .i (rdR v0 v1 v2), .i (rdE v0 v1 v2)]
  | _ => []

def VC16 : Prop :=
  ∀ (v0 : Int → Nat → Int) (v1 : Int) (v2 : Int),
  (True) →
  (0 ≤ v1 →
  (True) ∧ (∀ (v3 : Int), v3 = ckA v0 v1 v2 → 
  (v1 ≤ 9223372036854775807 →
  (¬ (v3 = 0) →
    (0 : Int) = rdN v0 v1 v2 ∧ (∀ (i : Int) (f : Nat), 0 ≤ i → i < rdN v0 v1 v2 → f < 5 → zA i f = rdF v0 i f) ∧ (0 : Int) = rdR v0 v1 v2 ∧ (8 : Int) = rdE v0 v1 v2 ∧ True) ∧
  (¬ (¬ (v3 = 0)) →
    (1099511627776 ≤ v2 →
      (0 : Int) = rdN v0 v1 v2 ∧ (∀ (i : Int) (f : Nat), 0 ≤ i → i < rdN v0 v1 v2 → f < 5 → zA i f = rdF v0 i f) ∧ (0 : Int) = rdR v0 v1 v2 ∧ (22 : Int) = rdE v0 v1 v2 ∧ True) ∧
    (¬ (1099511627776 ≤ v2) →
      (v1 ≤ 1000) ∧ (∀ (v4 : Int → Nat → Int) (v5 : Int) (v6 : Int), v4 = v0 → v5 = v1 → v6 = v2 → 
      (0 ≤ v5 →
      (-9223372036854775808 ≤ (v6 + 1) ∧ (v6 + 1) ≤ 9223372036854775807) ∧ ((-9223372036854775808 ≤ (v6 + 1) ∧ (v6 + 1) ≤ 9223372036854775807) →
      ∃ (I0 : (Int → Nat → Int) → (Int) → Prop) (μ0 : (Int → Nat → Int) → (Int) → Nat), I0 v4 (0 : Int) ∧ (∀ (v7 : Int → Nat → Int) (v8 : Int), I0 v7 v8 →
        (v5 ≤ 9223372036854775807 →
        (v8 < v5 →
          0 ≤ v8 ∧ (0 ≤ v8 →
          ((v7 v8 1) = 0 →
            (-9223372036854775808 ≤ (v8 + 1) ∧ (v8 + 1) ≤ 9223372036854775807) ∧ ((-9223372036854775808 ≤ (v8 + 1) ∧ (v8 + 1) ≤ 9223372036854775807) →
            I0 v7 (v8 + 1) ∧ μ0 v7 (v8 + 1) < μ0 v7 v8)) ∧
          (¬ ((v7 v8 1) = 0) →
            (-9223372036854775808 ≤ (1000 * (v7 v8 2)) ∧ (1000 * (v7 v8 2)) ≤ 9223372036854775807) ∧ ((-9223372036854775808 ≤ (1000 * (v7 v8 2)) ∧ (1000 * (v7 v8 2)) ≤ 9223372036854775807) →
            (-9223372036854775808 ≤ (Int.tdiv (1000 * (v7 v8 2)) (v7 v8 1)) ∧ (Int.tdiv (1000 * (v7 v8 2)) (v7 v8 1)) ≤ 9223372036854775807) ∧ ((-9223372036854775808 ≤ (Int.tdiv (1000 * (v7 v8 2)) (v7 v8 1)) ∧ (Int.tdiv (1000 * (v7 v8 2)) (v7 v8 1)) ≤ 9223372036854775807) →
            (¬ ((v7 v8 4) = 0) →
              (-9223372036854775808 ≤ ((v7 v8 3) + (v7 v8 3)) ∧ ((v7 v8 3) + (v7 v8 3)) ≤ 9223372036854775807) ∧ ((-9223372036854775808 ≤ ((v7 v8 3) + (v7 v8 3)) ∧ ((v7 v8 3) + (v7 v8 3)) ≤ 9223372036854775807) →
              (-9223372036854775808 ≤ (((v7 v8 3) + (v7 v8 3)) + (v7 v8 3)) ∧ (((v7 v8 3) + (v7 v8 3)) + (v7 v8 3)) ≤ 9223372036854775807) ∧ ((-9223372036854775808 ≤ (((v7 v8 3) + (v7 v8 3)) + (v7 v8 3)) ∧ (((v7 v8 3) + (v7 v8 3)) + (v7 v8 3)) ≤ 9223372036854775807) →
              (-9223372036854775808 ≤ ((((v7 v8 3) + (v7 v8 3)) + (v7 v8 3)) + (Int.tdiv (1000 * (v7 v8 2)) (v7 v8 1))) ∧ ((((v7 v8 3) + (v7 v8 3)) + (v7 v8 3)) + (Int.tdiv (1000 * (v7 v8 2)) (v7 v8 1))) ≤ 9223372036854775807) ∧ ((-9223372036854775808 ≤ ((((v7 v8 3) + (v7 v8 3)) + (v7 v8 3)) + (Int.tdiv (1000 * (v7 v8 2)) (v7 v8 1))) ∧ ((((v7 v8 3) + (v7 v8 3)) + (v7 v8 3)) + (Int.tdiv (1000 * (v7 v8 2)) (v7 v8 1))) ≤ 9223372036854775807) →
              (-9223372036854775808 ≤ (Int.tdiv ((((v7 v8 3) + (v7 v8 3)) + (v7 v8 3)) + (Int.tdiv (1000 * (v7 v8 2)) (v7 v8 1))) 4) ∧ (Int.tdiv ((((v7 v8 3) + (v7 v8 3)) + (v7 v8 3)) + (Int.tdiv (1000 * (v7 v8 2)) (v7 v8 1))) 4) ≤ 9223372036854775807) ∧ ((-9223372036854775808 ≤ (Int.tdiv ((((v7 v8 3) + (v7 v8 3)) + (v7 v8 3)) + (Int.tdiv (1000 * (v7 v8 2)) (v7 v8 1))) 4) ∧ (Int.tdiv ((((v7 v8 3) + (v7 v8 3)) + (v7 v8 3)) + (Int.tdiv (1000 * (v7 v8 2)) (v7 v8 1))) 4) ≤ 9223372036854775807) →
              (-9223372036854775808 ≤ (v8 + 1) ∧ (v8 + 1) ≤ 9223372036854775807) ∧ ((-9223372036854775808 ≤ (v8 + 1) ∧ (v8 + 1) ≤ 9223372036854775807) →
              I0 (setA (setA (setA (setA (setA v7 v8 0 (v7 v8 0)) v8 1 0) v8 2 0) v8 3 (Int.tdiv ((((v7 v8 3) + (v7 v8 3)) + (v7 v8 3)) + (Int.tdiv (1000 * (v7 v8 2)) (v7 v8 1))) 4)) v8 4 1) (v8 + 1) ∧ μ0 (setA (setA (setA (setA (setA v7 v8 0 (v7 v8 0)) v8 1 0) v8 2 0) v8 3 (Int.tdiv ((((v7 v8 3) + (v7 v8 3)) + (v7 v8 3)) + (Int.tdiv (1000 * (v7 v8 2)) (v7 v8 1))) 4)) v8 4 1) (v8 + 1) < μ0 v7 v8)))))) ∧
            (¬ (¬ ((v7 v8 4) = 0)) →
              (-9223372036854775808 ≤ (v8 + 1) ∧ (v8 + 1) ≤ 9223372036854775807) ∧ ((-9223372036854775808 ≤ (v8 + 1) ∧ (v8 + 1) ≤ 9223372036854775807) →
              I0 (setA (setA (setA (setA (setA v7 v8 0 (v7 v8 0)) v8 1 0) v8 2 0) v8 3 (Int.tdiv (1000 * (v7 v8 2)) (v7 v8 1))) v8 4 1) (v8 + 1) ∧ μ0 (setA (setA (setA (setA (setA v7 v8 0 (v7 v8 0)) v8 1 0) v8 2 0) v8 3 (Int.tdiv (1000 * (v7 v8 2)) (v7 v8 1))) v8 4 1) (v8 + 1) < μ0 v7 v8))))))) ∧
        (¬ (v8 < v5) →
          v5 = rdN v0 v1 v2 ∧ (∀ (i : Int) (f : Nat), 0 ≤ i → i < rdN v0 v1 v2 → f < 5 → v7 i f = rdF v0 i f) ∧ (v6 + 1) = rdR v0 v1 v2 ∧ (0 : Int) = rdE v0 v1 v2 ∧ True)))))))))))
/-! hotspotref42.Same -/
def sig17 : CSig := ⟨[⟨true, [.slc [.int .i64, .int .i64, .int .i64, .int .i64, .bool], .int .i64]⟩, ⟨true, [.slc [.int .i64, .int .i64, .int .i64, .int .i64, .bool], .int .i64]⟩], [⟨false, [.bool]⟩]⟩
def pre17 : List AV → Prop
  | [.a v0, .i v1, .i v2, .a v3, .i v4, .i v5] => True
  | _ => False
noncomputable def raw17 : List AV → List AV
  | [.a v0, .i v1, .i v2, .a v3, .i v4, .i v5] => [.b (smA v0 v1 v2 v3 v4 v5)]
  | _ => []

def VC17 : Prop :=
  ∀ (v0 : Int → Nat → Int) (v1 : Int) (v2 : Int) (v3 : Int → Nat → Int) (v4 : Int) (v5 : Int),
  (True) →
  (0 ≤ v1 →
  (0 ≤ v4 →
  (v1 ≤ 9223372036854775807 →
  (v4 ≤ 9223372036854775807 →
  ((¬ (v1 = v4) ∨ ¬ (v2 = v5)) →
    (False ↔ smA v0 v1 v2 v3 v4 v5 = true) ∧ True) ∧
  (¬ ((¬ (v1 = v4) ∨ ¬ (v2 = v5))) →
    ∃ (I0 : (Int) → Prop) (μ0 : (Int) → Nat), I0 (0 : Int) ∧ (∀ (v6 : Int), I0 v6 →
      (v6 < v1 →
        0 ≤ v6 ∧ (0 ≤ v6 →
        v6 < v4 ∧ (v6 < v4 →
        (¬ (((v0 v6 0) = (v3 v6 0) ∧ ((v0 v6 1) = (v3 v6 1) ∧ ((v0 v6 2) = (v3 v6 2) ∧ ((v0 v6 3) = (v3 v6 3) ∧ ((¬ ((v0 v6 4) = 0) ∧ ¬ ((v3 v6 4) = 0)) ∨ ((v0 v6 4) = 0 ∧ (v3 v6 4) = 0))))))) →
          (False ↔ smA v0 v1 v2 v3 v4 v5 = true) ∧ True) ∧
        (¬ (¬ (((v0 v6 0) = (v3 v6 0) ∧ ((v0 v6 1) = (v3 v6 1) ∧ ((v0 v6 2) = (v3 v6 2) ∧ ((v0 v6 3) = (v3 v6 3) ∧ ((¬ ((v0 v6 4) = 0) ∧ ¬ ((v3 v6 4) = 0)) ∨ ((v0 v6 4) = 0 ∧ (v3 v6 4) = 0)))))))) →
          (-9223372036854775808 ≤ (v6 + 1) ∧ (v6 + 1) ≤ 9223372036854775807) ∧ ((-9223372036854775808 ≤ (v6 + 1) ∧ (v6 + 1) ≤ 9223372036854775807) →
          I0 (v6 + 1) ∧ μ0 (v6 + 1) < μ0 v6))))) ∧
      (¬ (v6 < v1) →
        (True ↔ smA v0 v1 v2 v3 v4 v5 = true) ∧ True)))))))
/-! hotspotlaw42.AdaptTurns -/
def sig3 : CSig := ⟨[⟨true, [.slc [.int .i64, .int .i64, .int .i64, .int .i64, .bool], .int .i64]⟩, ⟨false, [.slc [.int .i64]]⟩, ⟨false, [.int .i64]⟩, ⟨false, [.int .i64]⟩, ⟨false, [.int .i64]⟩], [⟨false, [.bool]⟩]⟩
def pre3 : List AV → Prop
  | [.a v0, .i v1, .i v2, .a v3, .i v4, .i v5, .i v6, .i v7] => True
  | _ => False
noncomputable def raw3 : List AV → List AV
  | [.a v0, .i v1, .i v2, .a v3, .i v4, .i v5, .i v6, .i v7] => [.b (true)]
  | _ => []

def VC3 : Prop :=
  ∀ (v0 : Int → Nat → Int) (v1 : Int) (v2 : Int) (v3 : Int → Nat → Int) (v4 : Int) (v5 : Int) (v6 : Int) (v7 : Int),
  (True) →
  (0 ≤ v1 →
  (0 ≤ v4 →
  (v1 ≤ 9223372036854775807 →
  (v4 ≤ 9223372036854775807 →
  ((20 < v1 ∨ 20 < v4) →
    (True ↔ true = true) ∧ True) ∧
  (¬ ((20 < v1 ∨ 20 < v4)) →
    (v1 ≤ 1000) ∧ (∀ (v8 : Int → Nat → Int) (v9 : Int) (v10 : Int), v8 = v0 → v9 = v1 → v10 = v2 → 
    (0 ≤ v9 →
    (v4 ≤ 1000) ∧ (∀ (v11 : Int → Nat → Int) (v12 : Int) (v13 : Int) (v14 : Int), v11 = nwA v3 → v12 = nwN v3 v4 → v13 = 0 → v14 = nwE v3 v4 → 
    (v9 ≤ 9223372036854775807 →
    (0 ≤ v12 →
    (v4 ≤ 1000) ∧ (∀ (v15 : Int → Nat → Int) (v16 : Int) (v17 : Int) (v18 : Int), v15 = nwA v3 → v16 = nwN v3 v4 → v17 = 0 → v18 = nwE v3 v4 → 
    (v12 ≤ 9223372036854775807 →
    (0 ≤ v16 →
    (True) ∧ (∀ (v19 : Int → Nat → Int) (v20 : Int) (v21 : Int) (v22 : Int), v19 = rpA v8 v5 v6 v7 → v20 = rpN v8 v9 v10 v5 v6 v7 → v21 = rpR v8 v9 v10 v5 v6 v7 → v22 = rpE v8 v9 v10 v5 v6 v7 → 
    (v16 ≤ 9223372036854775807 →
    (0 ≤ v20 →
    (True) ∧ (∀ (v23 : Int → Nat → Int) (v24 : Int) (v25 : Int) (v26 : Int), v23 = rpA v0 v5 v6 v7 → v24 = rpN v0 v1 v2 v5 v6 v7 → v25 = rpR v0 v1 v2 v5 v6 v7 → v26 = rpE v0 v1 v2 v5 v6 v7 → 
    (v20 ≤ 9223372036854775807 →
    (0 ≤ v24 →
    (True) ∧ (∀ (v27 : Int → Nat → Int) (v28 : Int) (v29 : Int) (v30 : Int), v27 = rdP v8 → v28 = rdN v8 v9 v10 → v29 = rdR v8 v9 v10 → v30 = rdE v8 v9 v10 → 
    (v24 ≤ 9223372036854775807 →
    (0 ≤ v28 →
    (True) ∧ (∀ (v31 : Int → Nat → Int) (v32 : Int) (v33 : Int) (v34 : Int), v31 = rdF v0 → v32 = rdN v0 v1 v2 → v33 = rdR v0 v1 v2 → v34 = rdE v0 v1 v2 → 
    (v28 ≤ 9223372036854775807 →
    (0 ≤ v32 →
    (True) ∧ (∀ (v35 : Bool), v35 = smA v11 v12 v13 v15 v16 v17 → 
    (v32 ≤ 9223372036854775807 →
    (((v35 = true ∧ v14 = v18) → True)) ∧ (∀ (v36 : Bool), v36 = smA v19 v20 v21 v23 v24 v25 → 
    (((((v35 = true ∧ v14 = v18) ∧ v36 = true) ∧ v22 = v26) → True)) ∧ (∀ (v37 : Bool), v37 = smA v27 v28 v29 v31 v32 v33 → 
    ∃ (I0 : (Int → Nat → Int) → (Int) → Prop) (μ0 : (Int → Nat → Int) → (Int) → Nat), I0 v19 (0 : Int) ∧ (∀ (v38 : Int → Nat → Int) (v39 : Int), I0 v38 v39 →
      (v39 < v20 →
        0 ≤ v39 ∧ (0 ≤ v39 →
        (-9223372036854775808 ≤ (v39 + 1) ∧ (v39 + 1) ≤ 9223372036854775807) ∧ ((-9223372036854775808 ≤ (v39 + 1) ∧ (v39 + 1) ≤ 9223372036854775807) →
        I0 (setA v38 v39 0 (-7777)) (v39 + 1) ∧ μ0 (setA v38 v39 0 (-7777)) (v39 + 1) < μ0 v38 v39))) ∧
      (¬ (v39 < v20) →
        ∃ (I1 : (Int → Nat → Int) → (Int) → Prop) (μ1 : (Int → Nat → Int) → (Int) → Nat), I1 v27 (0 : Int) ∧ (∀ (v40 : Int → Nat → Int) (v41 : Int), I1 v40 v41 →
          (v41 < v28 →
            0 ≤ v41 ∧ (0 ≤ v41 →
            (-9223372036854775808 ≤ (v41 + 1) ∧ (v41 + 1) ≤ 9223372036854775807) ∧ ((-9223372036854775808 ≤ (v41 + 1) ∧ (v41 + 1) ≤ 9223372036854775807) →
            I1 (setA v40 v41 0 (-7777)) (v41 + 1) ∧ μ1 (setA v40 v41 0 (-7777)) (v41 + 1) < μ1 v40 v41))) ∧
          (¬ (v41 < v28) →
            (((((((v35 = true ∧ v14 = v18) ∧ v36 = true) ∧ v22 = v26) ∧ v37 = true) ∧ v30 = v34) → True)) ∧ (∀ (v42 : Bool), v42 = smA v8 v9 v10 v0 v1 v2 → 
            (((((((v35 = true ∧ v14 = v18) ∧ v36 = true) ∧ v22 = v26) ∧ v37 = true) ∧ v30 = v34) ∧ v42 = true) ↔ true = true) ∧ True))))))))))))))))))))))))))))))))))
/-! adapt.value -/
def sig31 : CSig := ⟨[⟨true, [.int .i64, .int .i64, .int .i64, .int .i64, .bool]⟩], [⟨false, [.int .i64]⟩]⟩
def pre31 : List AV → Prop
  | [.i v0, .i v1, .i v2, .i v3, .b v4] => okZ v0 v1 v2 v3 v4 = true
  | _ => False
noncomputable def raw31 : List AV → List AV
  | [.i v0, .i v1, .i v2, .i v3, .b v4] => [.i (vlA v0 v3)]
  | _ => []

def VC31 : Prop :=
  ∀ (v0 : Int) (v1 : Int) (v2 : Int) (v3 : Int) (v4 : Bool),
  (okZ v0 v1 v2 v3 v4 = true) →
  (v3 < 100 →
    (0 : Int) = vlA v0 v3 ∧ True) ∧
  (¬ (v3 < 100) →
    (-9223372036854775808 ≤ (v3 * 100000) ∧ (v3 * 100000) ≤ 9223372036854775807) ∧ ((-9223372036854775808 ≤ (v3 * 100000) ∧ (v3 * 100000) ≤ 9223372036854775807) →
    ¬ (v0 = 0) ∧ (¬ (v0 = 0) →
    (-9223372036854775808 ≤ (Int.tdiv (v3 * 100000) v0) ∧ (Int.tdiv (v3 * 100000) v0) ≤ 9223372036854775807) ∧ ((-9223372036854775808 ≤ (Int.tdiv (v3 * 100000) v0) ∧ (Int.tdiv (v3 * 100000) v0) ≤ 9223372036854775807) →
    (Int.tdiv (v3 * 100000) v0) = vlA v0 v3 ∧ True))))
/-! hotspotref42.Worth -/
def sig32 : CSig := ⟨[⟨true, [.int .i64, .int .i64, .int .i64, .int .i64, .bool]⟩], [⟨false, [.int .i64]⟩]⟩
def pre32 : List AV → Prop
  | [.i v0, .i v1, .i v2, .i v3, .b v4] => okZ v0 v1 v2 v3 v4 = true
  | _ => False
noncomputable def raw32 : List AV → List AV
  | [.i v0, .i v1, .i v2, .i v3, .b v4] => [.i (vlA v0 v3)]
  | _ => []

def VC32 : Prop :=
  ∀ (v0 : Int) (v1 : Int) (v2 : Int) (v3 : Int) (v4 : Bool),
  (okZ v0 v1 v2 v3 v4 = true) →
  (v3 < 100 →
    (0 : Int) = vlA v0 v3 ∧ True) ∧
  (¬ (v3 < 100) →
    (-9223372036854775808 ≤ (100000 * v3) ∧ (100000 * v3) ≤ 9223372036854775807) ∧ ((-9223372036854775808 ≤ (100000 * v3) ∧ (100000 * v3) ≤ 9223372036854775807) →
    ¬ (v0 = 0) ∧ (¬ (v0 = 0) →
    (-9223372036854775808 ≤ (Int.tdiv (100000 * v3) v0) ∧ (Int.tdiv (100000 * v3) v0) ≤ 9223372036854775807) ∧ ((-9223372036854775808 ≤ (Int.tdiv (100000 * v3) v0) ∧ (Int.tdiv (100000 * v3) v0) ≤ 9223372036854775807) →
    (Int.tdiv (100000 * v3) v0) = vlA v0 v3 ∧ True))))
/-! adapt.Value -/
def sig18 : CSig := ⟨[⟨true, [.slc [.int .i64, .int .i64, .int .i64, .int .i64, .bool], .int .i64]⟩, ⟨false, [.int .i64]⟩], [⟨false, [.int .i64]⟩, ⟨false, [.int .i64]⟩]⟩
def pre18 : List AV → Prop
  | [.a v0, .i v1, .i v2, .i v3] => True
  | _ => False
noncomputable def raw18 : List AV → List AV
  | [.a v0, .i v1, .i v2, .i v3] => [.i (vuV v0 v1 v2 v3), .i (vuE v0 v1 v2 v3)]
  | _ => []

def VC18 : Prop :=
  ∀ (v0 : Int → Nat → Int) (v1 : Int) (v2 : Int) (v3 : Int),
  (True) →
  (0 ≤ v1 →
  (True) ∧ (∀ (v4 : Int), v4 = ckA v0 v1 v2 → 
  (v1 ≤ 9223372036854775807 →
  (¬ (v4 = 0) →
    (0 : Int) = vuV v0 v1 v2 v3 ∧ v4 = vuE v0 v1 v2 v3 ∧ True) ∧
  (¬ (¬ (v4 = 0)) →
    (-9223372036854775808 ≤ (v1 - 1) ∧ (v1 - 1) ≤ 9223372036854775807) ∧ ((-9223372036854775808 ≤ (v1 - 1) ∧ (v1 - 1) ≤ 9223372036854775807) →
    (True) ∧ (∀ (v5 : Bool), v5 = decide ((0 : Int) ≤ v3 ∧ v3 ≤ (v1 - 1)) → 
    (¬ (v5 = true) →
      (0 : Int) = vuV v0 v1 v2 v3 ∧ (2 : Int) = vuE v0 v1 v2 v3 ∧ True) ∧
    (¬ (¬ (v5 = true)) →
      0 ≤ v3 ∧ (0 ≤ v3 →
      v3 < v1 ∧ (v3 < v1 →
      (okZ (v0 v3 0) (v0 v3 1) (v0 v3 2) (v0 v3 3) (!(decide ((v0 v3 4) = 0))) = true) ∧ (∀ (v6 : Int), v6 = vlA (v0 v3 0) (v0 v3 3) → 
      v6 = vuV v0 v1 v2 v3 ∧ (0 : Int) = vuE v0 v1 v2 v3 ∧ True))))))))))
/-! hotspotref42.Value -/
def sig19 : CSig := ⟨[⟨true, [.slc [.int .i64, .int .i64, .int .i64, .int .i64, .bool], .int .i64]⟩, ⟨false, [.int .i64]⟩], [⟨false, [.int .i64]⟩, ⟨false, [.int .i64]⟩]⟩
def pre19 : List AV → Prop
  | [.a v0, .i v1, .i v2, .i v3] => True
  | _ => False
noncomputable def raw19 : List AV → List AV
  | [.a v0, .i v1, .i v2, .i v3] => [.i (vuV v0 v1 v2 v3), .i (vuE v0 v1 v2 v3)]
  | _ => []

def VC19 : Prop :=
  ∀ (v0 : Int → Nat → Int) (v1 : Int) (v2 : Int) (v3 : Int),
  (True) →
  (0 ≤ v1 →
  (True) ∧ (∀ (v4 : Int), v4 = ckA v0 v1 v2 → 
  (v1 ≤ 9223372036854775807 →
  (¬ (v4 = 0) →
    (0 : Int) = vuV v0 v1 v2 v3 ∧ (8 : Int) = vuE v0 v1 v2 v3 ∧ True) ∧
  (¬ (¬ (v4 = 0)) →
    ((v3 < 0 ∨ v1 ≤ v3) →
      (0 : Int) = vuV v0 v1 v2 v3 ∧ (2 : Int) = vuE v0 v1 v2 v3 ∧ True) ∧
    (¬ ((v3 < 0 ∨ v1 ≤ v3)) →
      0 ≤ v3 ∧ (0 ≤ v3 →
      v3 < v1 ∧ (v3 < v1 →
      (okZ (v0 v3 0) (v0 v3 1) (v0 v3 2) (v0 v3 3) (!(decide ((v0 v3 4) = 0))) = true) ∧ (∀ (v5 : Int), v5 = vlA (v0 v3 0) (v0 v3 3) → 
      v5 = vuV v0 v1 v2 v3 ∧ (0 : Int) = vuE v0 v1 v2 v3 ∧ True))))))))
/-! cmp.Compare[int] -/
def sig37 : CSig := ⟨[⟨false, [.int .i64]⟩, ⟨false, [.int .i64]⟩], [⟨false, [.int .i64]⟩]⟩
def pre37 : List AV → Prop
  | [.i v0, .i v1] => True
  | _ => False
noncomputable def raw37 : List AV → List AV
  | [.i v0, .i v1] => [.i (cmpA v0 v1)]
  | _ => []

def VC37 : Prop :=
  ∀ (v0 : Int) (v1 : Int),
  (True) →
  (¬ (v0 = v0) →
    (¬ (v1 = v1) →
      (0 : Int) = cmpA v0 v1 ∧ True) ∧
    (¬ (¬ (v1 = v1)) →
      (-1 : Int) = cmpA v0 v1 ∧ True)) ∧
  (¬ (¬ (v0 = v0)) →
    (¬ (v1 = v1) →
      (1 : Int) = cmpA v0 v1 ∧ True) ∧
    (¬ (¬ (v1 = v1)) →
      (v0 < v1 →
        (-1 : Int) = cmpA v0 v1 ∧ True) ∧
      (¬ (v0 < v1) →
        (v1 < v0 →
          (1 : Int) = cmpA v0 v1 ∧ True) ∧
        (¬ (v1 < v0) →
          (0 : Int) = cmpA v0 v1 ∧ True))))
/-! cmp.Or[int] -/
def sig41 : CSig := ⟨[⟨false, [.slc [.int .i64]]⟩], [⟨false, [.int .i64]⟩]⟩
def pre41 : List AV → Prop
  | [.a v0, .i v1] => v1 = 2
  | _ => False
noncomputable def raw41 : List AV → List AV
  | [.a v0, .i v1] => [.i (or2 v0)]
  | _ => []

def VC41 : Prop :=
  ∀ (v0 : Int → Nat → Int) (v1 : Int),
  (v1 = 2) →
  (0 ≤ v1 →
  ∃ (I0 : (Int) → Prop) (μ0 : (Int) → Nat), I0 (0 : Int) ∧ (∀ (v2 : Int), I0 v2 →
    (v1 ≤ 9223372036854775807 →
    (v2 < v1 →
      0 ≤ v2 ∧ (0 ≤ v2 →
      (¬ ((v0 v2 0) = 0) →
        (v0 v2 0) = or2 v0 ∧ True) ∧
      (¬ (¬ ((v0 v2 0) = 0)) →
        (-9223372036854775808 ≤ (v2 + 1) ∧ (v2 + 1) ≤ 9223372036854775807) ∧ ((-9223372036854775808 ≤ (v2 + 1) ∧ (v2 + 1) ≤ 9223372036854775807) →
        I0 (v2 + 1) ∧ μ0 (v2 + 1) < μ0 v2)))) ∧
    (¬ (v2 < v1) →
      (0 : Int) = or2 v0 ∧ True))))
/-! adapt.Chain -/
def sig20 : CSig := ⟨[⟨true, [.slc [.int .i64, .int .i64, .int .i64, .int .i64, .bool], .int .i64]⟩], [⟨true, [.int .i64, .int .i64, .int .i64, .int .i64]⟩, ⟨false, [.int .i64]⟩]⟩
def pre20 : List AV → Prop
  | [.a v0, .i v1, .i v2] => True
  | _ => False
noncomputable def raw20 : List AV → List AV
  | [.a v0, .i v1, .i v2] => [.i (ch0 v0 v1 v2), .i (ch1 v0 v1 v2), .i (ch2 v0 v1 v2), .i (ch3 v0 v1 v2), .i (ckA v0 v1 v2)]
  | _ => []

def VC20 : Prop :=
  ∀ (v0 : Int → Nat → Int) (v1 : Int) (v2 : Int),
  (True) →
  (0 ≤ v1 →
  (True) ∧ (∀ (v3 : Int), v3 = ckA v0 v1 v2 → 
  (v1 ≤ 9223372036854775807 →
  (¬ (v3 = 0) →
    (0 : Int) = ch0 v0 v1 v2 ∧ (0 : Int) = ch1 v0 v1 v2 ∧ (0 : Int) = ch2 v0 v1 v2 ∧ (0 : Int) = ch3 v0 v1 v2 ∧ v3 = ckA v0 v1 v2 ∧ True) ∧
  (¬ (¬ (v3 = 0)) →
    ∃ (I0 : (Int) → (Int) → Prop) (μ0 : (Int) → (Int) → Nat), I0 (0 : Int) (-1 : Int) ∧ (∀ (v4 : Int) (v5 : Int), I0 v4 v5 →
      (v4 < v1 →
        0 ≤ v4 ∧ (0 ≤ v4 →
        (¬ ((¬ (v4 = (-1)) ∧ ¬ (v5 < 0))) ∨ 0 ≤ v5) ∧ ((¬ ((¬ (v4 = (-1)) ∧ ¬ (v5 < 0))) ∨ 0 ≤ v5) →
        (¬ ((¬ (v4 = (-1)) ∧ ¬ (v5 < 0))) ∨ v5 < v1) ∧ ((¬ ((¬ (v4 = (-1)) ∧ ¬ (v5 < 0))) ∨ v5 < v1) →
        (¬ ((¬ (v4 = (-1)) ∧ ¬ (v5 < 0))) ∨ 0 ≤ v5) ∧ ((¬ ((¬ (v4 = (-1)) ∧ ¬ (v5 < 0))) ∨ 0 ≤ v5) →
        (¬ ((¬ (v4 = (-1)) ∧ ¬ (v5 < 0))) ∨ v5 < v1) ∧ ((¬ ((¬ (v4 = (-1)) ∧ ¬ (v5 < 0))) ∨ v5 < v1) →
        ((¬ (v4 = (-1)) ∧ ¬ (v5 < 0)) →
          (okZ (v0 v4 0) (v0 v4 1) (v0 v4 2) (v0 v4 3) (!(decide ((v0 v4 4) = 0))) = true) ∧ (∀ (v6 : Int), v6 = vlA (v0 v4 0) (v0 v4 3) → 
          (okZ (v0 v5 0) (v0 v5 1) (v0 v5 2) (v0 v5 3) (!(decide ((v0 v5 4) = 0))) = true) ∧ (∀ (v7 : Int), v7 = vlA (v0 v5 0) (v0 v5 3) → 
          (True) ∧ (∀ (v8 : Int), v8 = cmpA v6 v7 → 
          (True) ∧ (∀ (v9 : Int), v9 = cmpA (v0 v5 0) (v0 v4 0) → 
          ((2 : Int) = 2) ∧ (∀ (v10 : Int), v10 = or2 (setA (setA zA 0 0 v8) 1 0 v9) → 
          (0 < v10 →
            (-9223372036854775808 ≤ (v4 + 1) ∧ (v4 + 1) ≤ 9223372036854775807) ∧ ((-9223372036854775808 ≤ (v4 + 1) ∧ (v4 + 1) ≤ 9223372036854775807) →
            I0 (v4 + 1) v4 ∧ μ0 (v4 + 1) v4 < μ0 v4 v5)) ∧
          (¬ (0 < v10) →
            (-9223372036854775808 ≤ (v4 + 1) ∧ (v4 + 1) ≤ 9223372036854775807) ∧ ((-9223372036854775808 ≤ (v4 + 1) ∧ (v4 + 1) ≤ 9223372036854775807) →
            I0 (v4 + 1) v5 ∧ μ0 (v4 + 1) v5 < μ0 v4 v5)))))))) ∧
        (¬ ((¬ (v4 = (-1)) ∧ ¬ (v5 < 0))) →
          (¬ (v4 = (-1)) →
            (-9223372036854775808 ≤ (v4 + 1) ∧ (v4 + 1) ≤ 9223372036854775807) ∧ ((-9223372036854775808 ≤ (v4 + 1) ∧ (v4 + 1) ≤ 9223372036854775807) →
            I0 (v4 + 1) v4 ∧ μ0 (v4 + 1) v4 < μ0 v4 v5)) ∧
          (¬ (¬ (v4 = (-1))) →
            (-9223372036854775808 ≤ (v4 + 1) ∧ (v4 + 1) ≤ 9223372036854775807) ∧ ((-9223372036854775808 ≤ (v4 + 1) ∧ (v4 + 1) ≤ 9223372036854775807) →
            I0 (v4 + 1) v5 ∧ μ0 (v4 + 1) v5 < μ0 v4 v5))))))))) ∧
      (¬ (v4 < v1) →
        ∃ (I1 : (Int) → (Int) → Prop) (μ1 : (Int) → (Int) → Nat), I1 (0 : Int) (-1 : Int) ∧ (∀ (v6 : Int) (v7 : Int), I1 v6 v7 →
          (v6 < v1 →
            0 ≤ v6 ∧ (0 ≤ v6 →
            (¬ ((¬ (v6 = v5) ∧ ¬ (v7 < 0))) ∨ 0 ≤ v7) ∧ ((¬ ((¬ (v6 = v5) ∧ ¬ (v7 < 0))) ∨ 0 ≤ v7) →
            (¬ ((¬ (v6 = v5) ∧ ¬ (v7 < 0))) ∨ v7 < v1) ∧ ((¬ ((¬ (v6 = v5) ∧ ¬ (v7 < 0))) ∨ v7 < v1) →
            (¬ ((¬ (v6 = v5) ∧ ¬ (v7 < 0))) ∨ 0 ≤ v7) ∧ ((¬ ((¬ (v6 = v5) ∧ ¬ (v7 < 0))) ∨ 0 ≤ v7) →
            (¬ ((¬ (v6 = v5) ∧ ¬ (v7 < 0))) ∨ v7 < v1) ∧ ((¬ ((¬ (v6 = v5) ∧ ¬ (v7 < 0))) ∨ v7 < v1) →
            ((¬ (v6 = v5) ∧ ¬ (v7 < 0)) →
              (okZ (v0 v6 0) (v0 v6 1) (v0 v6 2) (v0 v6 3) (!(decide ((v0 v6 4) = 0))) = true) ∧ (∀ (v8 : Int), v8 = vlA (v0 v6 0) (v0 v6 3) → 
              (okZ (v0 v7 0) (v0 v7 1) (v0 v7 2) (v0 v7 3) (!(decide ((v0 v7 4) = 0))) = true) ∧ (∀ (v9 : Int), v9 = vlA (v0 v7 0) (v0 v7 3) → 
              (True) ∧ (∀ (v10 : Int), v10 = cmpA v8 v9 → 
              (True) ∧ (∀ (v11 : Int), v11 = cmpA (v0 v7 0) (v0 v6 0) → 
              ((2 : Int) = 2) ∧ (∀ (v12 : Int), v12 = or2 (setA (setA zA 0 0 v10) 1 0 v11) → 
              (0 < v12 →
                (-9223372036854775808 ≤ (v6 + 1) ∧ (v6 + 1) ≤ 9223372036854775807) ∧ ((-9223372036854775808 ≤ (v6 + 1) ∧ (v6 + 1) ≤ 9223372036854775807) →
                I1 (v6 + 1) v6 ∧ μ1 (v6 + 1) v6 < μ1 v6 v7)) ∧
              (¬ (0 < v12) →
                (-9223372036854775808 ≤ (v6 + 1) ∧ (v6 + 1) ≤ 9223372036854775807) ∧ ((-9223372036854775808 ≤ (v6 + 1) ∧ (v6 + 1) ≤ 9223372036854775807) →
                I1 (v6 + 1) v7 ∧ μ1 (v6 + 1) v7 < μ1 v6 v7)))))))) ∧
            (¬ ((¬ (v6 = v5) ∧ ¬ (v7 < 0))) →
              (¬ (v6 = v5) →
                (-9223372036854775808 ≤ (v6 + 1) ∧ (v6 + 1) ≤ 9223372036854775807) ∧ ((-9223372036854775808 ≤ (v6 + 1) ∧ (v6 + 1) ≤ 9223372036854775807) →
                I1 (v6 + 1) v6 ∧ μ1 (v6 + 1) v6 < μ1 v6 v7)) ∧
              (¬ (¬ (v6 = v5)) →
                (-9223372036854775808 ≤ (v6 + 1) ∧ (v6 + 1) ≤ 9223372036854775807) ∧ ((-9223372036854775808 ≤ (v6 + 1) ∧ (v6 + 1) ≤ 9223372036854775807) →
                I1 (v6 + 1) v7 ∧ μ1 (v6 + 1) v7 < μ1 v6 v7))))))))) ∧
          (¬ (v6 < v1) →
            (v7 < 0 →
              ∃ (I2 : (Int) → (Int) → Prop) (μ2 : (Int) → (Int) → Nat), I2 (0 : Int) (-1 : Int) ∧ (∀ (v8 : Int) (v9 : Int), I2 v8 v9 →
                (v8 < v1 →
                  0 ≤ v8 ∧ (0 ≤ v8 →
                  (¬ ((¬ (v8 = (-1)) ∧ ¬ (v9 < 0))) ∨ 0 ≤ v9) ∧ ((¬ ((¬ (v8 = (-1)) ∧ ¬ (v9 < 0))) ∨ 0 ≤ v9) →
                  (¬ ((¬ (v8 = (-1)) ∧ ¬ (v9 < 0))) ∨ v9 < v1) ∧ ((¬ ((¬ (v8 = (-1)) ∧ ¬ (v9 < 0))) ∨ v9 < v1) →
                  (¬ ((¬ (v8 = (-1)) ∧ ¬ (v9 < 0))) ∨ 0 ≤ v9) ∧ ((¬ ((¬ (v8 = (-1)) ∧ ¬ (v9 < 0))) ∨ 0 ≤ v9) →
                  (¬ ((¬ (v8 = (-1)) ∧ ¬ (v9 < 0))) ∨ v9 < v1) ∧ ((¬ ((¬ (v8 = (-1)) ∧ ¬ (v9 < 0))) ∨ v9 < v1) →
                  ((¬ (v8 = (-1)) ∧ ¬ (v9 < 0)) →
                    (True) ∧ (∀ (v10 : Int), v10 = cmpA (v0 v8 3) (v0 v9 3) → 
                    (True) ∧ (∀ (v11 : Int), v11 = cmpA (v0 v9 0) (v0 v8 0) → 
                    ((2 : Int) = 2) ∧ (∀ (v12 : Int), v12 = or2 (setA (setA zA 0 0 v10) 1 0 v11) → 
                    (0 < v12 →
                      (-9223372036854775808 ≤ (v8 + 1) ∧ (v8 + 1) ≤ 9223372036854775807) ∧ ((-9223372036854775808 ≤ (v8 + 1) ∧ (v8 + 1) ≤ 9223372036854775807) →
                      I2 (v8 + 1) v8 ∧ μ2 (v8 + 1) v8 < μ2 v8 v9)) ∧
                    (¬ (0 < v12) →
                      (-9223372036854775808 ≤ (v8 + 1) ∧ (v8 + 1) ≤ 9223372036854775807) ∧ ((-9223372036854775808 ≤ (v8 + 1) ∧ (v8 + 1) ≤ 9223372036854775807) →
                      I2 (v8 + 1) v9 ∧ μ2 (v8 + 1) v9 < μ2 v8 v9)))))) ∧
                  (¬ ((¬ (v8 = (-1)) ∧ ¬ (v9 < 0))) →
                    (¬ (v8 = (-1)) →
                      (-9223372036854775808 ≤ (v8 + 1) ∧ (v8 + 1) ≤ 9223372036854775807) ∧ ((-9223372036854775808 ≤ (v8 + 1) ∧ (v8 + 1) ≤ 9223372036854775807) →
                      I2 (v8 + 1) v8 ∧ μ2 (v8 + 1) v8 < μ2 v8 v9)) ∧
                    (¬ (¬ (v8 = (-1))) →
                      (-9223372036854775808 ≤ (v8 + 1) ∧ (v8 + 1) ≤ 9223372036854775807) ∧ ((-9223372036854775808 ≤ (v8 + 1) ∧ (v8 + 1) ≤ 9223372036854775807) →
                      I2 (v8 + 1) v9 ∧ μ2 (v8 + 1) v9 < μ2 v8 v9))))))))) ∧
                (¬ (v8 < v1) →
                  ∃ (I3 : (Int) → (Int) → Prop) (μ3 : (Int) → (Int) → Nat), I3 (0 : Int) (-1 : Int) ∧ (∀ (v10 : Int) (v11 : Int), I3 v10 v11 →
                    (v10 < v1 →
                      0 ≤ v10 ∧ (0 ≤ v10 →
                      (¬ ((¬ (v10 = (-1)) ∧ ¬ (v11 < 0))) ∨ 0 ≤ v11) ∧ ((¬ ((¬ (v10 = (-1)) ∧ ¬ (v11 < 0))) ∨ 0 ≤ v11) →
                      (¬ ((¬ (v10 = (-1)) ∧ ¬ (v11 < 0))) ∨ v11 < v1) ∧ ((¬ ((¬ (v10 = (-1)) ∧ ¬ (v11 < 0))) ∨ v11 < v1) →
                      (¬ ((¬ (v10 = (-1)) ∧ ¬ (v11 < 0))) ∨ 0 ≤ v11) ∧ ((¬ ((¬ (v10 = (-1)) ∧ ¬ (v11 < 0))) ∨ 0 ≤ v11) →
                      (¬ ((¬ (v10 = (-1)) ∧ ¬ (v11 < 0))) ∨ v11 < v1) ∧ ((¬ ((¬ (v10 = (-1)) ∧ ¬ (v11 < 0))) ∨ v11 < v1) →
                      ((¬ (v10 = (-1)) ∧ ¬ (v11 < 0)) →
                        (True) ∧ (∀ (v12 : Int), v12 = cmpA (v0 v10 0) (v0 v11 0) → 
                        (0 < v12 →
                          (-9223372036854775808 ≤ (v10 + 1) ∧ (v10 + 1) ≤ 9223372036854775807) ∧ ((-9223372036854775808 ≤ (v10 + 1) ∧ (v10 + 1) ≤ 9223372036854775807) →
                          I3 (v10 + 1) v10 ∧ μ3 (v10 + 1) v10 < μ3 v10 v11)) ∧
                        (¬ (0 < v12) →
                          (-9223372036854775808 ≤ (v10 + 1) ∧ (v10 + 1) ≤ 9223372036854775807) ∧ ((-9223372036854775808 ≤ (v10 + 1) ∧ (v10 + 1) ≤ 9223372036854775807) →
                          I3 (v10 + 1) v11 ∧ μ3 (v10 + 1) v11 < μ3 v10 v11)))) ∧
                      (¬ ((¬ (v10 = (-1)) ∧ ¬ (v11 < 0))) →
                        (¬ (v10 = (-1)) →
                          (-9223372036854775808 ≤ (v10 + 1) ∧ (v10 + 1) ≤ 9223372036854775807) ∧ ((-9223372036854775808 ≤ (v10 + 1) ∧ (v10 + 1) ≤ 9223372036854775807) →
                          I3 (v10 + 1) v10 ∧ μ3 (v10 + 1) v10 < μ3 v10 v11)) ∧
                        (¬ (¬ (v10 = (-1))) →
                          (-9223372036854775808 ≤ (v10 + 1) ∧ (v10 + 1) ≤ 9223372036854775807) ∧ ((-9223372036854775808 ≤ (v10 + 1) ∧ (v10 + 1) ≤ 9223372036854775807) →
                          I3 (v10 + 1) v11 ∧ μ3 (v10 + 1) v11 < μ3 v10 v11))))))))) ∧
                    (¬ (v10 < v1) →
                      v5 = ch0 v0 v1 v2 ∧ v5 = ch1 v0 v1 v2 ∧ v9 = ch2 v0 v1 v2 ∧ v11 = ch3 v0 v1 v2 ∧ (0 : Int) = ckA v0 v1 v2 ∧ True))))) ∧
            (¬ (v7 < 0) →
              ∃ (I2 : (Int) → (Int) → Prop) (μ2 : (Int) → (Int) → Nat), I2 (0 : Int) (-1 : Int) ∧ (∀ (v8 : Int) (v9 : Int), I2 v8 v9 →
                (v8 < v1 →
                  0 ≤ v8 ∧ (0 ≤ v8 →
                  (¬ ((¬ (v8 = (-1)) ∧ ¬ (v9 < 0))) ∨ 0 ≤ v9) ∧ ((¬ ((¬ (v8 = (-1)) ∧ ¬ (v9 < 0))) ∨ 0 ≤ v9) →
                  (¬ ((¬ (v8 = (-1)) ∧ ¬ (v9 < 0))) ∨ v9 < v1) ∧ ((¬ ((¬ (v8 = (-1)) ∧ ¬ (v9 < 0))) ∨ v9 < v1) →
                  (¬ ((¬ (v8 = (-1)) ∧ ¬ (v9 < 0))) ∨ 0 ≤ v9) ∧ ((¬ ((¬ (v8 = (-1)) ∧ ¬ (v9 < 0))) ∨ 0 ≤ v9) →
                  (¬ ((¬ (v8 = (-1)) ∧ ¬ (v9 < 0))) ∨ v9 < v1) ∧ ((¬ ((¬ (v8 = (-1)) ∧ ¬ (v9 < 0))) ∨ v9 < v1) →
                  ((¬ (v8 = (-1)) ∧ ¬ (v9 < 0)) →
                    (True) ∧ (∀ (v10 : Int), v10 = cmpA (v0 v8 3) (v0 v9 3) → 
                    (True) ∧ (∀ (v11 : Int), v11 = cmpA (v0 v9 0) (v0 v8 0) → 
                    ((2 : Int) = 2) ∧ (∀ (v12 : Int), v12 = or2 (setA (setA zA 0 0 v10) 1 0 v11) → 
                    (0 < v12 →
                      (-9223372036854775808 ≤ (v8 + 1) ∧ (v8 + 1) ≤ 9223372036854775807) ∧ ((-9223372036854775808 ≤ (v8 + 1) ∧ (v8 + 1) ≤ 9223372036854775807) →
                      I2 (v8 + 1) v8 ∧ μ2 (v8 + 1) v8 < μ2 v8 v9)) ∧
                    (¬ (0 < v12) →
                      (-9223372036854775808 ≤ (v8 + 1) ∧ (v8 + 1) ≤ 9223372036854775807) ∧ ((-9223372036854775808 ≤ (v8 + 1) ∧ (v8 + 1) ≤ 9223372036854775807) →
                      I2 (v8 + 1) v9 ∧ μ2 (v8 + 1) v9 < μ2 v8 v9)))))) ∧
                  (¬ ((¬ (v8 = (-1)) ∧ ¬ (v9 < 0))) →
                    (¬ (v8 = (-1)) →
                      (-9223372036854775808 ≤ (v8 + 1) ∧ (v8 + 1) ≤ 9223372036854775807) ∧ ((-9223372036854775808 ≤ (v8 + 1) ∧ (v8 + 1) ≤ 9223372036854775807) →
                      I2 (v8 + 1) v8 ∧ μ2 (v8 + 1) v8 < μ2 v8 v9)) ∧
                    (¬ (¬ (v8 = (-1))) →
                      (-9223372036854775808 ≤ (v8 + 1) ∧ (v8 + 1) ≤ 9223372036854775807) ∧ ((-9223372036854775808 ≤ (v8 + 1) ∧ (v8 + 1) ≤ 9223372036854775807) →
                      I2 (v8 + 1) v9 ∧ μ2 (v8 + 1) v9 < μ2 v8 v9))))))))) ∧
                (¬ (v8 < v1) →
                  ∃ (I3 : (Int) → (Int) → Prop) (μ3 : (Int) → (Int) → Nat), I3 (0 : Int) (-1 : Int) ∧ (∀ (v10 : Int) (v11 : Int), I3 v10 v11 →
                    (v10 < v1 →
                      0 ≤ v10 ∧ (0 ≤ v10 →
                      (¬ ((¬ (v10 = (-1)) ∧ ¬ (v11 < 0))) ∨ 0 ≤ v11) ∧ ((¬ ((¬ (v10 = (-1)) ∧ ¬ (v11 < 0))) ∨ 0 ≤ v11) →
                      (¬ ((¬ (v10 = (-1)) ∧ ¬ (v11 < 0))) ∨ v11 < v1) ∧ ((¬ ((¬ (v10 = (-1)) ∧ ¬ (v11 < 0))) ∨ v11 < v1) →
                      (¬ ((¬ (v10 = (-1)) ∧ ¬ (v11 < 0))) ∨ 0 ≤ v11) ∧ ((¬ ((¬ (v10 = (-1)) ∧ ¬ (v11 < 0))) ∨ 0 ≤ v11) →
                      (¬ ((¬ (v10 = (-1)) ∧ ¬ (v11 < 0))) ∨ v11 < v1) ∧ ((¬ ((¬ (v10 = (-1)) ∧ ¬ (v11 < 0))) ∨ v11 < v1) →
                      ((¬ (v10 = (-1)) ∧ ¬ (v11 < 0)) →
                        (True) ∧ (∀ (v12 : Int), v12 = cmpA (v0 v10 0) (v0 v11 0) → 
                        (0 < v12 →
                          (-9223372036854775808 ≤ (v10 + 1) ∧ (v10 + 1) ≤ 9223372036854775807) ∧ ((-9223372036854775808 ≤ (v10 + 1) ∧ (v10 + 1) ≤ 9223372036854775807) →
                          I3 (v10 + 1) v10 ∧ μ3 (v10 + 1) v10 < μ3 v10 v11)) ∧
                        (¬ (0 < v12) →
                          (-9223372036854775808 ≤ (v10 + 1) ∧ (v10 + 1) ≤ 9223372036854775807) ∧ ((-9223372036854775808 ≤ (v10 + 1) ∧ (v10 + 1) ≤ 9223372036854775807) →
                          I3 (v10 + 1) v11 ∧ μ3 (v10 + 1) v11 < μ3 v10 v11)))) ∧
                      (¬ ((¬ (v10 = (-1)) ∧ ¬ (v11 < 0))) →
                        (¬ (v10 = (-1)) →
                          (-9223372036854775808 ≤ (v10 + 1) ∧ (v10 + 1) ≤ 9223372036854775807) ∧ ((-9223372036854775808 ≤ (v10 + 1) ∧ (v10 + 1) ≤ 9223372036854775807) →
                          I3 (v10 + 1) v10 ∧ μ3 (v10 + 1) v10 < μ3 v10 v11)) ∧
                        (¬ (¬ (v10 = (-1))) →
                          (-9223372036854775808 ≤ (v10 + 1) ∧ (v10 + 1) ≤ 9223372036854775807) ∧ ((-9223372036854775808 ≤ (v10 + 1) ∧ (v10 + 1) ≤ 9223372036854775807) →
                          I3 (v10 + 1) v11 ∧ μ3 (v10 + 1) v11 < μ3 v10 v11))))))))) ∧
                    (¬ (v10 < v1) →
                      v5 = ch0 v0 v1 v2 ∧ v7 = ch1 v0 v1 v2 ∧ v9 = ch2 v0 v1 v2 ∧ v11 = ch3 v0 v1 v2 ∧ (0 : Int) = ckA v0 v1 v2 ∧ True)))))))))))))
/-! hotspotref42.ahead -/
def sig38 : CSig := ⟨[⟨true, [.slc [.int .i64, .int .i64, .int .i64, .int .i64, .bool], .int .i64]⟩, ⟨false, [.int .i64]⟩, ⟨false, [.int .i64]⟩, ⟨false, [.int .i64]⟩, ⟨false, [.int .i64]⟩], [⟨false, [.bool]⟩]⟩
def pre38 : List AV → Prop
  | [.a v0, .i v1, .i v2, .i v3, .i v4, .i v5, .i v6] => 0 ≤ v3 ∧ v3 < v1 ∧ 0 ≤ v4 ∧ v4 < v1
  | _ => False
noncomputable def raw38 : List AV → List AV
  | [.a v0, .i v1, .i v2, .i v3, .i v4, .i v5, .i v6] => [.b (ahA v0 v3 v4 v5 v6)]
  | _ => []

def VC38 : Prop :=
  ∀ (v0 : Int → Nat → Int) (v1 : Int) (v2 : Int) (v3 : Int) (v4 : Int) (v5 : Int) (v6 : Int),
  (0 ≤ v3 ∧ v3 < v1 ∧ 0 ≤ v4 ∧ v4 < v1) →
  (0 ≤ v1 →
  (v1 ≤ 9223372036854775807 →
  (¬ (v5 = v6) →
    (v6 < v5 ↔ ahA v0 v3 v4 v5 v6 = true) ∧ True) ∧
  (¬ (¬ (v5 = v6)) →
    0 ≤ v3 ∧ (0 ≤ v3 →
    v3 < v1 ∧ (v3 < v1 →
    0 ≤ v4 ∧ (0 ≤ v4 →
    v4 < v1 ∧ (v4 < v1 →
    (¬ ((v0 v3 0) = (v0 v4 0)) →
      ((v0 v3 0) < (v0 v4 0) ↔ ahA v0 v3 v4 v5 v6 = true) ∧ True) ∧
    (¬ (¬ ((v0 v3 0) = (v0 v4 0))) →
      (v3 < v4 ↔ ahA v0 v3 v4 v5 v6 = true) ∧ True))))))))
/-! hotspotref42.Chain -/
def sig21 : CSig := ⟨[⟨true, [.slc [.int .i64, .int .i64, .int .i64, .int .i64, .bool], .int .i64]⟩], [⟨true, [.int .i64, .int .i64, .int .i64, .int .i64]⟩, ⟨false, [.int .i64]⟩]⟩
def pre21 : List AV → Prop
  | [.a v0, .i v1, .i v2] => True
  | _ => False
noncomputable def raw21 : List AV → List AV
  | [.a v0, .i v1, .i v2] => [.i (ch0 v0 v1 v2), .i (ch1 v0 v1 v2), .i (ch2 v0 v1 v2), .i (ch3 v0 v1 v2), .i (ckA v0 v1 v2)]
  | _ => []

def VC21 : Prop :=
  ∀ (v0 : Int → Nat → Int) (v1 : Int) (v2 : Int),
  (True) →
  (0 ≤ v1 →
  (True) ∧ (∀ (v3 : Int), v3 = ckA v0 v1 v2 → 
  (v1 ≤ 9223372036854775807 →
  (¬ (v3 = 0) →
    (0 : Int) = ch0 v0 v1 v2 ∧ (0 : Int) = ch1 v0 v1 v2 ∧ (0 : Int) = ch2 v0 v1 v2 ∧ (0 : Int) = ch3 v0 v1 v2 ∧ (8 : Int) = ckA v0 v1 v2 ∧ True) ∧
  (¬ (¬ (v3 = 0)) →
    ∃ (I0 : (Int) → (Int) → (Int) → (Int) → Prop) (μ0 : (Int) → (Int) → (Int) → (Int) → Nat), I0 (0 : Int) (0 : Int) (0 : Int) (1 : Int) ∧ (∀ (v4 : Int) (v5 : Int) (v6 : Int) (v7 : Int), I0 v4 v5 v6 v7 →
      (v7 < v1 →
        0 ≤ v7 ∧ (0 ≤ v7 →
        (okZ (v0 v7 0) (v0 v7 1) (v0 v7 2) (v0 v7 3) (!(decide ((v0 v7 4) = 0))) = true) ∧ (∀ (v8 : Int), v8 = vlA (v0 v7 0) (v0 v7 3) → 
        0 ≤ v4 ∧ (0 ≤ v4 →
        v4 < v1 ∧ (v4 < v1 →
        (okZ (v0 v4 0) (v0 v4 1) (v0 v4 2) (v0 v4 3) (!(decide ((v0 v4 4) = 0))) = true) ∧ (∀ (v9 : Int), v9 = vlA (v0 v4 0) (v0 v4 3) → 
        (0 ≤ v7 ∧ v7 < v1 ∧ 0 ≤ v4 ∧ v4 < v1) ∧ (∀ (v10 : Bool), v10 = ahA v0 v7 v4 v8 v9 → 
        (v10 = true →
          0 ≤ v5 ∧ (0 ≤ v5 →
          v5 < v1 ∧ (v5 < v1 →
          (0 ≤ v7 ∧ v7 < v1 ∧ 0 ≤ v5 ∧ v5 < v1) ∧ (∀ (v11 : Bool), v11 = ahA v0 v7 v5 (v0 v7 3) (v0 v5 3) → 
          (v11 = true →
            0 ≤ v6 ∧ (0 ≤ v6 →
            v6 < v1 ∧ (v6 < v1 →
            ((v0 v6 0) < (v0 v7 0) →
              (-9223372036854775808 ≤ (v7 + 1) ∧ (v7 + 1) ≤ 9223372036854775807) ∧ ((-9223372036854775808 ≤ (v7 + 1) ∧ (v7 + 1) ≤ 9223372036854775807) →
              I0 v7 v7 v7 (v7 + 1) ∧ μ0 v7 v7 v7 (v7 + 1) < μ0 v4 v5 v6 v7)) ∧
            (¬ ((v0 v6 0) < (v0 v7 0)) →
              (-9223372036854775808 ≤ (v7 + 1) ∧ (v7 + 1) ≤ 9223372036854775807) ∧ ((-9223372036854775808 ≤ (v7 + 1) ∧ (v7 + 1) ≤ 9223372036854775807) →
              I0 v7 v7 v6 (v7 + 1) ∧ μ0 v7 v7 v6 (v7 + 1) < μ0 v4 v5 v6 v7))))) ∧
          (¬ (v11 = true) →
            0 ≤ v6 ∧ (0 ≤ v6 →
            v6 < v1 ∧ (v6 < v1 →
            ((v0 v6 0) < (v0 v7 0) →
              (-9223372036854775808 ≤ (v7 + 1) ∧ (v7 + 1) ≤ 9223372036854775807) ∧ ((-9223372036854775808 ≤ (v7 + 1) ∧ (v7 + 1) ≤ 9223372036854775807) →
              I0 v7 v5 v7 (v7 + 1) ∧ μ0 v7 v5 v7 (v7 + 1) < μ0 v4 v5 v6 v7)) ∧
            (¬ ((v0 v6 0) < (v0 v7 0)) →
              (-9223372036854775808 ≤ (v7 + 1) ∧ (v7 + 1) ≤ 9223372036854775807) ∧ ((-9223372036854775808 ≤ (v7 + 1) ∧ (v7 + 1) ≤ 9223372036854775807) →
              I0 v7 v5 v6 (v7 + 1) ∧ μ0 v7 v5 v6 (v7 + 1) < μ0 v4 v5 v6 v7))))))))) ∧
        (¬ (v10 = true) →
          0 ≤ v5 ∧ (0 ≤ v5 →
          v5 < v1 ∧ (v5 < v1 →
          (0 ≤ v7 ∧ v7 < v1 ∧ 0 ≤ v5 ∧ v5 < v1) ∧ (∀ (v11 : Bool), v11 = ahA v0 v7 v5 (v0 v7 3) (v0 v5 3) → 
          (v11 = true →
            0 ≤ v6 ∧ (0 ≤ v6 →
            v6 < v1 ∧ (v6 < v1 →
            ((v0 v6 0) < (v0 v7 0) →
              (-9223372036854775808 ≤ (v7 + 1) ∧ (v7 + 1) ≤ 9223372036854775807) ∧ ((-9223372036854775808 ≤ (v7 + 1) ∧ (v7 + 1) ≤ 9223372036854775807) →
              I0 v4 v7 v7 (v7 + 1) ∧ μ0 v4 v7 v7 (v7 + 1) < μ0 v4 v5 v6 v7)) ∧
            (¬ ((v0 v6 0) < (v0 v7 0)) →
              (-9223372036854775808 ≤ (v7 + 1) ∧ (v7 + 1) ≤ 9223372036854775807) ∧ ((-9223372036854775808 ≤ (v7 + 1) ∧ (v7 + 1) ≤ 9223372036854775807) →
              I0 v4 v7 v6 (v7 + 1) ∧ μ0 v4 v7 v6 (v7 + 1) < μ0 v4 v5 v6 v7))))) ∧
          (¬ (v11 = true) →
            0 ≤ v6 ∧ (0 ≤ v6 →
            v6 < v1 ∧ (v6 < v1 →
            ((v0 v6 0) < (v0 v7 0) →
              (-9223372036854775808 ≤ (v7 + 1) ∧ (v7 + 1) ≤ 9223372036854775807) ∧ ((-9223372036854775808 ≤ (v7 + 1) ∧ (v7 + 1) ≤ 9223372036854775807) →
              I0 v4 v5 v7 (v7 + 1) ∧ μ0 v4 v5 v7 (v7 + 1) < μ0 v4 v5 v6 v7)) ∧
            (¬ ((v0 v6 0) < (v0 v7 0)) →
              (-9223372036854775808 ≤ (v7 + 1) ∧ (v7 + 1) ≤ 9223372036854775807) ∧ ((-9223372036854775808 ≤ (v7 + 1) ∧ (v7 + 1) ≤ 9223372036854775807) →
              I0 v4 v5 v6 (v7 + 1) ∧ μ0 v4 v5 v6 (v7 + 1) < μ0 v4 v5 v6 v7)))))))))))))))) ∧
      (¬ (v7 < v1) →
        ∃ (I1 : (Int) → (Int) → (Int) → (Int) → Prop) (μ1 : (Int) → (Int) → (Int) → (Int) → Nat), I1 v4 v4 v4 (0 : Int) ∧ (∀ (v8 : Int) (v9 : Int) (v10 : Int) (v11 : Int), I1 v8 v9 v10 v11 →
          (v11 < v1 →
            (¬ ((¬ (v11 = v4) ∧ ¬ (v10 = v4))) ∨ 0 ≤ v11) ∧ ((¬ ((¬ (v11 = v4) ∧ ¬ (v10 = v4))) ∨ 0 ≤ v11) →
            (¬ ((¬ (v11 = v4) ∧ ¬ (v10 = v4))) ∨ 0 ≤ v11) ∧ ((¬ ((¬ (v11 = v4) ∧ ¬ (v10 = v4))) ∨ 0 ≤ v11) →
            (((¬ (v11 = v4) ∧ ¬ (v10 = v4)) → okZ (v0 v11 0) (v0 v11 1) (v0 v11 2) (v0 v11 3) (!(decide ((v0 v11 4) = 0))) = true)) ∧ (∀ (v12 : Int), v12 = vlA (v0 v11 0) (v0 v11 3) → 
            (¬ ((¬ (v11 = v4) ∧ ¬ (v10 = v4))) ∨ 0 ≤ v10) ∧ ((¬ ((¬ (v11 = v4) ∧ ¬ (v10 = v4))) ∨ 0 ≤ v10) →
            (¬ ((¬ (v11 = v4) ∧ ¬ (v10 = v4))) ∨ v10 < v1) ∧ ((¬ ((¬ (v11 = v4) ∧ ¬ (v10 = v4))) ∨ v10 < v1) →
            (¬ ((¬ (v11 = v4) ∧ ¬ (v10 = v4))) ∨ 0 ≤ v10) ∧ ((¬ ((¬ (v11 = v4) ∧ ¬ (v10 = v4))) ∨ 0 ≤ v10) →
            (¬ ((¬ (v11 = v4) ∧ ¬ (v10 = v4))) ∨ v10 < v1) ∧ ((¬ ((¬ (v11 = v4) ∧ ¬ (v10 = v4))) ∨ v10 < v1) →
            (((¬ (v11 = v4) ∧ ¬ (v10 = v4)) → okZ (v0 v10 0) (v0 v10 1) (v0 v10 2) (v0 v10 3) (!(decide ((v0 v10 4) = 0))) = true)) ∧ (∀ (v13 : Int), v13 = vlA (v0 v10 0) (v0 v10 3) → 
            (((¬ (v11 = v4) ∧ ¬ (v10 = v4)) → 0 ≤ v11 ∧ v11 < v1 ∧ 0 ≤ v10 ∧ v10 < v1)) ∧ (∀ (v14 : Bool), v14 = ahA v0 v11 v10 v12 v13 → 
            ((¬ (v11 = v4) ∧ (v10 = v4 ∨ v14 = true)) →
              (-9223372036854775808 ≤ (v11 + 1) ∧ (v11 + 1) ≤ 9223372036854775807) ∧ ((-9223372036854775808 ≤ (v11 + 1) ∧ (v11 + 1) ≤ 9223372036854775807) →
              I1 v11 v11 v11 (v11 + 1) ∧ μ1 v11 v11 v11 (v11 + 1) < μ1 v8 v9 v10 v11)) ∧
            (¬ ((¬ (v11 = v4) ∧ (v10 = v4 ∨ v14 = true))) →
              (-9223372036854775808 ≤ (v11 + 1) ∧ (v11 + 1) ≤ 9223372036854775807) ∧ ((-9223372036854775808 ≤ (v11 + 1) ∧ (v11 + 1) ≤ 9223372036854775807) →
              I1 v10 v10 v10 (v11 + 1) ∧ μ1 v10 v10 v10 (v11 + 1) < μ1 v8 v9 v10 v11)))))))))))) ∧
          (¬ (v11 < v1) →
            v4 = ch0 v0 v1 v2 ∧ v10 = ch1 v0 v1 v2 ∧ v5 = ch2 v0 v1 v2 ∧ v6 = ch3 v0 v1 v2 ∧ (0 : Int) = ckA v0 v1 v2 ∧ True))))))))
/-! adapt.Sample -/
def sig22 : CSig := ⟨[⟨true, [.slc [.int .i64, .int .i64, .int .i64, .int .i64, .bool], .int .i64]⟩, ⟨false, [.int .i64]⟩], [⟨false, [.int .i64]⟩, ⟨false, [.int .i64]⟩]⟩
def pre22 : List AV → Prop
  | [.a v0, .i v1, .i v2, .i v3] => True
  | _ => False
noncomputable def raw22 : List AV → List AV
  | [.a v0, .i v1, .i v2, .i v3] => [.i (saV v0 v1 v2 v3), .i (saE v0 v1 v2 v3)]
  | _ => []

def VC22 : Prop :=
  ∀ (v0 : Int → Nat → Int) (v1 : Int) (v2 : Int) (v3 : Int),
  (True) →
  (0 ≤ v1 →
  (True) ∧ (∀ (v4 : Int), v4 = ckA v0 v1 v2 → 
  (v1 ≤ 9223372036854775807 →
  (¬ (v4 = 0) →
    (0 : Int) = saV v0 v1 v2 v3 ∧ v4 = saE v0 v1 v2 v3 ∧ True) ∧
  (¬ (¬ (v4 = 0)) →
    (True) ∧ (∀ (v5 : Bool), v5 = decide ((0 : Int) ≤ v3 ∧ v3 ≤ (1099511627776 : Int)) → 
    (¬ (v5 = true) →
      (0 : Int) = saV v0 v1 v2 v3 ∧ (2 : Int) = saE v0 v1 v2 v3 ∧ True) ∧
    (¬ (¬ (v5 = true)) →
      (-9223372036854775808 ≤ (v3 + v2) ∧ (v3 + v2) ≤ 9223372036854775807) ∧ ((-9223372036854775808 ≤ (v3 + v2) ∧ (v3 + v2) ≤ 9223372036854775807) →
      ¬ (v1 = 0) ∧ (¬ (v1 = 0) →
      (Int.tmod (v3 + v2) v1) = saV v0 v1 v2 v3 ∧ (0 : Int) = saE v0 v1 v2 v3 ∧ True))))))))
/-! hotspotref42.Sample -/
def sig23 : CSig := ⟨[⟨true, [.slc [.int .i64, .int .i64, .int .i64, .int .i64, .bool], .int .i64]⟩, ⟨false, [.int .i64]⟩], [⟨false, [.int .i64]⟩, ⟨false, [.int .i64]⟩]⟩
def pre23 : List AV → Prop
  | [.a v0, .i v1, .i v2, .i v3] => True
  | _ => False
noncomputable def raw23 : List AV → List AV
  | [.a v0, .i v1, .i v2, .i v3] => [.i (saV v0 v1 v2 v3), .i (saE v0 v1 v2 v3)]
  | _ => []

def VC23 : Prop :=
  ∀ (v0 : Int → Nat → Int) (v1 : Int) (v2 : Int) (v3 : Int),
  (True) →
  (0 ≤ v1 →
  (True) ∧ (∀ (v4 : Int), v4 = ckA v0 v1 v2 → 
  (v1 ≤ 9223372036854775807 →
  (¬ (v4 = 0) →
    (0 : Int) = saV v0 v1 v2 v3 ∧ (8 : Int) = saE v0 v1 v2 v3 ∧ True) ∧
  (¬ (¬ (v4 = 0)) →
    (True) ∧ (∀ (v5 : Bool), v5 = decide ((0 : Int) ≤ v3 ∧ v3 ≤ (1099511627776 : Int)) → 
    (¬ (v5 = true) →
      (0 : Int) = saV v0 v1 v2 v3 ∧ (2 : Int) = saE v0 v1 v2 v3 ∧ True) ∧
    (¬ (¬ (v5 = true)) →
      (-9223372036854775808 ≤ (v3 + v2) ∧ (v3 + v2) ≤ 9223372036854775807) ∧ ((-9223372036854775808 ≤ (v3 + v2) ∧ (v3 + v2) ≤ 9223372036854775807) →
      ¬ (v1 = 0) ∧ (¬ (v1 = 0) →
      (Int.tmod (v3 + v2) v1) = saV v0 v1 v2 v3 ∧ (0 : Int) = saE v0 v1 v2 v3 ∧ True))))))))
/-! hotspotlaw42.AdaptTells -/
def sig4 : CSig := ⟨[⟨true, [.slc [.int .i64, .int .i64, .int .i64, .int .i64, .bool], .int .i64]⟩, ⟨false, [.int .i64]⟩, ⟨false, [.int .i64]⟩], [⟨false, [.bool]⟩]⟩
def pre4 : List AV → Prop
  | [.a v0, .i v1, .i v2, .i v3, .i v4] => True
  | _ => False
noncomputable def raw4 : List AV → List AV
  | [.a v0, .i v1, .i v2, .i v3, .i v4] => [.b (true)]
  | _ => []

def VC4 : Prop :=
  ∀ (v0 : Int → Nat → Int) (v1 : Int) (v2 : Int) (v3 : Int) (v4 : Int),
  (True) →
  (0 ≤ v1 →
  (v1 ≤ 9223372036854775807 →
  (20 < v1 →
    (True ↔ true = true) ∧ True) ∧
  (¬ (20 < v1) →
    (True) ∧ (∀ (v5 : Int) (v6 : Int), v5 = vuV v0 v1 v2 v3 → v6 = vuE v0 v1 v2 v3 → 
    (True) ∧ (∀ (v7 : Int) (v8 : Int), v7 = vuV v0 v1 v2 v3 → v8 = vuE v0 v1 v2 v3 → 
    (True) ∧ (∀ (v9 : Int) (v10 : Int) (v11 : Int) (v12 : Int) (v13 : Int), v9 = ch0 v0 v1 v2 → v10 = ch1 v0 v1 v2 → v11 = ch2 v0 v1 v2 → v12 = ch3 v0 v1 v2 → v13 = ckA v0 v1 v2 → 
    (True) ∧ (∀ (v14 : Int) (v15 : Int) (v16 : Int) (v17 : Int) (v18 : Int), v14 = ch0 v0 v1 v2 → v15 = ch1 v0 v1 v2 → v16 = ch2 v0 v1 v2 → v17 = ch3 v0 v1 v2 → v18 = ckA v0 v1 v2 → 
    (True) ∧ (∀ (v19 : Int) (v20 : Int), v19 = saV v0 v1 v2 v4 → v20 = saE v0 v1 v2 v4 → 
    (True) ∧ (∀ (v21 : Int) (v22 : Int), v21 = saV v0 v1 v2 v4 → v22 = saE v0 v1 v2 v4 → 
    (True) ∧ (∀ (v23 : Int), v23 = ckA v0 v1 v2 → 
    (True) ∧ (∀ (v24 : Int), v24 = ckA v0 v1 v2 → 
    (((((((v23 = v24 ∧ v5 = v7) ∧ v6 = v8) ∧ (v9 = v14 ∧ (v10 = v15 ∧ (v11 = v16 ∧ v12 = v17)))) ∧ v13 = v18) ∧ v19 = v21) ∧ v20 = v22) ↔ true = true) ∧ True)))))))))))
/-! hotspotlaw42.alive -/
def sig26 : CSig := ⟨[], [⟨false, [.bool]⟩]⟩
def pre26 : List AV → Prop
  | [] => True
  | _ => False
noncomputable def raw26 : List AV → List AV
  | [] => [.b (true)]
  | _ => []

def VC26 : Prop :=
  (True) →
  ((2 : Int) ≤ 1000) ∧ (∀ (v0 : Int → Nat → Int) (v1 : Int) (v2 : Int) (v3 : Int), v0 = nwA (setA (setA zA 0 0 1000) 1 0 400) → v1 = nwN (setA (setA zA 0 0 1000) 1 0 400) (2 : Int) → v2 = 0 → v3 = nwE (setA (setA zA 0 0 1000) 1 0 400) (2 : Int) → 
  (0 ≤ v1 →
  (True) ∧ (∀ (v4 : Int → Nat → Int) (v5 : Int) (v6 : Int) (v7 : Int), v4 = rpA v0 (0 : Int) (10 : Int) (10 : Int) → v5 = rpN v0 v1 v2 (0 : Int) (10 : Int) (10 : Int) → v6 = rpR v0 v1 v2 (0 : Int) (10 : Int) (10 : Int) → v7 = rpE v0 v1 v2 (0 : Int) (10 : Int) (10 : Int) → 
  (v1 ≤ 9223372036854775807 →
  (0 ≤ v5 →
  (True) ∧ (∀ (v8 : Int → Nat → Int) (v9 : Int) (v10 : Int) (v11 : Int), v8 = rpA v4 (1 : Int) (10 : Int) (3 : Int) → v9 = rpN v4 v5 v6 (1 : Int) (10 : Int) (3 : Int) → v10 = rpR v4 v5 v6 (1 : Int) (10 : Int) (3 : Int) → v11 = rpE v4 v5 v6 (1 : Int) (10 : Int) (3 : Int) → 
  (v5 ≤ 9223372036854775807 →
  (0 ≤ v9 →
  (True) ∧ (∀ (v12 : Int → Nat → Int) (v13 : Int) (v14 : Int) (v15 : Int), v12 = rdP v8 → v13 = rdN v8 v9 v10 → v14 = rdR v8 v9 v10 → v15 = rdE v8 v9 v10 → 
  (v9 ≤ 9223372036854775807 →
  (0 ≤ v13 →
  (True) ∧ (∀ (v16 : Int) (v17 : Int), v16 = vuV v12 v13 v14 (0 : Int) → v17 = vuE v12 v13 v14 (0 : Int) → 
  (v13 ≤ 9223372036854775807 →
  (True) ∧ (∀ (v18 : Int) (v19 : Int), v18 = vuV v12 v13 v14 (1 : Int) → v19 = vuE v12 v13 v14 (1 : Int) → 
  (True) ∧ (∀ (v20 : Int) (v21 : Int) (v22 : Int) (v23 : Int) (v24 : Int), v20 = ch0 v12 v13 v14 → v21 = ch1 v12 v13 v14 → v22 = ch2 v12 v13 v14 → v23 = ch3 v12 v13 v14 → v24 = ckA v12 v13 v14 → 
  ((((((((((v3 = 0 ∧ v7 = 0) ∧ v11 = 0) ∧ v15 = 0) ∧ v17 = 0) ∧ v16 = 100000) ∧ v19 = 0) ∧ v18 = 75000) ∧ v24 = 0) ∧ (v20 = 0 ∧ (v21 = 1 ∧ (v22 = 0 ∧ v23 = 0)))) ↔ true = true) ∧ True)))))))))))))))
/-! hotspotlaw42.AdaptBest -/
def sig5 : CSig := ⟨[⟨true, [.slc [.int .i64, .int .i64, .int .i64, .int .i64, .bool], .int .i64]⟩], [⟨false, [.bool]⟩]⟩
def pre5 : List AV → Prop
  | [.a v0, .i v1, .i v2] => True
  | _ => False
noncomputable def raw5 : List AV → List AV
  | [.a v0, .i v1, .i v2] => [.b (true)]
  | _ => []

def VC5 : Prop :=
  ∀ (v0 : Int → Nat → Int) (v1 : Int) (v2 : Int),
  (True) →
  (0 ≤ v1 →
  (True) ∧ (∀ (v3 : Bool), v3 = true → 
  (v1 ≤ 9223372036854775807 →
  ((20 < v1 ∨ ¬ (v3 = true)) →
    (v3 = true ↔ true = true) ∧ True) ∧
  (¬ ((20 < v1 ∨ ¬ (v3 = true))) →
    (True) ∧ (∀ (v4 : Int) (v5 : Int) (v6 : Int) (v7 : Int) (v8 : Int), v4 = ch0 v0 v1 v2 → v5 = ch1 v0 v1 v2 → v6 = ch2 v0 v1 v2 → v7 = ch3 v0 v1 v2 → v8 = ckA v0 v1 v2 → 
    (¬ (v8 = 0) →
      ((v3 = true ∧ (v4 = 0 ∧ (v5 = 0 ∧ (v6 = 0 ∧ v7 = 0)))) ↔ true = true) ∧ True) ∧
    (¬ (¬ (v8 = 0)) →
      ∃ (I0 : (Int) → Prop) (μ0 : (Int) → Nat), I0 (0 : Int) ∧ (∀ (v9 : Int), I0 v9 →
        (v9 < 4 →
          0 ≤ v9 ∧ (0 ≤ v9 →
          (((if (decide (v9 = 0)) = true then v4 else (if (decide (v9 = 1)) = true then v5 else (if (decide (v9 = 2)) = true then v6 else v7))) < 0 ∨ v1 ≤ (if (decide (v9 = 0)) = true then v4 else (if (decide (v9 = 1)) = true then v5 else (if (decide (v9 = 2)) = true then v6 else v7)))) →
            (False ↔ true = true) ∧ True) ∧
          (¬ (((if (decide (v9 = 0)) = true then v4 else (if (decide (v9 = 1)) = true then v5 else (if (decide (v9 = 2)) = true then v6 else v7))) < 0 ∨ v1 ≤ (if (decide (v9 = 0)) = true then v4 else (if (decide (v9 = 1)) = true then v5 else (if (decide (v9 = 2)) = true then v6 else v7))))) →
            (-9223372036854775808 ≤ (v9 + 1) ∧ (v9 + 1) ≤ 9223372036854775807) ∧ ((-9223372036854775808 ≤ (v9 + 1) ∧ (v9 + 1) ≤ 9223372036854775807) →
            I0 (v9 + 1) ∧ μ0 (v9 + 1) < μ0 v9)))) ∧
        (¬ (v9 < 4) →
          (True) ∧ (∀ (v10 : Int) (v11 : Int), v10 = vuV v0 v1 v2 v4 → v11 = vuE v0 v1 v2 v4 → 
          (True) ∧ (∀ (v12 : Int) (v13 : Int), v12 = vuV v0 v1 v2 v5 → v13 = vuE v0 v1 v2 v5 → 
          (((¬ (v11 = 0) ∨ ¬ (v13 = 0)) ∨ (1 < v1 ∧ v4 = v5)) →
            (False ↔ true = true) ∧ True) ∧
          (¬ (((¬ (v11 = 0) ∨ ¬ (v13 = 0)) ∨ (1 < v1 ∧ v4 = v5))) →
            ∃ (I1 : (Int) → Prop) (μ1 : (Int) → Nat), I1 (0 : Int) ∧ (∀ (v14 : Int), I1 v14 →
              (v14 < v1 →
                (True) ∧ (∀ (v15 : Int) (v16 : Int), v15 = vuV v0 v1 v2 v14 → v16 = vuE v0 v1 v2 v14 → 
                (((¬ (v16 = 0) ∨ v10 < v15) ∨ (¬ (v14 = v4) ∧ v12 < v15)) ∨ 0 ≤ v14) ∧ ((((¬ (v16 = 0) ∨ v10 < v15) ∨ (¬ (v14 = v4) ∧ v12 < v15)) ∨ 0 ≤ v14) →
                (((¬ (v16 = 0) ∨ v10 < v15) ∨ (¬ (v14 = v4) ∧ v12 < v15)) ∨ 0 ≤ v14) ∧ ((((¬ (v16 = 0) ∨ v10 < v15) ∨ (¬ (v14 = v4) ∧ v12 < v15)) ∨ 0 ≤ v14) →
                (((¬ (v16 = 0) ∨ v10 < v15) ∨ (¬ (v14 = v4) ∧ v12 < v15)) ∨ 0 ≤ v6) ∧ ((((¬ (v16 = 0) ∨ v10 < v15) ∨ (¬ (v14 = v4) ∧ v12 < v15)) ∨ 0 ≤ v6) →
                (((¬ (v16 = 0) ∨ v10 < v15) ∨ (¬ (v14 = v4) ∧ v12 < v15)) ∨ v6 < v1) ∧ ((((¬ (v16 = 0) ∨ v10 < v15) ∨ (¬ (v14 = v4) ∧ v12 < v15)) ∨ v6 < v1) →
                (((¬ (v16 = 0) ∨ v10 < v15) ∨ (¬ (v14 = v4) ∧ v12 < v15)) ∨ 0 ≤ v6) ∧ ((((¬ (v16 = 0) ∨ v10 < v15) ∨ (¬ (v14 = v4) ∧ v12 < v15)) ∨ 0 ≤ v6) →
                (((¬ (v16 = 0) ∨ v10 < v15) ∨ (¬ (v14 = v4) ∧ v12 < v15)) ∨ v6 < v1) ∧ ((((¬ (v16 = 0) ∨ v10 < v15) ∨ (¬ (v14 = v4) ∧ v12 < v15)) ∨ v6 < v1) →
                ((((¬ (v16 = 0) ∨ v10 < v15) ∨ (¬ (v14 = v4) ∧ v12 < v15)) ∨ (v0 v6 3) < (v0 v14 3)) ∨ 0 ≤ v14) ∧ (((((¬ (v16 = 0) ∨ v10 < v15) ∨ (¬ (v14 = v4) ∧ v12 < v15)) ∨ (v0 v6 3) < (v0 v14 3)) ∨ 0 ≤ v14) →
                ((((¬ (v16 = 0) ∨ v10 < v15) ∨ (¬ (v14 = v4) ∧ v12 < v15)) ∨ (v0 v6 3) < (v0 v14 3)) ∨ 0 ≤ v14) ∧ (((((¬ (v16 = 0) ∨ v10 < v15) ∨ (¬ (v14 = v4) ∧ v12 < v15)) ∨ (v0 v6 3) < (v0 v14 3)) ∨ 0 ≤ v14) →
                ((((¬ (v16 = 0) ∨ v10 < v15) ∨ (¬ (v14 = v4) ∧ v12 < v15)) ∨ (v0 v6 3) < (v0 v14 3)) ∨ 0 ≤ v7) ∧ (((((¬ (v16 = 0) ∨ v10 < v15) ∨ (¬ (v14 = v4) ∧ v12 < v15)) ∨ (v0 v6 3) < (v0 v14 3)) ∨ 0 ≤ v7) →
                ((((¬ (v16 = 0) ∨ v10 < v15) ∨ (¬ (v14 = v4) ∧ v12 < v15)) ∨ (v0 v6 3) < (v0 v14 3)) ∨ v7 < v1) ∧ (((((¬ (v16 = 0) ∨ v10 < v15) ∨ (¬ (v14 = v4) ∧ v12 < v15)) ∨ (v0 v6 3) < (v0 v14 3)) ∨ v7 < v1) →
                ((((¬ (v16 = 0) ∨ v10 < v15) ∨ (¬ (v14 = v4) ∧ v12 < v15)) ∨ (v0 v6 3) < (v0 v14 3)) ∨ 0 ≤ v7) ∧ (((((¬ (v16 = 0) ∨ v10 < v15) ∨ (¬ (v14 = v4) ∧ v12 < v15)) ∨ (v0 v6 3) < (v0 v14 3)) ∨ 0 ≤ v7) →
                ((((¬ (v16 = 0) ∨ v10 < v15) ∨ (¬ (v14 = v4) ∧ v12 < v15)) ∨ (v0 v6 3) < (v0 v14 3)) ∨ v7 < v1) ∧ (((((¬ (v16 = 0) ∨ v10 < v15) ∨ (¬ (v14 = v4) ∧ v12 < v15)) ∨ (v0 v6 3) < (v0 v14 3)) ∨ v7 < v1) →
                (((((¬ (v16 = 0) ∨ v10 < v15) ∨ (¬ (v14 = v4) ∧ v12 < v15)) ∨ (v0 v6 3) < (v0 v14 3)) ∨ (v0 v7 0) < (v0 v14 0)) →
                  (False ↔ true = true) ∧ True) ∧
                (¬ (((((¬ (v16 = 0) ∨ v10 < v15) ∨ (¬ (v14 = v4) ∧ v12 < v15)) ∨ (v0 v6 3) < (v0 v14 3)) ∨ (v0 v7 0) < (v0 v14 0))) →
                  (¬ (v15 = v10) ∨ 0 ≤ v14) ∧ ((¬ (v15 = v10) ∨ 0 ≤ v14) →
                  (¬ (v15 = v10) ∨ 0 ≤ v14) ∧ ((¬ (v15 = v10) ∨ 0 ≤ v14) →
                  (¬ (v15 = v10) ∨ 0 ≤ v4) ∧ ((¬ (v15 = v10) ∨ 0 ≤ v4) →
                  (¬ (v15 = v10) ∨ v4 < v1) ∧ ((¬ (v15 = v10) ∨ v4 < v1) →
                  (¬ (v15 = v10) ∨ 0 ≤ v4) ∧ ((¬ (v15 = v10) ∨ 0 ≤ v4) →
                  (¬ (v15 = v10) ∨ v4 < v1) ∧ ((¬ (v15 = v10) ∨ v4 < v1) →
                  ((v15 = v10 ∧ (v0 v14 0) < (v0 v4 0)) →
                    (False ↔ true = true) ∧ True) ∧
                  (¬ ((v15 = v10 ∧ (v0 v14 0) < (v0 v4 0))) →
                    (-9223372036854775808 ≤ (v14 + 1) ∧ (v14 + 1) ≤ 9223372036854775807) ∧ ((-9223372036854775808 ≤ (v14 + 1) ∧ (v14 + 1) ≤ 9223372036854775807) →
                    I1 (v14 + 1) ∧ μ1 (v14 + 1) < μ1 v14))))))))))))))))))))))) ∧
              (¬ (v14 < v1) →
                (v3 = true ↔ true = true) ∧ True)))))))))))))
/-! hotspotlaw42.AdaptRounds -/
def sig7 : CSig := ⟨[⟨true, [.slc [.int .i64, .int .i64, .int .i64, .int .i64, .bool], .int .i64]⟩], [⟨false, [.bool]⟩]⟩
def pre7 : List AV → Prop
  | [.a v0, .i v1, .i v2] => True
  | _ => False
noncomputable def raw7 : List AV → List AV
  | [.a v0, .i v1, .i v2] => [.b (true)]
  | _ => []

def VC7 : Prop :=
  ∀ (v0 : Int → Nat → Int) (v1 : Int) (v2 : Int),
  (True) →
  (0 ≤ v1 →
  (True) ∧ (∀ (v3 : Bool), v3 = true → 
  (v1 ≤ 9223372036854775807 →
  ((20 < v1 ∨ ¬ (v3 = true)) →
    (v3 = true ↔ true = true) ∧ True) ∧
  (¬ ((20 < v1 ∨ ¬ (v3 = true))) →
    (True) ∧ (∀ (v4 : Int → Nat → Int) (v5 : Int) (v6 : Int) (v7 : Int), v4 = rdP v0 → v5 = rdN v0 v1 v2 → v6 = rdR v0 v1 v2 → v7 = rdE v0 v1 v2 → 
    (0 ≤ v5 →
    (v5 ≤ 9223372036854775807 →
    (¬ (v7 = 0) →
      ((v3 = true → True)) ∧ (∀ (v8 : Bool), v8 = smA v4 v5 v6 zA (0 : Int) (0 : Int) → 
      ((v3 = true ∧ v8 = true) ↔ true = true) ∧ True)) ∧
    (¬ (¬ (v7 = 0)) →
      (True) ∧ (∀ (v8 : Int), v8 = ckA v4 v5 v6 → 
      (¬ (v8 = 0) ∨ (-9223372036854775808 ≤ (v2 + 1) ∧ (v2 + 1) ≤ 9223372036854775807)) ∧ ((¬ (v8 = 0) ∨ (-9223372036854775808 ≤ (v2 + 1) ∧ (v2 + 1) ≤ 9223372036854775807)) →
      (((¬ (v8 = 0) ∨ ¬ (v6 = (v2 + 1))) ∨ ¬ (v5 = v1)) →
        (False ↔ true = true) ∧ True) ∧
      (¬ (((¬ (v8 = 0) ∨ ¬ (v6 = (v2 + 1))) ∨ ¬ (v5 = v1))) →
        ∃ (I0 : (Int) → Prop) (μ0 : (Int) → Nat), I0 (0 : Int) ∧ (∀ (v9 : Int), I0 v9 →
          (v9 < v1 →
            0 ≤ v9 ∧ (0 ≤ v9 →
            v9 < v5 ∧ (v9 < v5 →
            ((v0 v9 1) = 0 →
              (¬ (((v0 v9 0) = (v4 v9 0) ∧ ((v0 v9 1) = (v4 v9 1) ∧ ((v0 v9 2) = (v4 v9 2) ∧ ((v0 v9 3) = (v4 v9 3) ∧ ((¬ ((v0 v9 4) = 0) ∧ ¬ ((v4 v9 4) = 0)) ∨ ((v0 v9 4) = 0 ∧ (v4 v9 4) = 0))))))) →
                (False ↔ true = true) ∧ True) ∧
              (¬ (¬ (((v0 v9 0) = (v4 v9 0) ∧ ((v0 v9 1) = (v4 v9 1) ∧ ((v0 v9 2) = (v4 v9 2) ∧ ((v0 v9 3) = (v4 v9 3) ∧ ((¬ ((v0 v9 4) = 0) ∧ ¬ ((v4 v9 4) = 0)) ∨ ((v0 v9 4) = 0 ∧ (v4 v9 4) = 0)))))))) →
                (-9223372036854775808 ≤ (v9 + 1) ∧ (v9 + 1) ≤ 9223372036854775807) ∧ ((-9223372036854775808 ≤ (v9 + 1) ∧ (v9 + 1) ≤ 9223372036854775807) →
                I0 (v9 + 1) ∧ μ0 (v9 + 1) < μ0 v9))) ∧
            (¬ ((v0 v9 1) = 0) →
              (-9223372036854775808 ≤ (1000 * (v0 v9 2)) ∧ (1000 * (v0 v9 2)) ≤ 9223372036854775807) ∧ ((-9223372036854775808 ≤ (1000 * (v0 v9 2)) ∧ (1000 * (v0 v9 2)) ≤ 9223372036854775807) →
              (-9223372036854775808 ≤ (Int.tdiv (1000 * (v0 v9 2)) (v0 v9 1)) ∧ (Int.tdiv (1000 * (v0 v9 2)) (v0 v9 1)) ≤ 9223372036854775807) ∧ ((-9223372036854775808 ≤ (Int.tdiv (1000 * (v0 v9 2)) (v0 v9 1)) ∧ (Int.tdiv (1000 * (v0 v9 2)) (v0 v9 1)) ≤ 9223372036854775807) →
              (((((¬ ((v4 v9 1) = 0) ∨ ¬ ((v4 v9 2) = 0)) ∨ ¬ ((v4 v9 0) = (v0 v9 0))) ∨ (v4 v9 4) = 0) ∨ ((v0 v9 4) = 0 ∧ ¬ ((v4 v9 3) = (Int.tdiv (1000 * (v0 v9 2)) (v0 v9 1))))) →
                (False ↔ true = true) ∧ True) ∧
              (¬ (((((¬ ((v4 v9 1) = 0) ∨ ¬ ((v4 v9 2) = 0)) ∨ ¬ ((v4 v9 0) = (v0 v9 0))) ∨ (v4 v9 4) = 0) ∨ ((v0 v9 4) = 0 ∧ ¬ ((v4 v9 3) = (Int.tdiv (1000 * (v0 v9 2)) (v0 v9 1)))))) →
                ((¬ ((v0 v9 4) = 0) ∧ ((v4 v9 3) < (min (v0 v9 3) (Int.tdiv (1000 * (v0 v9 2)) (v0 v9 1))) ∨ (max (v0 v9 3) (Int.tdiv (1000 * (v0 v9 2)) (v0 v9 1))) < (v4 v9 3))) →
                  (False ↔ true = true) ∧ True) ∧
                (¬ ((¬ ((v0 v9 4) = 0) ∧ ((v4 v9 3) < (min (v0 v9 3) (Int.tdiv (1000 * (v0 v9 2)) (v0 v9 1))) ∨ (max (v0 v9 3) (Int.tdiv (1000 * (v0 v9 2)) (v0 v9 1))) < (v4 v9 3)))) →
                  (-9223372036854775808 ≤ (v9 + 1) ∧ (v9 + 1) ≤ 9223372036854775807) ∧ ((-9223372036854775808 ≤ (v9 + 1) ∧ (v9 + 1) ≤ 9223372036854775807) →
                  I0 (v9 + 1) ∧ μ0 (v9 + 1) < μ0 v9))))))))) ∧
          (¬ (v9 < v1) →
            (v3 = true ↔ true = true) ∧ True)))))))))))))
/-! hotspotlaw42.AdaptSamples -/
def sig9 : CSig := ⟨[⟨true, [.slc [.int .i64, .int .i64, .int .i64, .int .i64, .bool], .int .i64]⟩, ⟨false, [.int .i64]⟩], [⟨false, [.bool]⟩]⟩
def pre9 : List AV → Prop
  | [.a v0, .i v1, .i v2, .i v3] => True
  | _ => False
noncomputable def raw9 : List AV → List AV
  | [.a v0, .i v1, .i v2, .i v3] => [.b (true)]
  | _ => []

def VC9 : Prop :=
  ∀ (v0 : Int → Nat → Int) (v1 : Int) (v2 : Int) (v3 : Int),
  (True) →
  (0 ≤ v1 →
  (True) ∧ (∀ (v4 : Bool), v4 = true → 
  (v1 ≤ 9223372036854775807 →
  ((¬ (((16 < v1 ∨ v3 < 0) ∨ 1073741824 < v3)) → True)) ∧ (∀ (v5 : Int), v5 = ckA v0 v1 v2 → 
  (((((16 < v1 ∨ v3 < 0) ∨ 1073741824 < v3) ∨ ¬ (v5 = 0)) ∨ ¬ (v4 = true)) →
    (v4 = true ↔ true = true) ∧ True) ∧
  (¬ (((((16 < v1 ∨ v3 < 0) ∨ 1073741824 < v3) ∨ ¬ (v5 = 0)) ∨ ¬ (v4 = true))) →
    ∃ (I0 : (Bool) → (Bool) → (Bool) → (Bool) → (Bool) → (Bool) → (Bool) → (Bool) → (Bool) → (Bool) → (Bool) → (Bool) → (Bool) → (Bool) → (Bool) → (Bool) → (Int) → Prop) (μ0 : (Bool) → (Bool) → (Bool) → (Bool) → (Bool) → (Bool) → (Bool) → (Bool) → (Bool) → (Bool) → (Bool) → (Bool) → (Bool) → (Bool) → (Bool) → (Bool) → (Int) → Nat), I0 false false false false false false false false false false false false false false false false (0 : Int) ∧ (∀ (v6 : Bool) (v7 : Bool) (v8 : Bool) (v9 : Bool) (v10 : Bool) (v11 : Bool) (v12 : Bool) (v13 : Bool) (v14 : Bool) (v15 : Bool) (v16 : Bool) (v17 : Bool) (v18 : Bool) (v19 : Bool) (v20 : Bool) (v21 : Bool) (v22 : Int), I0 v6 v7 v8 v9 v10 v11 v12 v13 v14 v15 v16 v17 v18 v19 v20 v21 v22 →
      (v22 < v1 →
        (-9223372036854775808 ≤ (v3 + v22) ∧ (v3 + v22) ≤ 9223372036854775807) ∧ ((-9223372036854775808 ≤ (v3 + v22) ∧ (v3 + v22) ≤ 9223372036854775807) →
        (True) ∧ (∀ (v23 : Int) (v24 : Int), v23 = saV v0 v1 v2 (v3 + v22) → v24 = saE v0 v1 v2 (v3 + v22) → 
        (((¬ (v24 = 0) ∨ v23 < 0) ∨ v1 ≤ v23) ∨ 0 ≤ v23) ∧ ((((¬ (v24 = 0) ∨ v23 < 0) ∨ v1 ≤ v23) ∨ 0 ≤ v23) →
        (((¬ (v24 = 0) ∨ v23 < 0) ∨ v1 ≤ v23) ∨ v23 < 16) ∧ ((((¬ (v24 = 0) ∨ v23 < 0) ∨ v1 ≤ v23) ∨ v23 < 16) →
        (((¬ (v24 = 0) ∨ v23 < 0) ∨ v1 ≤ v23) ∨ 0 ≤ v23) ∧ ((((¬ (v24 = 0) ∨ v23 < 0) ∨ v1 ≤ v23) ∨ 0 ≤ v23) →
        (((¬ (v24 = 0) ∨ v23 < 0) ∨ v1 ≤ v23) ∨ v23 < 16) ∧ ((((¬ (v24 = 0) ∨ v23 < 0) ∨ v1 ≤ v23) ∨ v23 < 16) →
        ((((¬ (v24 = 0) ∨ v23 < 0) ∨ v1 ≤ v23) ∨ ((v23 = 0 ∧ v6 = true) ∨ (¬ (v23 = 0) ∧ ((v23 = 1 ∧ v7 = true) ∨ (¬ (v23 = 1) ∧ ((v23 = 2 ∧ v14 = true) ∨ (¬ (v23 = 2) ∧ ((v23 = 3 ∧ v15 = true) ∨ (¬ (v23 = 3) ∧ ((v23 = 4 ∧ v16 = true) ∨ (¬ (v23 = 4) ∧ ((v23 = 5 ∧ v17 = true) ∨ (¬ (v23 = 5) ∧ ((v23 = 6 ∧ v18 = true) ∨ (¬ (v23 = 6) ∧ ((v23 = 7 ∧ v19 = true) ∨ (¬ (v23 = 7) ∧ ((v23 = 8 ∧ v20 = true) ∨ (¬ (v23 = 8) ∧ ((v23 = 9 ∧ v21 = true) ∨ (¬ (v23 = 9) ∧ ((v23 = 10 ∧ v8 = true) ∨ (¬ (v23 = 10) ∧ ((v23 = 11 ∧ v9 = true) ∨ (¬ (v23 = 11) ∧ ((v23 = 12 ∧ v10 = true) ∨ (¬ (v23 = 12) ∧ ((v23 = 13 ∧ v11 = true) ∨ (¬ (v23 = 13) ∧ ((v23 = 14 ∧ v12 = true) ∨ (¬ (v23 = 14) ∧ v13 = true))))))))))))))))))))))))))))))) →
          (False ↔ true = true) ∧ True) ∧
        (¬ ((((¬ (v24 = 0) ∨ v23 < 0) ∨ v1 ≤ v23) ∨ ((v23 = 0 ∧ v6 = true) ∨ (¬ (v23 = 0) ∧ ((v23 = 1 ∧ v7 = true) ∨ (¬ (v23 = 1) ∧ ((v23 = 2 ∧ v14 = true) ∨ (¬ (v23 = 2) ∧ ((v23 = 3 ∧ v15 = true) ∨ (¬ (v23 = 3) ∧ ((v23 = 4 ∧ v16 = true) ∨ (¬ (v23 = 4) ∧ ((v23 = 5 ∧ v17 = true) ∨ (¬ (v23 = 5) ∧ ((v23 = 6 ∧ v18 = true) ∨ (¬ (v23 = 6) ∧ ((v23 = 7 ∧ v19 = true) ∨ (¬ (v23 = 7) ∧ ((v23 = 8 ∧ v20 = true) ∨ (¬ (v23 = 8) ∧ ((v23 = 9 ∧ v21 = true) ∨ (¬ (v23 = 9) ∧ ((v23 = 10 ∧ v8 = true) ∨ (¬ (v23 = 10) ∧ ((v23 = 11 ∧ v9 = true) ∨ (¬ (v23 = 11) ∧ ((v23 = 12 ∧ v10 = true) ∨ (¬ (v23 = 12) ∧ ((v23 = 13 ∧ v11 = true) ∨ (¬ (v23 = 13) ∧ ((v23 = 14 ∧ v12 = true) ∨ (¬ (v23 = 14) ∧ v13 = true)))))))))))))))))))))))))))))))) →
          0 ≤ v23 ∧ (0 ≤ v23 →
          v23 < 16 ∧ (v23 < 16 →
          (-9223372036854775808 ≤ (v22 + 1) ∧ (v22 + 1) ≤ 9223372036854775807) ∧ ((-9223372036854775808 ≤ (v22 + 1) ∧ (v22 + 1) ≤ 9223372036854775807) →
          I0 ((decide (v23 = 0)) || v6) ((decide (v23 = 1)) || v7) ((decide (v23 = 10)) || v8) ((decide (v23 = 11)) || v9) ((decide (v23 = 12)) || v10) ((decide (v23 = 13)) || v11) ((decide (v23 = 14)) || v12) ((decide (v23 = 15)) || v13) ((decide (v23 = 2)) || v14) ((decide (v23 = 3)) || v15) ((decide (v23 = 4)) || v16) ((decide (v23 = 5)) || v17) ((decide (v23 = 6)) || v18) ((decide (v23 = 7)) || v19) ((decide (v23 = 8)) || v20) ((decide (v23 = 9)) || v21) (v22 + 1) ∧ μ0 ((decide (v23 = 0)) || v6) ((decide (v23 = 1)) || v7) ((decide (v23 = 10)) || v8) ((decide (v23 = 11)) || v9) ((decide (v23 = 12)) || v10) ((decide (v23 = 13)) || v11) ((decide (v23 = 14)) || v12) ((decide (v23 = 15)) || v13) ((decide (v23 = 2)) || v14) ((decide (v23 = 3)) || v15) ((decide (v23 = 4)) || v16) ((decide (v23 = 5)) || v17) ((decide (v23 = 6)) || v18) ((decide (v23 = 7)) || v19) ((decide (v23 = 8)) || v20) ((decide (v23 = 9)) || v21) (v22 + 1) < μ0 v6 v7 v8 v9 v10 v11 v12 v13 v14 v15 v16 v17 v18 v19 v20 v21 v22))))))))))) ∧
      (¬ (v22 < v1) →
        (-9223372036854775808 ≤ (v3 + 1) ∧ (v3 + 1) ≤ 9223372036854775807) ∧ ((-9223372036854775808 ≤ (v3 + 1) ∧ (v3 + 1) ≤ 9223372036854775807) →
        (True) ∧ (∀ (v23 : Int) (v24 : Int), v23 = saV v0 v1 v2 (v3 + 1) → v24 = saE v0 v1 v2 (v3 + 1) → 
        (True) ∧ (∀ (v25 : Int → Nat → Int) (v26 : Int) (v27 : Int) (v28 : Int), v25 = rdP v0 → v26 = rdN v0 v1 v2 → v27 = rdR v0 v1 v2 → v28 = rdE v0 v1 v2 → 
        (0 ≤ v26 →
        (v26 ≤ 9223372036854775807 →
        (¬ (v28 = 0) →
          ((v4 = true ∧ v28 = 22) ↔ true = true) ∧ True) ∧
        (¬ (¬ (v28 = 0)) →
          (True) ∧ (∀ (v29 : Int) (v30 : Int), v29 = saV v25 v26 v27 v3 → v30 = saE v25 v26 v27 v3 → 
          ((((v4 = true ∧ v24 = 0) ∧ v30 = 0) ∧ v23 = v29) ↔ true = true) ∧ True))))))))))))))
end Go.Proofs.Ytakkebjoeceplaa
