/- What the functions do, and what is left to show of each. -/
import Derived.Test.YtdikdhjfcnocdaaDoorW
import Derived.Test.YtdikdhjfcnocdaaDoorD
set_option linter.unusedVariables false
namespace Go.Proofs.YtdikdhjfcnocdaaDoor
open Go Go.RowKit Go.Proofs.YtdikdhjfcnocdaaDoor.Vc
/-! backoff.after -/
def sig24 : CSig := ⟨[⟨false, [.int .u8]⟩, ⟨false, [.int .i64]⟩], [⟨false, [.int .i64]⟩]⟩
def pre24 : List AV → Prop
  | [.i v0, .i v1] => 0 ≤ v0 ∧ v0 ≤ 3 ∧ 0 ≤ v1 ∧ v1 ≤ 6
  | _ => False
noncomputable def raw24 : List AV → List AV
  | [.i v0, .i v1] => [.i (aft v0 v1)]
  | _ => []

def VC24 : Prop :=
  ∀ (v0 : Int) (v1 : Int),
  (0 ≤ v0 ∧ v0 ≤ 3 ∧ 0 ≤ v1 ∧ v1 ≤ 6) →
  0 ≤ v0 ∧ (0 ≤ v0 →
  v0 < 4 ∧ (v0 < 4 →
  (-9223372036854775808 ≤ ((if (decide (v0 = 0)) = true then (15 : Int) else ((if (decide (v0 = 1)) = true then (15 : Int) else ((if (decide (v0 = 2)) = true then (7 : Int) else (3 : Int)) : Int)) : Int)) + 1) ∧ ((if (decide (v0 = 0)) = true then (15 : Int) else ((if (decide (v0 = 1)) = true then (15 : Int) else ((if (decide (v0 = 2)) = true then (7 : Int) else (3 : Int)) : Int)) : Int)) + 1) ≤ 9223372036854775807) ∧ ((-9223372036854775808 ≤ ((if (decide (v0 = 0)) = true then (15 : Int) else ((if (decide (v0 = 1)) = true then (15 : Int) else ((if (decide (v0 = 2)) = true then (7 : Int) else (3 : Int)) : Int)) : Int)) + 1) ∧ ((if (decide (v0 = 0)) = true then (15 : Int) else ((if (decide (v0 = 1)) = true then (15 : Int) else ((if (decide (v0 = 2)) = true then (7 : Int) else (3 : Int)) : Int)) : Int)) + 1) ≤ 9223372036854775807) →
  0 ≤ v1 ∧ (0 ≤ v1 →
  v1 < 64 ∧ (v1 < 64 →
  (-9223372036854775808 ≤ (((if (decide (v0 = 0)) = true then (15 : Int) else ((if (decide (v0 = 1)) = true then (15 : Int) else ((if (decide (v0 = 2)) = true then (7 : Int) else (3 : Int)) : Int)) : Int)) + 1) * 2 ^ (Int.toNat v1)) ∧ (((if (decide (v0 = 0)) = true then (15 : Int) else ((if (decide (v0 = 1)) = true then (15 : Int) else ((if (decide (v0 = 2)) = true then (7 : Int) else (3 : Int)) : Int)) : Int)) + 1) * 2 ^ (Int.toNat v1)) ≤ 9223372036854775807) ∧ ((-9223372036854775808 ≤ (((if (decide (v0 = 0)) = true then (15 : Int) else ((if (decide (v0 = 1)) = true then (15 : Int) else ((if (decide (v0 = 2)) = true then (7 : Int) else (3 : Int)) : Int)) : Int)) + 1) * 2 ^ (Int.toNat v1)) ∧ (((if (decide (v0 = 0)) = true then (15 : Int) else ((if (decide (v0 = 1)) = true then (15 : Int) else ((if (decide (v0 = 2)) = true then (7 : Int) else (3 : Int)) : Int)) : Int)) + 1) * 2 ^ (Int.toNat v1)) ≤ 9223372036854775807) →
  (-9223372036854775808 ≤ ((((if (decide (v0 = 0)) = true then (15 : Int) else ((if (decide (v0 = 1)) = true then (15 : Int) else ((if (decide (v0 = 2)) = true then (7 : Int) else (3 : Int)) : Int)) : Int)) + 1) * 2 ^ (Int.toNat v1)) - 1) ∧ ((((if (decide (v0 = 0)) = true then (15 : Int) else ((if (decide (v0 = 1)) = true then (15 : Int) else ((if (decide (v0 = 2)) = true then (7 : Int) else (3 : Int)) : Int)) : Int)) + 1) * 2 ^ (Int.toNat v1)) - 1) ≤ 9223372036854775807) ∧ ((-9223372036854775808 ≤ ((((if (decide (v0 = 0)) = true then (15 : Int) else ((if (decide (v0 = 1)) = true then (15 : Int) else ((if (decide (v0 = 2)) = true then (7 : Int) else (3 : Int)) : Int)) : Int)) + 1) * 2 ^ (Int.toNat v1)) - 1) ∧ ((((if (decide (v0 = 0)) = true then (15 : Int) else ((if (decide (v0 = 1)) = true then (15 : Int) else ((if (decide (v0 = 2)) = true then (7 : Int) else (3 : Int)) : Int)) : Int)) + 1) * 2 ^ (Int.toNat v1)) - 1) ≤ 9223372036854775807) →
  (min (if (decide (v0 = 0)) = true then (1023 : Int) else ((if (decide (v0 = 1)) = true then (1023 : Int) else ((if (decide (v0 = 2)) = true then (15 : Int) else (7 : Int)) : Int)) : Int)) ((((if (decide (v0 = 0)) = true then (15 : Int) else ((if (decide (v0 = 1)) = true then (15 : Int) else ((if (decide (v0 = 2)) = true then (7 : Int) else (3 : Int)) : Int)) : Int)) + 1) * 2 ^ (Int.toNat v1)) - 1)) = aft v0 v1 ∧ True)))))))
/-! backoff.Window -/
def sig11 : CSig := ⟨[⟨false, [.int .u8]⟩, ⟨false, [.int .i64]⟩], [⟨false, [.int .i64]⟩, ⟨false, [.int .i64]⟩]⟩
def pre11 : List AV → Prop
  | [.i v0, .i v1] => 0 ≤ v0 ∧ v0 ≤ 255
  | _ => False
noncomputable def raw11 : List AV → List AV
  | [.i v0, .i v1] => [.i (winW v0 v1), .i (winE v0 v1)]
  | _ => []

def VC11 : Prop :=
  ∀ (v0 : Int) (v1 : Int),
  (0 ≤ v0 ∧ v0 ≤ 255) →
  (-9223372036854775808 ≤ v0 ∧ v0 ≤ 9223372036854775807) ∧ ((-9223372036854775808 ≤ v0 ∧ v0 ≤ 9223372036854775807) →
  (((4 ≤ v0 ∨ v1 < 0) ∨ 7 ≤ v1) →
    (0 : Int) = winW v0 v1 ∧ (2 : Int) = winE v0 v1 ∧ True) ∧
  (¬ (((4 ≤ v0 ∨ v1 < 0) ∨ 7 ≤ v1)) →
    (0 ≤ v0 ∧ v0 ≤ 3 ∧ 0 ≤ v1 ∧ v1 ≤ 6) ∧ (∀ (v2 : Int), v2 = aft v0 v1 → 
    v2 = winW v0 v1 ∧ (0 : Int) = winE v0 v1 ∧ True)))
/-! backoff.Check -/
def sig17 : CSig := ⟨[⟨true, [.int .u8, .int .i64, .int .i64, .int .i64]⟩], [⟨false, [.int .i64]⟩]⟩
def pre17 : List AV → Prop
  | [.i v0, .i v1, .i v2, .i v3] => 0 ≤ v0 ∧ v0 ≤ 255
  | _ => False
noncomputable def raw17 : List AV → List AV
  | [.i v0, .i v1, .i v2, .i v3] => [.i (chkE v0 v1 v2 v3)]
  | _ => []

def VC17 : Prop :=
  ∀ (v0 : Int) (v1 : Int) (v2 : Int) (v3 : Int),
  (0 ≤ v0 ∧ v0 ≤ 255) →
  (0 ≤ v0 ∧ v0 ≤ 255) ∧ (∀ (v4 : Int) (v5 : Int), v4 = winW v0 v3 → v5 = winE v0 v3 → 
  ((((¬ (v5 = 0) ∨ ¬ (v1 = v4)) ∨ v2 < 0) ∨ v4 < v2) →
    (8 : Int) = chkE v0 v1 v2 v3 ∧ True) ∧
  (¬ ((((¬ (v5 = 0) ∨ ¬ (v1 = v4)) ∨ v2 < 0) ∨ v4 < v2)) →
    (0 : Int) = chkE v0 v1 v2 v3 ∧ True))
/-! backoff.odd -/
def sig25 : CSig := ⟨[⟨false, [.int .i64]⟩], [⟨false, [.bool]⟩]⟩
def pre25 : List AV → Prop
  | [.i v0] => True
  | _ => False
noncomputable def raw25 : List AV → List AV
  | [.i v0] => [.b (oddA v0)]
  | _ => []

def VC25 : Prop :=
  ∀ (v0 : Int),
  (True) →
  ((v0 < 0 ∨ 1099511627776 < v0) ↔ oddA v0 = true) ∧ True
/-! backoff.drawn -/
def sig26 : CSig := ⟨[⟨false, [.int .u8]⟩, ⟨false, [.int .i64]⟩, ⟨false, [.int .i64]⟩], [⟨true, [.int .u8, .int .i64, .int .i64, .int .i64]⟩]⟩
def pre26 : List AV → Prop
  | [.i v0, .i v1, .i v2] => 0 ≤ v0 ∧ v0 ≤ 3 ∧ 0 ≤ v1 ∧ v1 ≤ 6 ∧ 0 ≤ v2 ∧ v2 ≤ 1099511627776
  | _ => False
noncomputable def raw26 : List AV → List AV
  | [.i v0, .i v1, .i v2] => [.i (v0), .i (aft v0 v1), .i (drN v0 v1 v2), .i (v1)]
  | _ => []

def VC26 : Prop :=
  ∀ (v0 : Int) (v1 : Int) (v2 : Int),
  (0 ≤ v0 ∧ v0 ≤ 3 ∧ 0 ≤ v1 ∧ v1 ≤ 6 ∧ 0 ≤ v2 ∧ v2 ≤ 1099511627776) →
  (0 ≤ v0 ∧ v0 ≤ 3 ∧ 0 ≤ v1 ∧ v1 ≤ 6) ∧ (∀ (v3 : Int), v3 = aft v0 v1 → 
  (-9223372036854775808 ≤ (v3 + 1) ∧ (v3 + 1) ≤ 9223372036854775807) ∧ ((-9223372036854775808 ≤ (v3 + 1) ∧ (v3 + 1) ≤ 9223372036854775807) →
  ¬ ((v3 + 1) = 0) ∧ (¬ ((v3 + 1) = 0) →
  v0 = v0 ∧ v3 = aft v0 v1 ∧ (Int.tmod v2 (v3 + 1)) = drN v0 v1 v2 ∧ v1 = v1 ∧ True)))
/-! backoff.step -/
def sig29 : CSig := ⟨[⟨true, [.int .u8, .int .i64, .int .i64, .int .i64]⟩, ⟨false, [.int .u8]⟩, ⟨false, [.int .i64]⟩], [⟨true, [.int .u8, .int .i64, .int .i64, .int .i64]⟩, ⟨false, [.bool]⟩]⟩
def pre29 : List AV → Prop
  | [.i v0, .i v1, .i v2, .i v3, .i v4, .i v5] => 0 ≤ v0 ∧ v0 ≤ 3 ∧ 0 ≤ v3 ∧ v3 ≤ 6 ∧ 0 ≤ v2 ∧ v2 ≤ 9223372036854775807 ∧ 0 ≤ v5 ∧ v5 ≤ 1099511627776
  | _ => False
noncomputable def raw29 : List AV → List AV
  | [.i v0, .i v1, .i v2, .i v3, .i v4, .i v5] => [.i (v0), .i (stW v0 v1 v2 v3 v4 v5), .i (stN v0 v1 v2 v3 v4 v5), .i (stT v0 v1 v2 v3 v4 v5), .b (stG v0 v1 v2 v3 v4 v5)]
  | _ => []

def VC29 : Prop :=
  ∀ (v0 : Int) (v1 : Int) (v2 : Int) (v3 : Int) (v4 : Int) (v5 : Int),
  (0 ≤ v0 ∧ v0 ≤ 3 ∧ 0 ≤ v3 ∧ v3 ≤ 6 ∧ 0 ≤ v2 ∧ v2 ≤ 9223372036854775807 ∧ 0 ≤ v5 ∧ v5 ≤ 1099511627776) →
  (v4 = 0 →
    (-9223372036854775808 ≤ (v2 - 1) ∧ (v2 - 1) ≤ 9223372036854775807) ∧ ((-9223372036854775808 ≤ (v2 - 1) ∧ (v2 - 1) ≤ 9223372036854775807) →
    v0 = v0 ∧ v1 = stW v0 v1 v2 v3 v4 v5 ∧ (max (v2 - 1) 0) = stN v0 v1 v2 v3 v4 v5 ∧ v3 = stT v0 v1 v2 v3 v4 v5 ∧ (False ↔ stG v0 v1 v2 v3 v4 v5 = true) ∧ True)) ∧
  (¬ (v4 = 0) →
    (v4 = 3 →
      (¬ (v3 = 6) →
        (-9223372036854775808 ≤ (v3 + 1) ∧ (v3 + 1) ≤ 9223372036854775807) ∧ ((-9223372036854775808 ≤ (v3 + 1) ∧ (v3 + 1) ≤ 9223372036854775807) →
        (0 ≤ v0 ∧ v0 ≤ 3 ∧ 0 ≤ (v3 + 1) ∧ (v3 + 1) ≤ 6 ∧ 0 ≤ v5 ∧ v5 ≤ 1099511627776) ∧ (∀ (v6 : Int) (v7 : Int) (v8 : Int) (v9 : Int), v6 = v0 → v7 = aft v0 (v3 + 1) → v8 = drN v0 (v3 + 1) v5 → v9 = (v3 + 1) → 
        v6 = v0 ∧ v7 = stW v0 v1 v2 v3 v4 v5 ∧ v8 = stN v0 v1 v2 v3 v4 v5 ∧ v9 = stT v0 v1 v2 v3 v4 v5 ∧ (False ↔ stG v0 v1 v2 v3 v4 v5 = true) ∧ True))) ∧
      (¬ (¬ (v3 = 6)) →
        (0 ≤ v0 ∧ v0 ≤ 3 ∧ 0 ≤ (0 : Int) ∧ (0 : Int) ≤ 6 ∧ 0 ≤ v5 ∧ v5 ≤ 1099511627776) ∧ (∀ (v6 : Int) (v7 : Int) (v8 : Int) (v9 : Int), v6 = v0 → v7 = aft v0 (0 : Int) → v8 = drN v0 (0 : Int) v5 → v9 = (0 : Int) → 
        v6 = v0 ∧ v7 = stW v0 v1 v2 v3 v4 v5 ∧ v8 = stN v0 v1 v2 v3 v4 v5 ∧ v9 = stT v0 v1 v2 v3 v4 v5 ∧ (v4 = 3 ↔ stG v0 v1 v2 v3 v4 v5 = true) ∧ True))) ∧
    (¬ (v4 = 3) →
      (v4 = 2 →
        (0 ≤ v0 ∧ v0 ≤ 3 ∧ 0 ≤ (0 : Int) ∧ (0 : Int) ≤ 6 ∧ 0 ≤ v5 ∧ v5 ≤ 1099511627776) ∧ (∀ (v6 : Int) (v7 : Int) (v8 : Int) (v9 : Int), v6 = v0 → v7 = aft v0 (0 : Int) → v8 = drN v0 (0 : Int) v5 → v9 = (0 : Int) → 
        v6 = v0 ∧ v7 = stW v0 v1 v2 v3 v4 v5 ∧ v8 = stN v0 v1 v2 v3 v4 v5 ∧ v9 = stT v0 v1 v2 v3 v4 v5 ∧ (v4 = 3 ↔ stG v0 v1 v2 v3 v4 v5 = true) ∧ True)) ∧
      (¬ (v4 = 2) →
        v0 = v0 ∧ v1 = stW v0 v1 v2 v3 v4 v5 ∧ v2 = stN v0 v1 v2 v3 v4 v5 ∧ v3 = stT v0 v1 v2 v3 v4 v5 ∧ (False ↔ stG v0 v1 v2 v3 v4 v5 = true) ∧ True)))
/-! backoff.Step -/
def sig15 : CSig := ⟨[⟨true, [.int .u8, .int .i64, .int .i64, .int .i64]⟩, ⟨false, [.int .u8]⟩, ⟨false, [.int .i64]⟩], [⟨true, [.int .u8, .int .i64, .int .i64, .int .i64]⟩, ⟨false, [.bool]⟩, ⟨false, [.int .i64]⟩]⟩
def pre15 : List AV → Prop
  | [.i v0, .i v1, .i v2, .i v3, .i v4, .i v5] => 0 ≤ v0 ∧ v0 ≤ 255
  | _ => False
noncomputable def raw15 : List AV → List AV
  | [.i v0, .i v1, .i v2, .i v3, .i v4, .i v5] => [.i (SC v0 v1 v2 v3 v4 v5), .i (SW v0 v1 v2 v3 v4 v5), .i (SN v0 v1 v2 v3 v4 v5), .i (SR v0 v1 v2 v3 v4 v5), .b (SG v0 v1 v2 v3 v4 v5), .i (SE v0 v1 v2 v3 v4 v5)]
  | _ => []

def VC15 : Prop :=
  ∀ (v0 : Int) (v1 : Int) (v2 : Int) (v3 : Int) (v4 : Int) (v5 : Int),
  (0 ≤ v0 ∧ v0 ≤ 255) →
  (0 ≤ v0 ∧ v0 ≤ 255) ∧ (∀ (v6 : Int), v6 = chkE v0 v1 v2 v3 → 
  (¬ (v6 = 0) →
    (0 : Int) = SC v0 v1 v2 v3 v4 v5 ∧ (0 : Int) = SW v0 v1 v2 v3 v4 v5 ∧ (0 : Int) = SN v0 v1 v2 v3 v4 v5 ∧ (0 : Int) = SR v0 v1 v2 v3 v4 v5 ∧ (False ↔ SG v0 v1 v2 v3 v4 v5 = true) ∧ v6 = SE v0 v1 v2 v3 v4 v5 ∧ True) ∧
  (¬ (¬ (v6 = 0)) →
    ((¬ (3 < v4) → True)) ∧ (∀ (v7 : Bool), v7 = oddA v5 → 
    ((3 < v4 ∨ v7 = true) →
      (0 : Int) = SC v0 v1 v2 v3 v4 v5 ∧ (0 : Int) = SW v0 v1 v2 v3 v4 v5 ∧ (0 : Int) = SN v0 v1 v2 v3 v4 v5 ∧ (0 : Int) = SR v0 v1 v2 v3 v4 v5 ∧ (False ↔ SG v0 v1 v2 v3 v4 v5 = true) ∧ (2 : Int) = SE v0 v1 v2 v3 v4 v5 ∧ True) ∧
    (¬ ((3 < v4 ∨ v7 = true)) →
      ((2 ≤ v4 ∧ 0 < v2) →
        (0 : Int) = SC v0 v1 v2 v3 v4 v5 ∧ (0 : Int) = SW v0 v1 v2 v3 v4 v5 ∧ (0 : Int) = SN v0 v1 v2 v3 v4 v5 ∧ (0 : Int) = SR v0 v1 v2 v3 v4 v5 ∧ (False ↔ SG v0 v1 v2 v3 v4 v5 = true) ∧ (20 : Int) = SE v0 v1 v2 v3 v4 v5 ∧ True) ∧
      (¬ ((2 ≤ v4 ∧ 0 < v2)) →
        (0 ≤ v0 ∧ v0 ≤ 3 ∧ 0 ≤ v3 ∧ v3 ≤ 6 ∧ 0 ≤ v2 ∧ v2 ≤ 9223372036854775807 ∧ 0 ≤ v5 ∧ v5 ≤ 1099511627776) ∧ (∀ (v8 : Int) (v9 : Int) (v10 : Int) (v11 : Int) (v12 : Bool), v8 = v0 → v9 = stW v0 v1 v2 v3 v4 v5 → v10 = stN v0 v1 v2 v3 v4 v5 → v11 = stT v0 v1 v2 v3 v4 v5 → v12 = stG v0 v1 v2 v3 v4 v5 → 
        v8 = SC v0 v1 v2 v3 v4 v5 ∧ v9 = SW v0 v1 v2 v3 v4 v5 ∧ v10 = SN v0 v1 v2 v3 v4 v5 ∧ v11 = SR v0 v1 v2 v3 v4 v5 ∧ (v12 = true ↔ SG v0 v1 v2 v3 v4 v5 = true) ∧ (0 : Int) = SE v0 v1 v2 v3 v4 v5 ∧ True))))))
/-! backoff.Run -/
def sig22 : CSig := ⟨[⟨true, [.int .u8, .int .i64, .int .i64, .int .i64]⟩, ⟨false, [.slc [.int .u8]]⟩, ⟨false, [.slc [.int .i64]]⟩], [⟨true, [.int .u8, .int .i64, .int .i64, .int .i64]⟩, ⟨false, [.int .i64]⟩, ⟨false, [.int .i64]⟩]⟩
def pre22 : List AV → Prop
  | [.i v0, .i v1, .i v2, .i v3, .a v4, .i v5, .a v6, .i v7] => 0 ≤ v0 ∧ v0 ≤ 255
  | _ => False
noncomputable def raw22 : List AV → List AV
  | [.i v0, .i v1, .i v2, .i v3, .a v4, .i v5, .a v6, .i v7] => [.i (rnC v0 v1 v2 v3 v4 v5 v6 v7), .i (rnW v0 v1 v2 v3 v4 v5 v6 v7), .i (rnN v0 v1 v2 v3 v4 v5 v6 v7), .i (rnT v0 v1 v2 v3 v4 v5 v6 v7), .i (rnM v0 v1 v2 v3 v4 v5 v6 v7), .i (rnE v0 v1 v2 v3 v4 v5 v6 v7)]
  | _ => []

def VC22 : Prop :=
  ∀ (v0 : Int) (v1 : Int) (v2 : Int) (v3 : Int) (v4 : Int → Nat → Int) (v5 : Int) (v6 : Int → Nat → Int) (v7 : Int),
  (0 ≤ v0 ∧ v0 ≤ 255) →
  (0 ≤ v5 →
  (0 ≤ v7 →
  (0 ≤ v0 ∧ v0 ≤ 255) ∧ (∀ (v8 : Int), v8 = chkE v0 v1 v2 v3 → 
  (v5 ≤ 9223372036854775807 →
  (v7 ≤ 9223372036854775807 →
  (¬ (v8 = 0) →
    (0 : Int) = rnC v0 v1 v2 v3 v4 v5 v6 v7 ∧ (0 : Int) = rnW v0 v1 v2 v3 v4 v5 v6 v7 ∧ (0 : Int) = rnN v0 v1 v2 v3 v4 v5 v6 v7 ∧ (0 : Int) = rnT v0 v1 v2 v3 v4 v5 v6 v7 ∧ (0 : Int) = rnM v0 v1 v2 v3 v4 v5 v6 v7 ∧ v8 = rnE v0 v1 v2 v3 v4 v5 v6 v7 ∧ True) ∧
  (¬ (¬ (v8 = 0)) →
    ∃ (I0 : (Int) → (Int) → (Int) → (Int) → (Int) → (Int) → (Int) → (Int) → (Int) → Prop) (μ0 : (Int) → (Int) → (Int) → (Int) → (Int) → (Int) → (Int) → (Int) → (Int) → Nat), I0 (0 : Int) v7 v0 v1 v2 v3 (0 : Int) (0 : Int) (0 : Int) ∧ (∀ (v9 : Int) (v10 : Int) (v11 : Int) (v12 : Int) (v13 : Int) (v14 : Int) (v15 : Int) (v16 : Int) (v17 : Int), I0 v9 v10 v11 v12 v13 v14 v15 v16 v17 →
      (0 ≤ v9 →
      (0 ≤ v10 →
      (v10 ≤ 9223372036854775807 →
      (v15 < v5 →
        0 ≤ v15 ∧ (0 ≤ v15 →
        (((v4 v15 0) = 2 ∨ (v4 v15 0) = 3) →
          (v10 = 0 →
            (0 ≤ v11 ∧ v11 ≤ 255) ∧ (∀ (v18 : Int) (v19 : Int) (v20 : Int) (v21 : Int) (v22 : Bool) (v23 : Int), v18 = SC v11 v12 v13 v14 (v4 v15 0) (0 : Int) → v19 = SW v11 v12 v13 v14 (v4 v15 0) (0 : Int) → v20 = SN v11 v12 v13 v14 (v4 v15 0) (0 : Int) → v21 = SR v11 v12 v13 v14 (v4 v15 0) (0 : Int) → v22 = SG v11 v12 v13 v14 (v4 v15 0) (0 : Int) → v23 = SE v11 v12 v13 v14 (v4 v15 0) (0 : Int) → 
            (¬ (v23 = 0) →
              (0 : Int) = rnC v0 v1 v2 v3 v4 v5 v6 v7 ∧ (0 : Int) = rnW v0 v1 v2 v3 v4 v5 v6 v7 ∧ (0 : Int) = rnN v0 v1 v2 v3 v4 v5 v6 v7 ∧ (0 : Int) = rnT v0 v1 v2 v3 v4 v5 v6 v7 ∧ (0 : Int) = rnM v0 v1 v2 v3 v4 v5 v6 v7 ∧ v23 = rnE v0 v1 v2 v3 v4 v5 v6 v7 ∧ True) ∧
            (¬ (¬ (v23 = 0)) →
              (v22 = true →
                (-9223372036854775808 ≤ (v16 + 1) ∧ (v16 + 1) ≤ 9223372036854775807) ∧ ((-9223372036854775808 ≤ (v16 + 1) ∧ (v16 + 1) ≤ 9223372036854775807) →
                (-9223372036854775808 ≤ (v15 + 1) ∧ (v15 + 1) ≤ 9223372036854775807) ∧ ((-9223372036854775808 ≤ (v15 + 1) ∧ (v15 + 1) ≤ 9223372036854775807) →
                I0 v9 v10 v18 v19 v20 v21 (v15 + 1) (v16 + 1) v23 ∧ μ0 v9 v10 v18 v19 v20 v21 (v15 + 1) (v16 + 1) v23 < μ0 v9 v10 v11 v12 v13 v14 v15 v16 v17))) ∧
              (¬ (v22 = true) →
                (-9223372036854775808 ≤ (v15 + 1) ∧ (v15 + 1) ≤ 9223372036854775807) ∧ ((-9223372036854775808 ≤ (v15 + 1) ∧ (v15 + 1) ≤ 9223372036854775807) →
                I0 v9 v10 v18 v19 v20 v21 (v15 + 1) v16 v23 ∧ μ0 v9 v10 v18 v19 v20 v21 (v15 + 1) v16 v23 < μ0 v9 v10 v11 v12 v13 v14 v15 v16 v17))))) ∧
          (¬ (v10 = 0) →
            0 < v10 ∧ (0 < v10 →
            v9 < v7 ∧ (v9 < v7 →
            1 ≤ v10 ∧ (1 ≤ v10 →
            v10 ≤ v10 ∧ (v10 ≤ v10 →
            (0 ≤ v11 ∧ v11 ≤ 255) ∧ (∀ (v18 : Int) (v19 : Int) (v20 : Int) (v21 : Int) (v22 : Bool) (v23 : Int), v18 = SC v11 v12 v13 v14 (v4 v15 0) (v6 v9 0) → v19 = SW v11 v12 v13 v14 (v4 v15 0) (v6 v9 0) → v20 = SN v11 v12 v13 v14 (v4 v15 0) (v6 v9 0) → v21 = SR v11 v12 v13 v14 (v4 v15 0) (v6 v9 0) → v22 = SG v11 v12 v13 v14 (v4 v15 0) (v6 v9 0) → v23 = SE v11 v12 v13 v14 (v4 v15 0) (v6 v9 0) → 
            (0 ≤ (v10 - 1) →
            ((v10 - 1) ≤ 9223372036854775807 →
            (¬ (v23 = 0) →
              (0 : Int) = rnC v0 v1 v2 v3 v4 v5 v6 v7 ∧ (0 : Int) = rnW v0 v1 v2 v3 v4 v5 v6 v7 ∧ (0 : Int) = rnN v0 v1 v2 v3 v4 v5 v6 v7 ∧ (0 : Int) = rnT v0 v1 v2 v3 v4 v5 v6 v7 ∧ (0 : Int) = rnM v0 v1 v2 v3 v4 v5 v6 v7 ∧ v23 = rnE v0 v1 v2 v3 v4 v5 v6 v7 ∧ True) ∧
            (¬ (¬ (v23 = 0)) →
              (v22 = true →
                (-9223372036854775808 ≤ (v16 + 1) ∧ (v16 + 1) ≤ 9223372036854775807) ∧ ((-9223372036854775808 ≤ (v16 + 1) ∧ (v16 + 1) ≤ 9223372036854775807) →
                (-9223372036854775808 ≤ (v15 + 1) ∧ (v15 + 1) ≤ 9223372036854775807) ∧ ((-9223372036854775808 ≤ (v15 + 1) ∧ (v15 + 1) ≤ 9223372036854775807) →
                I0 (v9 + 1) (v10 - 1) v18 v19 v20 v21 (v15 + 1) (v16 + 1) v23 ∧ μ0 (v9 + 1) (v10 - 1) v18 v19 v20 v21 (v15 + 1) (v16 + 1) v23 < μ0 v9 v10 v11 v12 v13 v14 v15 v16 v17))) ∧
              (¬ (v22 = true) →
                (-9223372036854775808 ≤ (v15 + 1) ∧ (v15 + 1) ≤ 9223372036854775807) ∧ ((-9223372036854775808 ≤ (v15 + 1) ∧ (v15 + 1) ≤ 9223372036854775807) →
                I0 (v9 + 1) (v10 - 1) v18 v19 v20 v21 (v15 + 1) v16 v23 ∧ μ0 (v9 + 1) (v10 - 1) v18 v19 v20 v21 (v15 + 1) v16 v23 < μ0 v9 v10 v11 v12 v13 v14 v15 v16 v17)))))))))))) ∧
        (¬ (((v4 v15 0) = 2 ∨ (v4 v15 0) = 3)) →
          (0 ≤ v11 ∧ v11 ≤ 255) ∧ (∀ (v18 : Int) (v19 : Int) (v20 : Int) (v21 : Int) (v22 : Bool) (v23 : Int), v18 = SC v11 v12 v13 v14 (v4 v15 0) (0 : Int) → v19 = SW v11 v12 v13 v14 (v4 v15 0) (0 : Int) → v20 = SN v11 v12 v13 v14 (v4 v15 0) (0 : Int) → v21 = SR v11 v12 v13 v14 (v4 v15 0) (0 : Int) → v22 = SG v11 v12 v13 v14 (v4 v15 0) (0 : Int) → v23 = SE v11 v12 v13 v14 (v4 v15 0) (0 : Int) → 
          (¬ (v23 = 0) →
            (0 : Int) = rnC v0 v1 v2 v3 v4 v5 v6 v7 ∧ (0 : Int) = rnW v0 v1 v2 v3 v4 v5 v6 v7 ∧ (0 : Int) = rnN v0 v1 v2 v3 v4 v5 v6 v7 ∧ (0 : Int) = rnT v0 v1 v2 v3 v4 v5 v6 v7 ∧ (0 : Int) = rnM v0 v1 v2 v3 v4 v5 v6 v7 ∧ v23 = rnE v0 v1 v2 v3 v4 v5 v6 v7 ∧ True) ∧
          (¬ (¬ (v23 = 0)) →
            (v22 = true →
              (-9223372036854775808 ≤ (v16 + 1) ∧ (v16 + 1) ≤ 9223372036854775807) ∧ ((-9223372036854775808 ≤ (v16 + 1) ∧ (v16 + 1) ≤ 9223372036854775807) →
              (-9223372036854775808 ≤ (v15 + 1) ∧ (v15 + 1) ≤ 9223372036854775807) ∧ ((-9223372036854775808 ≤ (v15 + 1) ∧ (v15 + 1) ≤ 9223372036854775807) →
              I0 v9 v10 v18 v19 v20 v21 (v15 + 1) (v16 + 1) v23 ∧ μ0 v9 v10 v18 v19 v20 v21 (v15 + 1) (v16 + 1) v23 < μ0 v9 v10 v11 v12 v13 v14 v15 v16 v17))) ∧
            (¬ (v22 = true) →
              (-9223372036854775808 ≤ (v15 + 1) ∧ (v15 + 1) ≤ 9223372036854775807) ∧ ((-9223372036854775808 ≤ (v15 + 1) ∧ (v15 + 1) ≤ 9223372036854775807) →
              I0 v9 v10 v18 v19 v20 v21 (v15 + 1) v16 v23 ∧ μ0 v9 v10 v18 v19 v20 v21 (v15 + 1) v16 v23 < μ0 v9 v10 v11 v12 v13 v14 v15 v16 v17))))))) ∧
      (¬ (v15 < v5) →
        v11 = rnC v0 v1 v2 v3 v4 v5 v6 v7 ∧ v12 = rnW v0 v1 v2 v3 v4 v5 v6 v7 ∧ v13 = rnN v0 v1 v2 v3 v4 v5 v6 v7 ∧ v14 = rnT v0 v1 v2 v3 v4 v5 v6 v7 ∧ v16 = rnM v0 v1 v2 v3 v4 v5 v6 v7 ∧ (0 : Int) = rnE v0 v1 v2 v3 v4 v5 v6 v7 ∧ True)))))))))))
/-! hotspotref14.Window -/
def sig12 : CSig := ⟨[⟨false, [.int .u8]⟩, ⟨false, [.int .i64]⟩], [⟨false, [.int .i64]⟩, ⟨false, [.int .i64]⟩]⟩
def pre12 : List AV → Prop
  | [.i v0, .i v1] => 0 ≤ v0 ∧ v0 ≤ 255
  | _ => False
noncomputable def raw12 : List AV → List AV
  | [.i v0, .i v1] => [.i (winW v0 v1), .i (winE v0 v1)]
  | _ => []

def VC12 : Prop :=
  ∀ (v0 : Int) (v1 : Int),
  (0 ≤ v0 ∧ v0 ≤ 255) →
  (((3 < v0 ∨ v1 < 0) ∨ 6 < v1) →
    (0 : Int) = winW v0 v1 ∧ (2 : Int) = winE v0 v1 ∧ True) ∧
  (¬ (((3 < v0 ∨ v1 < 0) ∨ 6 < v1)) →
    0 ≤ v0 ∧ (0 ≤ v0 →
    v0 < 4 ∧ (v0 < 4 →
    (-9223372036854775808 ≤ ((if (decide (v0 = 0)) = true then (15 : Int) else ((if (decide (v0 = 1)) = true then (15 : Int) else ((if (decide (v0 = 2)) = true then (7 : Int) else (3 : Int)) : Int)) : Int)) + 1) ∧ ((if (decide (v0 = 0)) = true then (15 : Int) else ((if (decide (v0 = 1)) = true then (15 : Int) else ((if (decide (v0 = 2)) = true then (7 : Int) else (3 : Int)) : Int)) : Int)) + 1) ≤ 9223372036854775807) ∧ ((-9223372036854775808 ≤ ((if (decide (v0 = 0)) = true then (15 : Int) else ((if (decide (v0 = 1)) = true then (15 : Int) else ((if (decide (v0 = 2)) = true then (7 : Int) else (3 : Int)) : Int)) : Int)) + 1) ∧ ((if (decide (v0 = 0)) = true then (15 : Int) else ((if (decide (v0 = 1)) = true then (15 : Int) else ((if (decide (v0 = 2)) = true then (7 : Int) else (3 : Int)) : Int)) : Int)) + 1) ≤ 9223372036854775807) →
    ∃ (I0 : (Int) → (Int) → Prop) (μ0 : (Int) → (Int) → Nat), I0 ((if (decide (v0 = 0)) = true then (15 : Int) else ((if (decide (v0 = 1)) = true then (15 : Int) else ((if (decide (v0 = 2)) = true then (7 : Int) else (3 : Int)) : Int)) : Int)) + 1) (0 : Int) ∧ (∀ (v2 : Int) (v3 : Int), I0 v2 v3 →
      (v3 < v1 →
        (-9223372036854775808 ≤ (v2 * 2) ∧ (v2 * 2) ≤ 9223372036854775807) ∧ ((-9223372036854775808 ≤ (v2 * 2) ∧ (v2 * 2) ≤ 9223372036854775807) →
        (-9223372036854775808 ≤ (v3 + 1) ∧ (v3 + 1) ≤ 9223372036854775807) ∧ ((-9223372036854775808 ≤ (v3 + 1) ∧ (v3 + 1) ≤ 9223372036854775807) →
        I0 (v2 * 2) (v3 + 1) ∧ μ0 (v2 * 2) (v3 + 1) < μ0 v2 v3))) ∧
      (¬ (v3 < v1) →
        (-9223372036854775808 ≤ (v2 - 1) ∧ (v2 - 1) ≤ 9223372036854775807) ∧ ((-9223372036854775808 ≤ (v2 - 1) ∧ (v2 - 1) ≤ 9223372036854775807) →
        ((if (decide (v0 = 0)) = true then (1023 : Int) else ((if (decide (v0 = 1)) = true then (1023 : Int) else ((if (decide (v0 = 2)) = true then (15 : Int) else (7 : Int)) : Int)) : Int)) < (v2 - 1) →
          (if (decide (v0 = 0)) = true then (1023 : Int) else ((if (decide (v0 = 1)) = true then (1023 : Int) else ((if (decide (v0 = 2)) = true then (15 : Int) else (7 : Int)) : Int)) : Int)) = winW v0 v1 ∧ (0 : Int) = winE v0 v1 ∧ True) ∧
        (¬ ((if (decide (v0 = 0)) = true then (1023 : Int) else ((if (decide (v0 = 1)) = true then (1023 : Int) else ((if (decide (v0 = 2)) = true then (15 : Int) else (7 : Int)) : Int)) : Int)) < (v2 - 1)) →
          (v2 - 1) = winW v0 v1 ∧ (0 : Int) = winE v0 v1 ∧ True))))))))
/-! hotspotref14.Check -/
def sig18 : CSig := ⟨[⟨true, [.int .u8, .int .i64, .int .i64, .int .i64]⟩], [⟨false, [.int .i64]⟩]⟩
def pre18 : List AV → Prop
  | [.i v0, .i v1, .i v2, .i v3] => 0 ≤ v0 ∧ v0 ≤ 255
  | _ => False
noncomputable def raw18 : List AV → List AV
  | [.i v0, .i v1, .i v2, .i v3] => [.i (chkE v0 v1 v2 v3)]
  | _ => []

def VC18 : Prop :=
  ∀ (v0 : Int) (v1 : Int) (v2 : Int) (v3 : Int),
  (0 ≤ v0 ∧ v0 ≤ 255) →
  (0 ≤ v0 ∧ v0 ≤ 255) ∧ (∀ (v4 : Int) (v5 : Int), v4 = winW v0 v3 → v5 = winE v0 v3 → 
  ((((¬ (v5 = 0) ∨ ¬ (v4 = v1)) ∨ v2 < 0) ∨ v4 < v2) →
    (8 : Int) = chkE v0 v1 v2 v3 ∧ True) ∧
  (¬ ((((¬ (v5 = 0) ∨ ¬ (v4 = v1)) ∨ v2 < 0) ∨ v4 < v2)) →
    (0 : Int) = chkE v0 v1 v2 v3 ∧ True))
/-! hotspotref14.Fits -/
def sig27 : CSig := ⟨[⟨false, [.int .i64]⟩], [⟨false, [.bool]⟩]⟩
def pre27 : List AV → Prop
  | [.i v0] => True
  | _ => False
noncomputable def raw27 : List AV → List AV
  | [.i v0] => [.b (fitA v0)]
  | _ => []

def VC27 : Prop :=
  ∀ (v0 : Int),
  (True) →
  ((0 ≤ v0 ∧ v0 ≤ 1099511627776) ↔ fitA v0 = true) ∧ True
/-! hotspotref14.Fresh -/
def sig28 : CSig := ⟨[⟨false, [.int .u8]⟩, ⟨false, [.int .i64]⟩, ⟨false, [.int .i64]⟩], [⟨true, [.int .u8, .int .i64, .int .i64, .int .i64]⟩]⟩
def pre28 : List AV → Prop
  | [.i v0, .i v1, .i v2] => 0 ≤ v0 ∧ v0 ≤ 3 ∧ 0 ≤ v1 ∧ v1 ≤ 6 ∧ 0 ≤ v2 ∧ v2 ≤ 1099511627776
  | _ => False
noncomputable def raw28 : List AV → List AV
  | [.i v0, .i v1, .i v2] => [.i (v0), .i (aft v0 v1), .i (drN v0 v1 v2), .i (v1)]
  | _ => []

def VC28 : Prop :=
  ∀ (v0 : Int) (v1 : Int) (v2 : Int),
  (0 ≤ v0 ∧ v0 ≤ 3 ∧ 0 ≤ v1 ∧ v1 ≤ 6 ∧ 0 ≤ v2 ∧ v2 ≤ 1099511627776) →
  (0 ≤ v0 ∧ v0 ≤ 255) ∧ (∀ (v3 : Int) (v4 : Int), v3 = winW v0 v1 → v4 = winE v0 v1 → 
  (-9223372036854775808 ≤ (v3 + 1) ∧ (v3 + 1) ≤ 9223372036854775807) ∧ ((-9223372036854775808 ≤ (v3 + 1) ∧ (v3 + 1) ≤ 9223372036854775807) →
  ¬ ((v3 + 1) = 0) ∧ (¬ ((v3 + 1) = 0) →
  v0 = v0 ∧ v3 = aft v0 v1 ∧ (Int.tmod v2 (v3 + 1)) = drN v0 v1 v2 ∧ v1 = v1 ∧ True)))
/-! hotspotref14.Fail -/
def sig30 : CSig := ⟨[⟨true, [.int .u8, .int .i64, .int .i64, .int .i64]⟩, ⟨false, [.int .i64]⟩], [⟨true, [.int .u8, .int .i64, .int .i64, .int .i64]⟩, ⟨false, [.bool]⟩]⟩
def pre30 : List AV → Prop
  | [.i v0, .i v1, .i v2, .i v3, .i v4] => 0 ≤ v0 ∧ v0 ≤ 3 ∧ 0 ≤ v3 ∧ v3 ≤ 6 ∧ 0 ≤ v2 ∧ 0 ≤ v4 ∧ v4 ≤ 1099511627776
  | _ => False
noncomputable def raw30 : List AV → List AV
  | [.i v0, .i v1, .i v2, .i v3, .i v4] => [.i (v0), .i (stW v0 v1 v2 v3 3 v4), .i (stN v0 v1 v2 v3 3 v4), .i (stT v0 v1 v2 v3 3 v4), .b (stG v0 v1 v2 v3 3 v4)]
  | _ => []

def VC30 : Prop :=
  ∀ (v0 : Int) (v1 : Int) (v2 : Int) (v3 : Int) (v4 : Int),
  (0 ≤ v0 ∧ v0 ≤ 3 ∧ 0 ≤ v3 ∧ v3 ≤ 6 ∧ 0 ≤ v2 ∧ 0 ≤ v4 ∧ v4 ≤ 1099511627776) →
  (v3 = 6 →
    (0 ≤ v0 ∧ v0 ≤ 3 ∧ 0 ≤ (0 : Int) ∧ (0 : Int) ≤ 6 ∧ 0 ≤ v4 ∧ v4 ≤ 1099511627776) ∧ (∀ (v5 : Int) (v6 : Int) (v7 : Int) (v8 : Int), v5 = v0 → v6 = aft v0 (0 : Int) → v7 = drN v0 (0 : Int) v4 → v8 = (0 : Int) → 
    v5 = v0 ∧ v6 = stW v0 v1 v2 v3 3 v4 ∧ v7 = stN v0 v1 v2 v3 3 v4 ∧ v8 = stT v0 v1 v2 v3 3 v4 ∧ (True ↔ stG v0 v1 v2 v3 3 v4 = true) ∧ True)) ∧
  (¬ (v3 = 6) →
    (-9223372036854775808 ≤ (v3 + 1) ∧ (v3 + 1) ≤ 9223372036854775807) ∧ ((-9223372036854775808 ≤ (v3 + 1) ∧ (v3 + 1) ≤ 9223372036854775807) →
    (0 ≤ v0 ∧ v0 ≤ 3 ∧ 0 ≤ (v3 + 1) ∧ (v3 + 1) ≤ 6 ∧ 0 ≤ v4 ∧ v4 ≤ 1099511627776) ∧ (∀ (v5 : Int) (v6 : Int) (v7 : Int) (v8 : Int), v5 = v0 → v6 = aft v0 (v3 + 1) → v7 = drN v0 (v3 + 1) v4 → v8 = (v3 + 1) → 
    v5 = v0 ∧ v6 = stW v0 v1 v2 v3 3 v4 ∧ v7 = stN v0 v1 v2 v3 3 v4 ∧ v8 = stT v0 v1 v2 v3 3 v4 ∧ (False ↔ stG v0 v1 v2 v3 3 v4 = true) ∧ True)))
/-! hotspotref14.Step -/
def sig16 : CSig := ⟨[⟨true, [.int .u8, .int .i64, .int .i64, .int .i64]⟩, ⟨false, [.int .u8]⟩, ⟨false, [.int .i64]⟩], [⟨true, [.int .u8, .int .i64, .int .i64, .int .i64]⟩, ⟨false, [.bool]⟩, ⟨false, [.int .i64]⟩]⟩
def pre16 : List AV → Prop
  | [.i v0, .i v1, .i v2, .i v3, .i v4, .i v5] => 0 ≤ v0 ∧ v0 ≤ 255 ∧ 0 ≤ v4 ∧ v4 ≤ 255
  | _ => False
noncomputable def raw16 : List AV → List AV
  | [.i v0, .i v1, .i v2, .i v3, .i v4, .i v5] => [.i (SC v0 v1 v2 v3 v4 v5), .i (SW v0 v1 v2 v3 v4 v5), .i (SN v0 v1 v2 v3 v4 v5), .i (SR v0 v1 v2 v3 v4 v5), .b (SG v0 v1 v2 v3 v4 v5), .i (SE v0 v1 v2 v3 v4 v5)]
  | _ => []

def VC16 : Prop :=
  ∀ (v0 : Int) (v1 : Int) (v2 : Int) (v3 : Int) (v4 : Int) (v5 : Int),
  (0 ≤ v0 ∧ v0 ≤ 255 ∧ 0 ≤ v4 ∧ v4 ≤ 255) →
  (0 ≤ v0 ∧ v0 ≤ 255) ∧ (∀ (v6 : Int), v6 = chkE v0 v1 v2 v3 → 
  (¬ (v6 = 0) →
    (0 : Int) = SC v0 v1 v2 v3 v4 v5 ∧ (0 : Int) = SW v0 v1 v2 v3 v4 v5 ∧ (0 : Int) = SN v0 v1 v2 v3 v4 v5 ∧ (0 : Int) = SR v0 v1 v2 v3 v4 v5 ∧ (False ↔ SG v0 v1 v2 v3 v4 v5 = true) ∧ (8 : Int) = SE v0 v1 v2 v3 v4 v5 ∧ True) ∧
  (¬ (¬ (v6 = 0)) →
    ((¬ (3 < v4) → True)) ∧ (∀ (v7 : Bool), v7 = fitA v5 → 
    ((3 < v4 ∨ ¬ (v7 = true)) →
      (0 : Int) = SC v0 v1 v2 v3 v4 v5 ∧ (0 : Int) = SW v0 v1 v2 v3 v4 v5 ∧ (0 : Int) = SN v0 v1 v2 v3 v4 v5 ∧ (0 : Int) = SR v0 v1 v2 v3 v4 v5 ∧ (False ↔ SG v0 v1 v2 v3 v4 v5 = true) ∧ (2 : Int) = SE v0 v1 v2 v3 v4 v5 ∧ True) ∧
    (¬ ((3 < v4 ∨ ¬ (v7 = true))) →
      (v4 = 0 →
        (0 < v2 →
          (-9223372036854775808 ≤ (v2 - 1) ∧ (v2 - 1) ≤ 9223372036854775807) ∧ ((-9223372036854775808 ≤ (v2 - 1) ∧ (v2 - 1) ≤ 9223372036854775807) →
          v0 = SC v0 v1 v2 v3 v4 v5 ∧ v1 = SW v0 v1 v2 v3 v4 v5 ∧ (v2 - 1) = SN v0 v1 v2 v3 v4 v5 ∧ v3 = SR v0 v1 v2 v3 v4 v5 ∧ (False ↔ SG v0 v1 v2 v3 v4 v5 = true) ∧ (0 : Int) = SE v0 v1 v2 v3 v4 v5 ∧ True)) ∧
        (¬ (0 < v2) →
          v0 = SC v0 v1 v2 v3 v4 v5 ∧ v1 = SW v0 v1 v2 v3 v4 v5 ∧ v2 = SN v0 v1 v2 v3 v4 v5 ∧ v3 = SR v0 v1 v2 v3 v4 v5 ∧ (False ↔ SG v0 v1 v2 v3 v4 v5 = true) ∧ (0 : Int) = SE v0 v1 v2 v3 v4 v5 ∧ True)) ∧
      (¬ (v4 = 0) →
        (v4 = 1 →
          v0 = SC v0 v1 v2 v3 v4 v5 ∧ v1 = SW v0 v1 v2 v3 v4 v5 ∧ v2 = SN v0 v1 v2 v3 v4 v5 ∧ v3 = SR v0 v1 v2 v3 v4 v5 ∧ (False ↔ SG v0 v1 v2 v3 v4 v5 = true) ∧ (0 : Int) = SE v0 v1 v2 v3 v4 v5 ∧ True) ∧
        (¬ (v4 = 1) →
          (0 < v2 →
            (0 : Int) = SC v0 v1 v2 v3 v4 v5 ∧ (0 : Int) = SW v0 v1 v2 v3 v4 v5 ∧ (0 : Int) = SN v0 v1 v2 v3 v4 v5 ∧ (0 : Int) = SR v0 v1 v2 v3 v4 v5 ∧ (False ↔ SG v0 v1 v2 v3 v4 v5 = true) ∧ (20 : Int) = SE v0 v1 v2 v3 v4 v5 ∧ True) ∧
          (¬ (0 < v2) →
            (v4 = 2 →
              (0 ≤ v0 ∧ v0 ≤ 3 ∧ 0 ≤ (0 : Int) ∧ (0 : Int) ≤ 6 ∧ 0 ≤ v5 ∧ v5 ≤ 1099511627776) ∧ (∀ (v8 : Int) (v9 : Int) (v10 : Int) (v11 : Int), v8 = v0 → v9 = aft v0 (0 : Int) → v10 = drN v0 (0 : Int) v5 → v11 = (0 : Int) → 
              v8 = SC v0 v1 v2 v3 v4 v5 ∧ v9 = SW v0 v1 v2 v3 v4 v5 ∧ v10 = SN v0 v1 v2 v3 v4 v5 ∧ v11 = SR v0 v1 v2 v3 v4 v5 ∧ (False ↔ SG v0 v1 v2 v3 v4 v5 = true) ∧ (0 : Int) = SE v0 v1 v2 v3 v4 v5 ∧ True)) ∧
            (¬ (v4 = 2) →
              (0 ≤ v0 ∧ v0 ≤ 3 ∧ 0 ≤ v3 ∧ v3 ≤ 6 ∧ 0 ≤ v2 ∧ 0 ≤ v5 ∧ v5 ≤ 1099511627776) ∧ (∀ (v8 : Int) (v9 : Int) (v10 : Int) (v11 : Int) (v12 : Bool), v8 = v0 → v9 = stW v0 v1 v2 v3 3 v5 → v10 = stN v0 v1 v2 v3 3 v5 → v11 = stT v0 v1 v2 v3 3 v5 → v12 = stG v0 v1 v2 v3 3 v5 → 
              v8 = SC v0 v1 v2 v3 v4 v5 ∧ v9 = SW v0 v1 v2 v3 v4 v5 ∧ v10 = SN v0 v1 v2 v3 v4 v5 ∧ v11 = SR v0 v1 v2 v3 v4 v5 ∧ (v12 = true ↔ SG v0 v1 v2 v3 v4 v5 = true) ∧ (0 : Int) = SE v0 v1 v2 v3 v4 v5 ∧ True)))))))))
/-! hotspotref14.draw -/
def sig32 : CSig := ⟨[⟨false, [.slc [.int .i64]]⟩, ⟨false, [.int .i64]⟩], [⟨false, [.int .i64]⟩]⟩
def pre32 : List AV → Prop
  | [.a v0, .i v1, .i v2] => 0 ≤ v2
  | _ => False
noncomputable def raw32 : List AV → List AV
  | [.a v0, .i v1, .i v2] => [.i (drA v0 v1 v2)]
  | _ => []

def VC32 : Prop :=
  ∀ (v0 : Int → Nat → Int) (v1 : Int) (v2 : Int),
  (0 ≤ v2) →
  (0 ≤ v1 →
  (v1 ≤ 9223372036854775807 →
  (v2 < v1 →
    0 ≤ v2 ∧ (0 ≤ v2 →
    (v0 v2 0) = drA v0 v1 v2 ∧ True)) ∧
  (¬ (v2 < v1) →
    (0 : Int) = drA v0 v1 v2 ∧ True)))
/-! hotspotref14.Run -/
def sig23 : CSig := ⟨[⟨true, [.int .u8, .int .i64, .int .i64, .int .i64]⟩, ⟨false, [.slc [.int .u8]]⟩, ⟨false, [.slc [.int .i64]]⟩], [⟨true, [.int .u8, .int .i64, .int .i64, .int .i64]⟩, ⟨false, [.int .i64]⟩, ⟨false, [.int .i64]⟩]⟩
def pre23 : List AV → Prop
  | [.i v0, .i v1, .i v2, .i v3, .a v4, .i v5, .a v6, .i v7] => 0 ≤ v0 ∧ v0 ≤ 255 ∧ (∀ i, 0 ≤ i → i < v5 → 0 ≤ v4 i 0 ∧ v4 i 0 ≤ 255)
  | _ => False
noncomputable def raw23 : List AV → List AV
  | [.i v0, .i v1, .i v2, .i v3, .a v4, .i v5, .a v6, .i v7] => [.i (rnC v0 v1 v2 v3 v4 v5 v6 v7), .i (rnW v0 v1 v2 v3 v4 v5 v6 v7), .i (rnN v0 v1 v2 v3 v4 v5 v6 v7), .i (rnT v0 v1 v2 v3 v4 v5 v6 v7), .i (rnM v0 v1 v2 v3 v4 v5 v6 v7), .i (rnE v0 v1 v2 v3 v4 v5 v6 v7)]
  | _ => []

def VC23 : Prop :=
  ∀ (v0 : Int) (v1 : Int) (v2 : Int) (v3 : Int) (v4 : Int → Nat → Int) (v5 : Int) (v6 : Int → Nat → Int) (v7 : Int),
  (0 ≤ v0 ∧ v0 ≤ 255 ∧ (∀ i, 0 ≤ i → i < v5 → 0 ≤ v4 i 0 ∧ v4 i 0 ≤ 255)) →
  (0 ≤ v5 →
  (0 ≤ v7 →
  (0 ≤ v0 ∧ v0 ≤ 255) ∧ (∀ (v8 : Int), v8 = chkE v0 v1 v2 v3 → 
  (v5 ≤ 9223372036854775807 →
  (v7 ≤ 9223372036854775807 →
  (¬ (v8 = 0) →
    (0 : Int) = rnC v0 v1 v2 v3 v4 v5 v6 v7 ∧ (0 : Int) = rnW v0 v1 v2 v3 v4 v5 v6 v7 ∧ (0 : Int) = rnN v0 v1 v2 v3 v4 v5 v6 v7 ∧ (0 : Int) = rnT v0 v1 v2 v3 v4 v5 v6 v7 ∧ (0 : Int) = rnM v0 v1 v2 v3 v4 v5 v6 v7 ∧ (8 : Int) = rnE v0 v1 v2 v3 v4 v5 v6 v7 ∧ True) ∧
  (¬ (¬ (v8 = 0)) →
    ∃ (I0 : (Int) → (Int) → (Int) → (Int) → (Int) → (Int) → (Int) → Prop) (μ0 : (Int) → (Int) → (Int) → (Int) → (Int) → (Int) → (Int) → Nat), I0 v0 v1 v2 v3 (0 : Int) (0 : Int) (0 : Int) ∧ (∀ (v9 : Int) (v10 : Int) (v11 : Int) (v12 : Int) (v13 : Int) (v14 : Int) (v15 : Int), I0 v9 v10 v11 v12 v13 v14 v15 →
      (v14 < v5 →
        0 ≤ v14 ∧ (0 ≤ v14 →
        (((v4 v14 0) = 2 ∨ (v4 v14 0) = 3) →
          (0 ≤ v15) ∧ (∀ (v16 : Int), v16 = drA v6 v7 v15 → 
          (-9223372036854775808 ≤ (v15 + 1) ∧ (v15 + 1) ≤ 9223372036854775807) ∧ ((-9223372036854775808 ≤ (v15 + 1) ∧ (v15 + 1) ≤ 9223372036854775807) →
          (0 ≤ v9 ∧ v9 ≤ 255 ∧ 0 ≤ (v4 v14 0) ∧ (v4 v14 0) ≤ 255) ∧ (∀ (v17 : Int) (v18 : Int) (v19 : Int) (v20 : Int) (v21 : Bool) (v22 : Int), v17 = SC v9 v10 v11 v12 (v4 v14 0) v16 → v18 = SW v9 v10 v11 v12 (v4 v14 0) v16 → v19 = SN v9 v10 v11 v12 (v4 v14 0) v16 → v20 = SR v9 v10 v11 v12 (v4 v14 0) v16 → v21 = SG v9 v10 v11 v12 (v4 v14 0) v16 → v22 = SE v9 v10 v11 v12 (v4 v14 0) v16 → 
          (¬ (v22 = 0) →
            (0 : Int) = rnC v0 v1 v2 v3 v4 v5 v6 v7 ∧ (0 : Int) = rnW v0 v1 v2 v3 v4 v5 v6 v7 ∧ (0 : Int) = rnN v0 v1 v2 v3 v4 v5 v6 v7 ∧ (0 : Int) = rnT v0 v1 v2 v3 v4 v5 v6 v7 ∧ (0 : Int) = rnM v0 v1 v2 v3 v4 v5 v6 v7 ∧ v22 = rnE v0 v1 v2 v3 v4 v5 v6 v7 ∧ True) ∧
          (¬ (¬ (v22 = 0)) →
            (v21 = true →
              (-9223372036854775808 ≤ (v13 + 1) ∧ (v13 + 1) ≤ 9223372036854775807) ∧ ((-9223372036854775808 ≤ (v13 + 1) ∧ (v13 + 1) ≤ 9223372036854775807) →
              (-9223372036854775808 ≤ (v14 + 1) ∧ (v14 + 1) ≤ 9223372036854775807) ∧ ((-9223372036854775808 ≤ (v14 + 1) ∧ (v14 + 1) ≤ 9223372036854775807) →
              I0 v17 v18 v19 v20 (v13 + 1) (v14 + 1) (v15 + 1) ∧ μ0 v17 v18 v19 v20 (v13 + 1) (v14 + 1) (v15 + 1) < μ0 v9 v10 v11 v12 v13 v14 v15))) ∧
            (¬ (v21 = true) →
              (-9223372036854775808 ≤ (v14 + 1) ∧ (v14 + 1) ≤ 9223372036854775807) ∧ ((-9223372036854775808 ≤ (v14 + 1) ∧ (v14 + 1) ≤ 9223372036854775807) →
              I0 v17 v18 v19 v20 v13 (v14 + 1) (v15 + 1) ∧ μ0 v17 v18 v19 v20 v13 (v14 + 1) (v15 + 1) < μ0 v9 v10 v11 v12 v13 v14 v15))))))) ∧
        (¬ (((v4 v14 0) = 2 ∨ (v4 v14 0) = 3)) →
          (0 ≤ v9 ∧ v9 ≤ 255 ∧ 0 ≤ (v4 v14 0) ∧ (v4 v14 0) ≤ 255) ∧ (∀ (v16 : Int) (v17 : Int) (v18 : Int) (v19 : Int) (v20 : Bool) (v21 : Int), v16 = SC v9 v10 v11 v12 (v4 v14 0) (0 : Int) → v17 = SW v9 v10 v11 v12 (v4 v14 0) (0 : Int) → v18 = SN v9 v10 v11 v12 (v4 v14 0) (0 : Int) → v19 = SR v9 v10 v11 v12 (v4 v14 0) (0 : Int) → v20 = SG v9 v10 v11 v12 (v4 v14 0) (0 : Int) → v21 = SE v9 v10 v11 v12 (v4 v14 0) (0 : Int) → 
          (¬ (v21 = 0) →
            (0 : Int) = rnC v0 v1 v2 v3 v4 v5 v6 v7 ∧ (0 : Int) = rnW v0 v1 v2 v3 v4 v5 v6 v7 ∧ (0 : Int) = rnN v0 v1 v2 v3 v4 v5 v6 v7 ∧ (0 : Int) = rnT v0 v1 v2 v3 v4 v5 v6 v7 ∧ (0 : Int) = rnM v0 v1 v2 v3 v4 v5 v6 v7 ∧ v21 = rnE v0 v1 v2 v3 v4 v5 v6 v7 ∧ True) ∧
          (¬ (¬ (v21 = 0)) →
            (v20 = true →
              (-9223372036854775808 ≤ (v13 + 1) ∧ (v13 + 1) ≤ 9223372036854775807) ∧ ((-9223372036854775808 ≤ (v13 + 1) ∧ (v13 + 1) ≤ 9223372036854775807) →
              (-9223372036854775808 ≤ (v14 + 1) ∧ (v14 + 1) ≤ 9223372036854775807) ∧ ((-9223372036854775808 ≤ (v14 + 1) ∧ (v14 + 1) ≤ 9223372036854775807) →
              I0 v16 v17 v18 v19 (v13 + 1) (v14 + 1) v15 ∧ μ0 v16 v17 v18 v19 (v13 + 1) (v14 + 1) v15 < μ0 v9 v10 v11 v12 v13 v14 v15))) ∧
            (¬ (v20 = true) →
              (-9223372036854775808 ≤ (v14 + 1) ∧ (v14 + 1) ≤ 9223372036854775807) ∧ ((-9223372036854775808 ≤ (v14 + 1) ∧ (v14 + 1) ≤ 9223372036854775807) →
              I0 v16 v17 v18 v19 v13 (v14 + 1) v15 ∧ μ0 v16 v17 v18 v19 v13 (v14 + 1) v15 < μ0 v9 v10 v11 v12 v13 v14 v15))))))) ∧
      (¬ (v14 < v5) →
        v9 = rnC v0 v1 v2 v3 v4 v5 v6 v7 ∧ v10 = rnW v0 v1 v2 v3 v4 v5 v6 v7 ∧ v11 = rnN v0 v1 v2 v3 v4 v5 v6 v7 ∧ v12 = rnT v0 v1 v2 v3 v4 v5 v6 v7 ∧ v13 = rnM v0 v1 v2 v3 v4 v5 v6 v7 ∧ (0 : Int) = rnE v0 v1 v2 v3 v4 v5 v6 v7 ∧ True))))))))
/-! hotspotlaw14.BackoffRuns -/
def sig8 : CSig := ⟨[⟨true, [.int .u8, .int .i64, .int .i64, .int .i64]⟩, ⟨false, [.slc [.int .u8]]⟩, ⟨false, [.slc [.int .i64]]⟩], [⟨false, [.bool]⟩]⟩
def pre8 : List AV → Prop
  | [.i v0, .i v1, .i v2, .i v3, .a v4, .i v5, .a v6, .i v7] => 0 ≤ v0 ∧ v0 ≤ 255 ∧ (∀ i, 0 ≤ i → i < v5 → 0 ≤ v4 i 0 ∧ v4 i 0 ≤ 255)
  | _ => False
noncomputable def raw8 : List AV → List AV
  | [.i v0, .i v1, .i v2, .i v3, .a v4, .i v5, .a v6, .i v7] => [.b (true)]
  | _ => []

def VC8 : Prop :=
  ∀ (v0 : Int) (v1 : Int) (v2 : Int) (v3 : Int) (v4 : Int → Nat → Int) (v5 : Int) (v6 : Int → Nat → Int) (v7 : Int),
  (0 ≤ v0 ∧ v0 ≤ 255 ∧ (∀ i, 0 ≤ i → i < v5 → 0 ≤ v4 i 0 ∧ v4 i 0 ≤ 255)) →
  (0 ≤ v5 →
  (0 ≤ v7 →
  (v5 ≤ 9223372036854775807 →
  (v7 ≤ 9223372036854775807 →
  ((500 < v5 ∨ 500 < v7) →
    (True ↔ true = true) ∧ True) ∧
  (¬ ((500 < v5 ∨ 500 < v7)) →
    (v7 * 8) ≤ 140737488355328 ∧ ((v7 * 8) ≤ 140737488355328 →
    v7 ≤ 140737488355328 ∧ (v7 ≤ 140737488355328 →
    (0 ≤ v0 ∧ v0 ≤ 255) ∧ (∀ (v8 : Int) (v9 : Int) (v10 : Int) (v11 : Int) (v12 : Int) (v13 : Int), v8 = rnC v0 v1 v2 v3 v4 v5 v6 v7 → v9 = rnW v0 v1 v2 v3 v4 v5 v6 v7 → v10 = rnN v0 v1 v2 v3 v4 v5 v6 v7 → v11 = rnT v0 v1 v2 v3 v4 v5 v6 v7 → v12 = rnM v0 v1 v2 v3 v4 v5 v6 v7 → v13 = rnE v0 v1 v2 v3 v4 v5 v6 v7 → 
    (0 ≤ v0 ∧ v0 ≤ 255 ∧ (∀ i, 0 ≤ i → i < v5 → 0 ≤ v4 i 0 ∧ v4 i 0 ≤ 255)) ∧ (∀ (v14 : Int) (v15 : Int) (v16 : Int) (v17 : Int) (v18 : Int) (v19 : Int), v14 = rnC v0 v1 v2 v3 v4 v5 v6 v7 → v15 = rnW v0 v1 v2 v3 v4 v5 v6 v7 → v16 = rnN v0 v1 v2 v3 v4 v5 v6 v7 → v17 = rnT v0 v1 v2 v3 v4 v5 v6 v7 → v18 = rnM v0 v1 v2 v3 v4 v5 v6 v7 → v19 = rnE v0 v1 v2 v3 v4 v5 v6 v7 → 
    (((¬ ((v8 = v14 ∧ (v9 = v15 ∧ (v10 = v16 ∧ v11 = v17)))) ∨ ¬ (v12 = v18)) ∨ ¬ (v13 = v19)) →
      (False ↔ true = true) ∧ True) ∧
    (¬ (((¬ ((v8 = v14 ∧ (v9 = v15 ∧ (v10 = v16 ∧ v11 = v17)))) ∨ ¬ (v12 = v18)) ∨ ¬ (v13 = v19))) →
      ∃ (I0 : (Int) → Prop) (μ0 : (Int) → Nat), I0 (0 : Int) ∧ (∀ (v20 : Int), I0 v20 →
        (v20 < v7 →
          0 ≤ v20 ∧ (0 ≤ v20 →
          (¬ ((v6 v20 0) = (v6 v20 0)) →
            (False ↔ true = true) ∧ True) ∧
          (¬ (¬ ((v6 v20 0) = (v6 v20 0))) →
            (-9223372036854775808 ≤ (v20 + 1) ∧ (v20 + 1) ≤ 9223372036854775807) ∧ ((-9223372036854775808 ≤ (v20 + 1) ∧ (v20 + 1) ≤ 9223372036854775807) →
            I0 (v20 + 1) ∧ μ0 (v20 + 1) < μ0 v20)))) ∧
        (¬ (v20 < v7) →
          (True ↔ true = true) ∧ True))))))))))))
/-! hotspotlaw14.alive -/
def sig19 : CSig := ⟨[], [⟨false, [.bool]⟩]⟩
def pre19 : List AV → Prop
  | [] => True
  | _ => False
noncomputable def raw19 : List AV → List AV
  | [] => [.b (true)]
  | _ => []

def VC19 : Prop :=
  (True) →
  (True ↔ true = true) ∧ True
/-! hotspotlaw14.BackoffWaits -/
def sig9 : CSig := ⟨[⟨true, [.int .u8, .int .i64, .int .i64, .int .i64]⟩, ⟨false, [.slc [.bool]]⟩], [⟨false, [.bool]⟩]⟩
def pre9 : List AV → Prop
  | [.i v0, .i v1, .i v2, .i v3, .a v4, .i v5] => 0 ≤ v0 ∧ v0 ≤ 255
  | _ => False
noncomputable def raw9 : List AV → List AV
  | [.i v0, .i v1, .i v2, .i v3, .a v4, .i v5] => [.b (true)]
  | _ => []

def VC9 : Prop :=
  ∀ (v0 : Int) (v1 : Int) (v2 : Int) (v3 : Int) (v4 : Int → Nat → Int) (v5 : Int),
  (0 ≤ v0 ∧ v0 ≤ 255) →
  (0 ≤ v5 →
  (True) ∧ (∀ (v6 : Bool), v6 = true → 
  (v5 ≤ 9223372036854775807 →
  ((¬ (500 < v5) → 0 ≤ v0 ∧ v0 ≤ 255)) ∧ (∀ (v7 : Int), v7 = chkE v0 v1 v2 v3 → 
  (((500 < v5 ∨ ¬ (v7 = 0)) ∨ ¬ (v6 = true)) →
    (v6 = true ↔ true = true) ∧ True) ∧
  (¬ (((500 < v5 ∨ ¬ (v7 = 0)) ∨ ¬ (v6 = true))) →
    ∃ (I0 : (Int → Nat → Int) → (Int) → (Int) → (Int) → Prop) (μ0 : (Int → Nat → Int) → (Int) → (Int) → (Int) → Nat), I0 zA (0 : Int) (0 : Int) (0 : Int) ∧ (∀ (v8 : Int → Nat → Int) (v9 : Int) (v10 : Int) (v11 : Int), I0 v8 v9 v10 v11 →
      (0 ≤ v9 →
      (v9 ≤ 9223372036854775807 →
      (v11 < v5 →
        0 ≤ v11 ∧ (0 ≤ v11 →
        (¬ ((v4 v11 0) = 0) →
          ((v9 + 1) * 1) ≤ 140737488355328 ∧ (((v9 + 1) * 1) ≤ 140737488355328 →
          (v9 + 1) ≤ 140737488355328 ∧ ((v9 + 1) ≤ 140737488355328 →
          (-9223372036854775808 ≤ (v11 + 1) ∧ (v11 + 1) ≤ 9223372036854775807) ∧ ((-9223372036854775808 ≤ (v11 + 1) ∧ (v11 + 1) ≤ 9223372036854775807) →
          I0 (appA v8 v9 (setA zA 0 0 1)) (v9 + 1) v10 (v11 + 1) ∧ μ0 (appA v8 v9 (setA zA 0 0 1)) (v9 + 1) v10 (v11 + 1) < μ0 v8 v9 v10 v11)))) ∧
        (¬ (¬ ((v4 v11 0) = 0)) →
          (-9223372036854775808 ≤ (v10 + 1) ∧ (v10 + 1) ≤ 9223372036854775807) ∧ ((-9223372036854775808 ≤ (v10 + 1) ∧ (v10 + 1) ≤ 9223372036854775807) →
          ((v9 + 1) * 1) ≤ 140737488355328 ∧ (((v9 + 1) * 1) ≤ 140737488355328 →
          (v9 + 1) ≤ 140737488355328 ∧ ((v9 + 1) ≤ 140737488355328 →
          (-9223372036854775808 ≤ (v11 + 1) ∧ (v11 + 1) ≤ 9223372036854775807) ∧ ((-9223372036854775808 ≤ (v11 + 1) ∧ (v11 + 1) ≤ 9223372036854775807) →
          I0 (appA v8 v9 (setA zA 0 0 0)) (v9 + 1) (v10 + 1) (v11 + 1) ∧ μ0 (appA v8 v9 (setA zA 0 0 0)) (v9 + 1) (v10 + 1) (v11 + 1) < μ0 v8 v9 v10 v11))))))) ∧
      (¬ (v11 < v5) →
        (0 ≤ v0 ∧ v0 ≤ 255) ∧ (∀ (v12 : Int) (v13 : Int) (v14 : Int) (v15 : Int) (v16 : Int) (v17 : Int), v12 = rnC v0 v1 v2 v3 v8 v9 zA (0 : Int) → v13 = rnW v0 v1 v2 v3 v8 v9 zA (0 : Int) → v14 = rnN v0 v1 v2 v3 v8 v9 zA (0 : Int) → v15 = rnT v0 v1 v2 v3 v8 v9 zA (0 : Int) → v16 = rnM v0 v1 v2 v3 v8 v9 zA (0 : Int) → v17 = rnE v0 v1 v2 v3 v8 v9 zA (0 : Int) → 
        (¬ ((v17 = 0 ∧ v16 = 0)) ∨ (-9223372036854775808 ≤ (v2 - v10) ∧ (v2 - v10) ≤ 9223372036854775807)) ∧ ((¬ ((v17 = 0 ∧ v16 = 0)) ∨ (-9223372036854775808 ≤ (v2 - v10) ∧ (v2 - v10) ≤ 9223372036854775807)) →
        (((((v17 = 0 ∧ v16 = 0) ∧ v14 = (max (v2 - v10) 0)) ∧ v13 = v1) ∧ v15 = v3) ↔ true = true) ∧ True)))))))))))
end Go.Proofs.YtdikdhjfcnocdaaDoor
