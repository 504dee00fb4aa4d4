/- What the functions do, and what is left to show of each. -/
import Derived.Test.YtiiabaklipmbbaaC
set_option linter.unusedVariables false
namespace Go.Proofs.Ytiiabaklipmbbaa
open Go Go.RowKit Go.Proofs.Ytiiabaklipmbbaa.Vc
/-! hotspotref15.Plan -/
def sig8 : CSig := ⟨[⟨true, [.int .u8, .int .u8, .int .i64, .slc [.int .i64], .int .i64, .int .i64, .int .i64, .int .i64, .int .i64]⟩], [⟨false, [.slc [.int .u8, .bool, .int .i64, .int .i64, .int .i64, .int .i64]]⟩, ⟨false, [.int .i64]⟩]⟩
def pre8 : List AV → Prop
  | [.i v0, .i v1, .i v2, .a v3, .i v4, .i v5, .i v6, .i v7, .i v8, .i v9] => True
  | _ => False
noncomputable def raw8 : List AV → List AV
  | [.i v0, .i v1, .i v2, .a v3, .i v4, .i v5, .i v6, .i v7, .i v8, .i v9] => [.a (exRow (Xc.mk v0 v1 v2 v3 v4 v5 v6 v7 v8 v9) (plN (Xc.mk v0 v1 v2 v3 v4 v5 v6 v7 v8 v9))), .i (plL (Xc.mk v0 v1 v2 v3 v4 v5 v6 v7 v8 v9)), .i (plE (Xc.mk v0 v1 v2 v3 v4 v5 v6 v7 v8 v9))]
  | _ => []

def VC8 : Prop :=
  ∀ (v0 : Int) (v1 : Int) (v2 : Int) (v3 : Int → Nat → Int) (v4 : Int) (v5 : Int) (v6 : Int) (v7 : Int) (v8 : Int) (v9 : Int),
  (True) →
  (0 ≤ v4 →
  (True) ∧ (∀ (v10 : Bool), v10 = exV (Xc.mk v0 v1 v2 v3 v4 v5 v6 v7 v8 v9) → 
  (v4 ≤ 9223372036854775807 →
  (¬ (v10 = true) →
    (0 : Int) = plL (Xc.mk v0 v1 v2 v3 v4 v5 v6 v7 v8 v9) ∧ (∀ (i : Int) (f : Nat), 0 ≤ i → i < plL (Xc.mk v0 v1 v2 v3 v4 v5 v6 v7 v8 v9) → f < 6 → zA i f = exRow (Xc.mk v0 v1 v2 v3 v4 v5 v6 v7 v8 v9) (plN (Xc.mk v0 v1 v2 v3 v4 v5 v6 v7 v8 v9)) i f) ∧ (2 : Int) = plE (Xc.mk v0 v1 v2 v3 v4 v5 v6 v7 v8 v9) ∧ True) ∧
  (¬ (¬ (v10 = true)) →
    (exOk (Xc.mk v0 v1 v2 v3 v4 v5 v6 v7 v8 v9) ∧ 1 ≤ (1 : Int) ∧ (1 : Int) ≤ v4) ∧ (∀ (v11 : Int → Nat → Int) (v12 : Int), v11 = exRow (Xc.mk v0 v1 v2 v3 v4 v5 v6 v7 v8 v9) (1 : Int) → v12 = exL (Xc.mk v0 v1 v2 v3 v4 v5 v6 v7 v8 v9) (1 : Int) → 
    (0 ≤ v12 →
    (v12 ≤ 9223372036854775807 →
    ∃ (I0 : (Int → Nat → Int) → (Int) → (Int) → Prop) (μ0 : (Int → Nat → Int) → (Int) → (Int) → Nat), I0 v11 v12 (2 : Int) ∧ (∀ (v13 : Int → Nat → Int) (v14 : Int) (v15 : Int), I0 v13 v14 v15 →
      (0 ≤ v14 →
      (v14 ≤ 9223372036854775807 →
      (v15 ≤ v4 →
        (exOk (Xc.mk v0 v1 v2 v3 v4 v5 v6 v7 v8 v9) ∧ 1 ≤ v15 ∧ v15 ≤ v4) ∧ (∀ (v16 : Int → Nat → Int) (v17 : Int), v16 = exRow (Xc.mk v0 v1 v2 v3 v4 v5 v6 v7 v8 v9) v15 → v17 = exL (Xc.mk v0 v1 v2 v3 v4 v5 v6 v7 v8 v9) v15 → 
        (0 ≤ v17 →
        (v17 ≤ 9223372036854775807 →
        (¬ (0 < v2) ∨ (-9223372036854775808 ≤ (v17 - 1) ∧ (v17 - 1) ≤ 9223372036854775807)) ∧ ((¬ (0 < v2) ∨ (-9223372036854775808 ≤ (v17 - 1) ∧ (v17 - 1) ≤ 9223372036854775807)) →
        (¬ (0 < v2) ∨ 0 ≤ (v17 - 1)) ∧ ((¬ (0 < v2) ∨ 0 ≤ (v17 - 1)) →
        (¬ (0 < v2) ∨ (v17 - 1) < v17) ∧ ((¬ (0 < v2) ∨ (v17 - 1) < v17) →
        (¬ (0 < v2) ∨ 0 ≤ (v17 - 1)) ∧ ((¬ (0 < v2) ∨ 0 ≤ (v17 - 1)) →
        (¬ (0 < v2) ∨ (v17 - 1) < v17) ∧ ((¬ (0 < v2) ∨ (v17 - 1) < v17) →
        (¬ (0 < v2) ∨ (-9223372036854775808 ≤ (v17 - 1) ∧ (v17 - 1) ≤ 9223372036854775807)) ∧ ((¬ (0 < v2) ∨ (-9223372036854775808 ≤ (v17 - 1) ∧ (v17 - 1) ≤ 9223372036854775807)) →
        (¬ (0 < v2) ∨ 0 ≤ (v17 - 1)) ∧ ((¬ (0 < v2) ∨ 0 ≤ (v17 - 1)) →
        (¬ (0 < v2) ∨ (v17 - 1) < v17) ∧ ((¬ (0 < v2) ∨ (v17 - 1) < v17) →
        (¬ (0 < v2) ∨ 0 ≤ (v17 - 1)) ∧ ((¬ (0 < v2) ∨ 0 ≤ (v17 - 1)) →
        (¬ (0 < v2) ∨ (v17 - 1) < v17) ∧ ((¬ (0 < v2) ∨ (v17 - 1) < v17) →
        (¬ (0 < v2) ∨ (-9223372036854775808 ≤ ((v16 (v17 - 1) 3) + (v16 (v17 - 1) 4)) ∧ ((v16 (v17 - 1) 3) + (v16 (v17 - 1) 4)) ≤ 9223372036854775807)) ∧ ((¬ (0 < v2) ∨ (-9223372036854775808 ≤ ((v16 (v17 - 1) 3) + (v16 (v17 - 1) 4)) ∧ ((v16 (v17 - 1) 3) + (v16 (v17 - 1) 4)) ≤ 9223372036854775807)) →
        ((0 < v2 ∧ ((v16 (v17 - 1) 3) + (v16 (v17 - 1) 4)) ≤ v2) →
          (-9223372036854775808 ≤ (v15 + 1) ∧ (v15 + 1) ≤ 9223372036854775807) ∧ ((-9223372036854775808 ≤ (v15 + 1) ∧ (v15 + 1) ≤ 9223372036854775807) →
          I0 v16 v17 (v15 + 1) ∧ μ0 v16 v17 (v15 + 1) < μ0 v13 v14 v15)) ∧
        (¬ ((0 < v2 ∧ ((v16 (v17 - 1) 3) + (v16 (v17 - 1) 4)) ≤ v2)) →
          (-9223372036854775808 ≤ (v15 + 1) ∧ (v15 + 1) ≤ 9223372036854775807) ∧ ((-9223372036854775808 ≤ (v15 + 1) ∧ (v15 + 1) ≤ 9223372036854775807) →
          I0 v13 v14 (v15 + 1) ∧ μ0 v13 v14 (v15 + 1) < μ0 v13 v14 v15))))))))))))))))) ∧
      (¬ (v15 ≤ v4) →
        0 < v14 ∧ (0 < v14 →
        (32767 < (v13 0 5) →
          (0 : Int) = plL (Xc.mk v0 v1 v2 v3 v4 v5 v6 v7 v8 v9) ∧ (∀ (i : Int) (f : Nat), 0 ≤ i → i < plL (Xc.mk v0 v1 v2 v3 v4 v5 v6 v7 v8 v9) → f < 6 → zA i f = exRow (Xc.mk v0 v1 v2 v3 v4 v5 v6 v7 v8 v9) (plN (Xc.mk v0 v1 v2 v3 v4 v5 v6 v7 v8 v9)) i f) ∧ (4 : Int) = plE (Xc.mk v0 v1 v2 v3 v4 v5 v6 v7 v8 v9) ∧ True) ∧
        (¬ (32767 < (v13 0 5)) →
          v14 = plL (Xc.mk v0 v1 v2 v3 v4 v5 v6 v7 v8 v9) ∧ (∀ (i : Int) (f : Nat), 0 ≤ i → i < plL (Xc.mk v0 v1 v2 v3 v4 v5 v6 v7 v8 v9) → f < 6 → v13 i f = exRow (Xc.mk v0 v1 v2 v3 v4 v5 v6 v7 v8 v9) (plN (Xc.mk v0 v1 v2 v3 v4 v5 v6 v7 v8 v9)) i f) ∧ (0 : Int) = plE (Xc.mk v0 v1 v2 v3 v4 v5 v6 v7 v8 v9) ∧ True)))))))))))))
end Go.Proofs.Ytiiabaklipmbbaa
