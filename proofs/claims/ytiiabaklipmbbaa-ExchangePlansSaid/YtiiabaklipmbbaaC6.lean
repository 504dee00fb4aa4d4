/- What the functions do, and what is left to show of each. -/
import Derived.Test.YtiiabaklipmbbaaC
set_option linter.unusedVariables false
namespace Go.Proofs.Ytiiabaklipmbbaa
open Go Go.RowKit Go.Proofs.Ytiiabaklipmbbaa.Vc
/-! hotspotlaw15.ExchangePlans -/
def sig3 : CSig := ⟨[⟨true, [.int .u8, .int .u8, .int .i64, .slc [.int .i64], .int .i64, .int .i64, .int .i64, .int .i64, .int .i64]⟩], [⟨false, [.bool]⟩]⟩
def pre3 : List AV → Prop
  | [.i v0, .i v1, .i v2, .a v3, .i v4, .i v5, .i v6, .i v7, .i v8, .i v9] => True
  | _ => False
noncomputable def raw3 : List AV → List AV
  | [.i v0, .i v1, .i v2, .a v3, .i v4, .i v5, .i v6, .i v7, .i v8, .i v9] => [.b (true)]
  | _ => []

def VC3 : Prop :=
  ∀ (v0 : Int) (v1 : Int) (v2 : Int) (v3 : Int → Nat → Int) (v4 : Int) (v5 : Int) (v6 : Int) (v7 : Int) (v8 : Int) (v9 : Int),
  (True) →
  (0 ≤ v4 →
  (v4 ≤ 9223372036854775807 →
  (20 < v4 →
    (True ↔ true = true) ∧ True) ∧
  (¬ (20 < v4) →
    (v4 * 8) ≤ 140737488355328 ∧ ((v4 * 8) ≤ 140737488355328 →
    v4 ≤ 140737488355328 ∧ (v4 ≤ 140737488355328 →
    (True) ∧ (∀ (v10 : Int → Nat → Int) (v11 : Int) (v12 : Int), v10 = exRow (Xc.mk v0 v1 v2 v3 v4 v5 v6 v7 v8 v9) (plN (Xc.mk v0 v1 v2 v3 v4 v5 v6 v7 v8 v9)) → v11 = plL (Xc.mk v0 v1 v2 v3 v4 v5 v6 v7 v8 v9) → v12 = plE (Xc.mk v0 v1 v2 v3 v4 v5 v6 v7 v8 v9) → 
    (0 ≤ v11 →
    (True) ∧ (∀ (v13 : Int → Nat → Int) (v14 : Int) (v15 : Int), v13 = exRow (Xc.mk v0 v1 v2 v3 v4 v5 v6 v7 v8 v9) (plN (Xc.mk v0 v1 v2 v3 v4 v5 v6 v7 v8 v9)) → v14 = plL (Xc.mk v0 v1 v2 v3 v4 v5 v6 v7 v8 v9) → v15 = plE (Xc.mk v0 v1 v2 v3 v4 v5 v6 v7 v8 v9) → 
    (0 ≤ v14 →
    (v11 ≤ 9223372036854775807 →
    (True) ∧ (∀ (v16 : Bool), v16 = smP v10 v11 v13 v14 → 
    (v14 ≤ 9223372036854775807 →
    (((v16 = true ∧ v12 = v15) → True)) ∧ (∀ (v17 : Bool), v17 = smZ v3 v4 v3 v4 → 
    (((v16 = true ∧ v12 = v15) ∧ v17 = true) ↔ true = true) ∧ True)))))))))))))
end Go.Proofs.Ytiiabaklipmbbaa
