/- What the functions do, and what is left to show of each. -/
import Derived.Test.YtiiabaklipmbbaaDoorC
set_option linter.unusedVariables false
namespace Go.Proofs.YtiiabaklipmbbaaDoor
open Go Go.RowKit Go.Proofs.YtiiabaklipmbbaaDoor.Vc
/-! hotspotref15.SamePlayed -/
def sig11 : CSig := ⟨[⟨true, [.int .i64, .slc [.int .i64], .slc [.int .i64]]⟩, ⟨true, [.int .i64, .slc [.int .i64], .slc [.int .i64]]⟩], [⟨false, [.bool]⟩]⟩
def pre11 : List AV → Prop
  | [.i v0, .a v1, .i v2, .a v3, .i v4, .i v5, .a v6, .i v7, .a v8, .i v9] => True
  | _ => False
noncomputable def raw11 : List AV → List AV
  | [.i v0, .a v1, .i v2, .a v3, .i v4, .i v5, .a v6, .i v7, .a v8, .i v9] => [.b ((hidF spB) v0 v1 v2 v3 v4 v5 v6 v7 v8 v9)]
  | _ => []

def VH11 : Prop :=
  ∀ (v0 : Int) (v1 : Int → Nat → Int) (v2 : Int) (v3 : Int → Nat → Int) (v4 : Int) (v5 : Int) (v6 : Int → Nat → Int) (v7 : Int) (v8 : Int → Nat → Int) (v9 : Int),
  (True) →
  (0 ≤ v2 →
  (0 ≤ v4 →
  (0 ≤ v7 →
  (0 ≤ v9 →
  ((v0 = v5 → True)) ∧ (∀ (v10 : Bool), v10 = smZ v1 v2 v6 v7 → 
  (v2 ≤ 9223372036854775807 →
  (v4 ≤ 9223372036854775807 →
  (v7 ≤ 9223372036854775807 →
  (v9 ≤ 9223372036854775807 →
  (((v0 = v5 ∧ v10 = true) → True)) ∧ (∀ (v11 : Bool), v11 = smZ v3 v4 v8 v9 → 
  (((v0 = v5 ∧ v10 = true) ∧ v11 = true) ↔ (hidF spB) v0 v1 v2 v3 v4 v5 v6 v7 v8 v9 = true) ∧ True))))))))))
def VC11 : Prop :=
  ∀ (v0 : Int) (v1 : Int → Nat → Int) (v2 : Int) (v3 : Int → Nat → Int) (v4 : Int) (v5 : Int) (v6 : Int → Nat → Int) (v7 : Int) (v8 : Int → Nat → Int) (v9 : Int),
  (True) →
  (0 ≤ v2 →
  (0 ≤ v4 →
  (0 ≤ v7 →
  (0 ≤ v9 →
  ((v0 = v5 → True)) ∧ (∀ (v10 : Bool), v10 = smZ v1 v2 v6 v7 → 
  (v2 ≤ 9223372036854775807 →
  (v4 ≤ 9223372036854775807 →
  (v7 ≤ 9223372036854775807 →
  (v9 ≤ 9223372036854775807 →
  (((v0 = v5 ∧ v10 = true) → True)) ∧ (∀ (v11 : Bool), v11 = smZ v3 v4 v8 v9 → 
  (((v0 = v5 ∧ v10 = true) ∧ v11 = true) ↔ spB v0 v1 v2 v3 v4 v5 v6 v7 v8 v9 = true) ∧ True))))))))))
theorem vh11 (h : VC11) : VH11 := by
  unfold VH11
  rw [hidF_eq spB]
  exact h
end Go.Proofs.YtiiabaklipmbbaaDoor
