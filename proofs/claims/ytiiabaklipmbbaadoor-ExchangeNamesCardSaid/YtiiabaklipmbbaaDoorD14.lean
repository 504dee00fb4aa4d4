/- Comparing what came of sequences, in plain words. -/
import Derived.Test.YtiiabaklipmbbaaDoorD9
namespace Go.Proofs.YtiiabaklipmbbaaDoor
open Go Go.RowKit Go.Proofs.YtiiabaklipmbbaaDoor.Vc
noncomputable def spB (s : Int) (g : Int → Nat → Int) (gn : Int) (k : Int → Nat → Int) (kn : Int) (s' : Int) (g' : Int → Nat → Int) (gn' : Int) (k' : Int → Nat → Int) (kn' : Int) : Bool := decide (s = s') && (smZ g gn g' gn' && smZ k kn k' kn')
def eqN (a b : Int → Nat → Int) : Nat → Bool
  | 0 => true
  | k + 1 => eqN a b k && decide (a k 0 = b k 0)
theorem eqN_at {a b : Int → Nat → Int} : ∀ {k : Nat}, eqN a b k = true → ∀ i : Int, 0 ≤ i → i < k → a i 0 = b i 0
  | 0, _, i, i0, i1 => by omega
  | k + 1, h, i, i0, i1 => by
    unfold eqN at h
    rw [Bool.and_eq_true, decide_eq_true_eq] at h
    by_cases hi : i = k
    · subst hi; exact h.2
    · exact eqN_at h.1 i i0 (by omega)
open Classical in
theorem sm_of {a b : Int → Nat → Int} {n m : Int} (h : n = m) (he : eqN a b n.toNat = true) : smZ a n b m = true := by
  unfold smZ
  exact decide_eq_true ⟨h, fun i i0 i1 => eqN_at he i i0 (by omega)⟩
theorem sp_of {s gn kn s' gn' kn' : Int} {g k g' k' : Int → Nat → Int} (h : s = s') (hg : gn = gn') (eg : eqN g g' gn.toNat = true) (hk : kn = kn') (ek : eqN k k' kn.toNat = true) : spB s g gn k kn s' g' gn' k' kn' = true := by
  unfold spB
  rw [decide_eq_true h, sm_of hg eg, sm_of hk ek]; rfl
end Go.Proofs.YtiiabaklipmbbaaDoor
