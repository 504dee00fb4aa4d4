/- What is due, what stays. -/
import Derived.Test.YtpbpmabnmakdoaaD
set_option linter.unusedVariables false
namespace Go.Proofs.Ytpbpmabnmakdoaa
open Go Go.RowKit Go.Proofs.Ytpbpmabnmakdoaa.Vc
structure Good (q : Int) (x : Int → Nat → Int) (n : Int) : Prop where
  n6 : n ≤ 256
  q0 : 0 ≤ q
  q1 : q ≤ 1099511627776
  el : ∀ i, 0 ≤ i → i < n → 0 ≤ x i 0 ∧ x i 0 ≤ 1099511627776 ∧ 0 ≤ x i 2 ∧ x i 2 < q
  sq : ∀ i j, 0 ≤ i → i < j → j < n → x i 2 < x j 2
noncomputable def chkT (q : Int) (x : Int → Nat → Int) (n : Int) : Int := by
  classical
  exact if Good q x n then 0 else 8
theorem chk_good {q : Int} {x : Int → Nat → Int} {n : Int} (h : Good q x n) : chkT q x n = 0 := by unfold chkT; rw [if_pos h]
theorem chk_bad {q : Int} {x : Int → Nat → Int} {n : Int} (h : ¬ Good q x n) : chkT q x n = 8 := by unfold chkT; rw [if_neg h]
theorem good_of {q : Int} {x : Int → Nat → Int} {n : Int} (h : chkT q x n = 0) : Good q x n := by
  by_cases g : Good q x n
  · exact g
  · rw [chk_bad g] at h; omega
/-- those that k keeps: how many, and the list with them in front -/
def filN (k : Int → Bool) (x : Int → Nat → Int) : Nat → Int
  | 0 => 0
  | t + 1 => if k (x t 0) = true then filN k x t + 1 else filN k x t
def rowS (a : Int → Nat → Int) (i : Int) (r : Nat → Int) : Int → Nat → Int := fun j f => if j = i then r f else a j f
def filA (k : Int → Bool) (x : Int → Nat → Int) : Nat → Int → Nat → Int
  | 0 => x
  | t + 1 => if k (x t 0) = true then rowS (filA k x t) (filN k x t) (x t) else filA k x t
section
variable {k : Int → Bool} {x : Int → Nat → Int}
theorem filN_le (t : Nat) : 0 ≤ filN k x t ∧ filN k x t ≤ t := by
  induction t with
  | zero => exact ⟨Int.le_refl _, Int.le_refl _⟩
  | succ t ih => unfold filN; split <;> omega
theorem filN_all {t : Nat} (h : ∀ i : Int, 0 ≤ i → i < t → k (x i 0) = true) : filN k x t = t := by
  induction t with
  | zero => rfl
  | succ t ih =>
    unfold filN
    rw [if_pos (h t (by omega) (by omega)), ih fun i i0 i1 => h i i0 (by omega)]
    omega
theorem filN_mono {s t : Nat} (h : s ≤ t) : filN k x s ≤ filN k x t := by
  induction t with
  | zero =>
    have : s = 0 := by omega
    subst this; exact Int.le_refl _
  | succ t ih =>
    by_cases e : s = t + 1
    · rw [e]; exact Int.le_refl _
    · have := ih (by omega)
      have h2 : filN k x (t + 1) = if k (x t 0) = true then filN k x t + 1 else filN k x t := rfl
      rw [h2]; split <;> omega
theorem filA_out (t : Nat) (j : Int) (f : Nat) (h : (t : Int) ≤ j) : filA k x t j f = x j f := by
  induction t with
  | zero => rfl
  | succ t ih =>
    have := filN_le (k := k) (x := x) t
    unfold filA
    split
    · unfold rowS
      rw [if_neg (by omega)]
      exact ih (by omega)
    · exact ih (by omega)
theorem filA_all {t : Nat} (h : ∀ i : Int, 0 ≤ i → i < t → k (x i 0) = true) (j : Int) (f : Nat) : filA k x t j f = x j f := by
  induction t with
  | zero => rfl
  | succ t ih =>
    have ih := ih fun i i0 i1 => h i i0 (by omega)
    unfold filA
    rw [if_pos (h t (by omega) (by omega))]
    unfold rowS
    split
    · rename_i he
      rw [filN_all fun i i0 i1 => h i i0 (by omega)] at he
      rw [he]
    · exact ih
/-- where the one that is kept lies -/
theorem filA_at {t i : Nat} (hi : i < t) (hk : k (x i 0) = true) (f : Nat) : filA k x t (filN k x i) f = x i f := by
  induction t with
  | zero => omega
  | succ t ih =>
    unfold filA
    by_cases e : i = t
    · subst e
      rw [if_pos hk]
      unfold rowS
      rw [if_pos rfl]
    · have h1 : filN k x (i + 1) ≤ filN k x t := filN_mono (by omega)
      have h2 : filN k x (i + 1) = filN k x i + 1 := by show (if k (x i 0) = true then _ else _) = _; rw [if_pos hk]
      split
      · unfold rowS
        rw [if_neg (by omega)]
        exact ih (by omega)
      · exact ih (by omega)
/-- what lies in front was kept -/
theorem filA_from (t : Nat) (j : Int) (j0 : 0 ≤ j) (j1 : j < filN k x t) : ∃ i : Nat, i < t ∧ k (x i 0) = true ∧ filN k x i = j ∧ ∀ f, filA k x t j f = x i f := by
  induction t with
  | zero =>
    have h0 : filN k x 0 = 0 := rfl
    rw [h0] at j1; omega
  | succ t ih =>
    by_cases hj : j < filN k x t
    · obtain ⟨i, h1, h2, h3, h4⟩ := ih hj
      refine ⟨i, by omega, h2, h3, fun f => ?_⟩
      rw [← h3]; exact filA_at (by omega) h2 f
    · have h2 : filN k x (t + 1) = if k (x t 0) = true then filN k x t + 1 else filN k x t := rfl
      rw [h2] at j1
      split at j1
      · rename_i hk
        have hj : filN k x t = j := by omega
        refine ⟨t, by omega, hk, hj, fun f => ?_⟩
        rw [← hj]
        exact filA_at (by omega) hk f
      · omega
theorem filA_sq {t : Nat} (sq : ∀ i j : Int, 0 ≤ i → i < j → j < t → x i 2 < x j 2) (i j : Int) (i0 : 0 ≤ i) (ij : i < j) (j1 : j < filN k x t) : filA k x t i 2 < filA k x t j 2 := by
  obtain ⟨p, p1, p2, p3, p4⟩ := filA_from (k := k) (x := x) t i i0 (by omega)
  obtain ⟨q, q1, q2, q3, q4⟩ := filA_from (k := k) (x := x) t j (by omega) j1
  rw [p4, q4]
  have : p < q := by
    rcases Nat.lt_or_ge p q with h | h
    · exact h
    · have := filN_mono (k := k) (x := x) h
      omega
  exact sq p q (by omega) (by omega) (by omega)
/-- one goes, the other stays -/
theorem filN_two {k' : Int → Bool} (h : ∀ z, k' z = !k z) (t : Nat) : filN k x t + filN k' x t = t := by
  induction t with
  | zero => rfl
  | succ t ih =>
    unfold filN
    rw [h]
    cases k (x t 0) <;> simp <;> omega
end
def kDue (now : Int) : Int → Bool := fun z => decide (z ≤ now)
def kStay (now : Int) : Int → Bool := fun z => decide (now < z)
noncomputable def dueF (q : Int) (x : Int → Nat → Int) (n now : Int) : Int → Nat → Int := if chkT q x n = 0 then fun i _ => srtA (filA (kDue now) x n.toNat) 0 (filN (kDue now) x n.toNat) i 1 else fun _ _ => 0
noncomputable def dueN (q : Int) (x : Int → Nat → Int) (n now : Int) : Int := if chkT q x n = 0 then filN (kDue now) x n.toNat else 0
noncomputable def dueX (q : Int) (x : Int → Nat → Int) (n : Int) : Int := if chkT q x n = 0 then q else 0
noncomputable def stF (q : Int) (x : Int → Nat → Int) (n now : Int) : Int → Nat → Int := if chkT q x n = 0 then filA (kStay now) x n.toNat else fun _ _ => 0
noncomputable def stN (q : Int) (x : Int → Nat → Int) (n now : Int) : Int := if chkT q x n = 0 then filN (kStay now) x n.toNat else 0
end Go.Proofs.Ytpbpmabnmakdoaa
