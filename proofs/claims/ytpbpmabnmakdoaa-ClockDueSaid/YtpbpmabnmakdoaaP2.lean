/- Due. -/
import Derived.Test.YtpbpmabnmakdoaaC2
set_option linter.unusedVariables false
namespace Go.Proofs.Ytpbpmabnmakdoaa
open Go Go.RowKit Go.Proofs.Ytpbpmabnmakdoaa.Vc
theorem vc36 : VC36 := by
  unfold VC36
  rintro v0 v1 v2 _ h0 _
  refine ⟨fun h => ⟨(chk_bad fun g => ?_).symm, trivial⟩, fun h => ?_⟩
  · have := g.n6
    have := g.q0
    have := g.q1
    omega
  · refine ⟨fun t l => 0 ≤ t ∧ t ≤ v2 ∧ (∀ i, 0 ≤ i → i < t → 0 ≤ v1 i 0 ∧ v1 i 0 ≤ 1099511627776 ∧ 0 ≤ v1 i 2 ∧ v1 i 2 < v0) ∧ (∀ i j, 0 ≤ i → i < j → j < t → v1 i 2 < v1 j 2) ∧ (t = 0 → l = -1) ∧ (0 < t → l = v1 (t - 1) 2), fun t l => (v2 - t).toNat, ⟨Int.le_refl _, h0, fun i _ _ => by omega, fun i j _ _ _ => by omega, fun _ => rfl, fun _ => by omega⟩, ?_⟩
    rintro t l ⟨i1, i2, i3, i4, i5, i6⟩
    refine ⟨fun hlt => ⟨i1, fun _ => ⟨fun hb => ⟨(chk_bad fun g => ?_).symm, trivial⟩, fun hb => ⟨by omega, fun _ => ⟨⟨by omega, by omega, fun i a0 a1 => ?_, fun i j a0 a1 a2 => ?_, fun _ => by omega, fun _ => by rw [show t + 1 - 1 = t by omega]⟩, by dsimp only; omega⟩⟩⟩⟩, fun hge => ⟨(chk_good ?_).symm, trivial⟩⟩
    · have := g.el t i1 hlt
      by_cases e : t = 0
      · have := i5 e; omega
      · have := i6 (by omega)
        have := g.sq (t - 1) t (by omega) (by omega) hlt
        omega
    · by_cases e : i = t
      · subst e
        by_cases e0 : i = 0
        · have := i5 e0; omega
        · have := i6 (by omega)
          have := i3 (i - 1) (by omega) (by omega)
          omega
      · exact i3 i a0 (by omega)
    · by_cases e : j = t
      · subst e
        have h6 := i6 (by omega)
        by_cases e2 : i = j - 1
        · subst e2; omega
        · have := i4 i (j - 1) a0 (by omega) (by omega)
          omega
      · exact i4 i j a0 a1 (by omega)
    · have : t = v2 := by omega
      subst this
      exact ⟨by omega, by omega, by omega, i3, i4⟩
def st3 (v : Int → Nat → Int) (p q : Int) : Int → Nat → Int := setA (setA (setA v p 0 (v q 0)) p 1 (v q 1)) p 2 (v q 2)
theorem st3_get (v : Int → Nat → Int) (p q j : Int) (f : Nat) (hf : f < 3) : st3 v p q j f = if j = p then v q f else v j f := by
  have : f = 0 ∨ f = 1 ∨ f = 2 := by omega
  unfold st3 setA
  rcases this with rfl | rfl | rfl <;> by_cases h1 : j = p <;> simp [h1]
structure Fnd (k : Int → Bool) (x : Int → Nat → Int) (n t : Int) : Prop where
  t0 : 0 ≤ t
  t1 : t ≤ n
  all : ∀ i, 0 ≤ i → i < t → k (x i 0) = true
structure Del (k : Int → Bool) (x : Int → Nat → Int) (n : Int) (c t : Int) (v : Int → Nat → Int) : Prop where
  t0 : 0 ≤ t
  t1 : t ≤ n
  c0 : 0 ≤ c
  ct : c < t
  cnt : c = filN k x t.toNat
  row : ∀ j f, f < 3 → v j f = filA k x t.toNat j f
section
variable {k : Int → Bool} {x v : Int → Nat → Int} {n c t : Int}
theorem Fnd.next (h : Fnd k x n t) (ht : t < n) (hk : k (x t 0) = true) : Fnd k x n (t + 1) := by
  have := h.t0
  refine ⟨by omega, by omega, fun i i0 i1 => ?_⟩
  by_cases e : i = t
  · rw [e]; exact hk
  · exact h.all i i0 (by omega)
theorem filN_succ (t : Int) (h : 0 ≤ t) : filN k x (t + 1).toNat = if k (x t 0) = true then filN k x t.toNat + 1 else filN k x t.toNat := by
  rw [show (t + 1).toNat = t.toNat + 1 by omega]
  show (if k (x (t.toNat : Int) 0) = true then _ else _) = _
  rw [show ((t.toNat : Int)) = t by omega]
theorem filA_succ (t : Int) (h : 0 ≤ t) : filA k x (t + 1).toNat = if k (x t 0) = true then rowS (filA k x t.toNat) (filN k x t.toNat) (x t) else filA k x t.toNat := by
  rw [show (t + 1).toNat = t.toNat + 1 by omega]
  show (if k (x (t.toNat : Int) 0) = true then rowS _ _ (x (t.toNat : Int)) else _) = _
  rw [show ((t.toNat : Int)) = t by omega]
theorem Del.start (h : Fnd k x n t) (ht : t < n) (hk : k (x t 0) = false) : Del k x n t (t + 1) x := by
  have h0 := h.t0
  have ha : ∀ i : Int, 0 ≤ i → i < t.toNat → k (x i 0) = true := fun i i0 i1 => h.all i i0 (by omega)
  refine ⟨by omega, by omega, h0, by omega, ?_, fun j f _ => ?_⟩
  · rw [filN_succ t h0, if_neg (by rw [hk]; decide), filN_all ha]; omega
  · rw [filA_succ t h0, if_neg (by rw [hk]; decide), filA_all ha]
theorem Del.read (h : Del k x n c t v) (f : Nat) (hf : f < 3) : v t f = x t f := by
  rw [h.row t f hf, filA_out]
  have := h.t0; omega
theorem Del.keep (h : Del k x n c t v) (ht : t < n) (hk : k (x t 0) = true) : Del k x n (c + 1) (t + 1) (st3 v c t) := by
  have h0 := h.t0
  have hc := h.c0
  have hct := h.ct
  refine ⟨by omega, by omega, by omega, by omega, ?_, fun j f hf => ?_⟩
  · rw [filN_succ t h0, if_pos hk, ← h.cnt]
  · rw [filA_succ t h0, if_pos hk, st3_get _ _ _ _ _ hf, h.read f hf, ← h.cnt]
    unfold rowS
    split
    · rfl
    · exact h.row j f hf
theorem Del.drop (h : Del k x n c t v) (ht : t < n) (hk : k (x t 0) = false) : Del k x n c (t + 1) v := by
  have h0 := h.t0
  have hct := h.ct
  refine ⟨by omega, by omega, h.c0, by omega, ?_, fun j f hf => ?_⟩
  · rw [filN_succ t h0, if_neg (by rw [hk]; decide), ← h.cnt]
  · rw [filA_succ t h0, if_neg (by rw [hk]; decide)]; exact h.row j f hf
theorem Del.end (h : Del k x n c t v) (ht : ¬ t < n) : c = filN k x n.toNat ∧ ∀ j f, f < 3 → v j f = filA k x n.toNat j f := by
  have h1 := h.t1
  have e : t = n := by omega
  rw [← e]; exact ⟨h.cnt, h.row⟩
theorem Fnd.end (h : Fnd k x n t) (ht : ¬ t < n) : n = filN k x n.toNat ∧ ∀ j f, f < 3 → x j f = filA k x n.toNat j f := by
  have h0 := h.t0
  have h1 := h.t1
  have ha : ∀ i : Int, 0 ≤ i → i < n.toNat → k (x i 0) = true := fun i i0 i1 => h.all i i0 (by omega)
  exact ⟨by rw [filN_all ha]; omega, fun j f _ => (filA_all ha j f).symm⟩
end
theorem stay_t {now z : Int} : kStay now z = true ↔ now < z := by simp [kStay]
theorem stay_f {now z : Int} : kStay now z = false ↔ z ≤ now := by simp [kStay]
theorem due_t {now z : Int} : kDue now z = true ↔ z ≤ now := by simp [kDue]
theorem due_f {now z : Int} : kDue now z = false ↔ now < z := by simp [kDue]
section
variable {v0 : Int} {v1 : Int → Nat → Int} {v2 v3 : Int} {O : Int → Nat → Int} {N : Int}
theorem sec_fin (hG : Good v0 v1 v2) (hN : N = dueN v0 v1 v2 v3) (hO : ∀ (i : Int) (f : Nat), 0 ≤ i → i < dueN v0 v1 v2 v3 → f < 1 → O i f = dueF v0 v1 v2 v3 i f) (A : Int → Nat → Int) (M : Int) (hM : M = filN (kStay v3) v1 v2.toNat) (hA : ∀ (j : Int) (f : Nat), 0 ≤ j → j < M → f < 3 → A j f = filA (kStay v3) v1 v2.toNat j f) :
    N = dueN v0 v1 v2 v3 ∧ (∀ (i : Int) (f : Nat), 0 ≤ i → i < dueN v0 v1 v2 v3 → f < 1 → O i f = dueF v0 v1 v2 v3 i f) ∧ v0 = dueX v0 v1 v2 ∧ M = stN v0 v1 v2 v3 ∧ (∀ (i : Int) (f : Nat), 0 ≤ i → i < stN v0 v1 v2 v3 → f < 3 → A i f = stF v0 v1 v2 v3 i f) ∧ (0 : Int) = chkT v0 v1 v2 ∧ True := by
  have hc := chk_good hG
  refine ⟨hN, hO, ?_, ?_, fun i f i0 i1 hf => ?_, hc.symm, trivial⟩
  · unfold dueX; rw [if_pos hc]
  · unfold stN; rw [if_pos hc, hM]
  · unfold stN at i1
    rw [if_pos hc] at i1
    unfold stF; rw [if_pos hc, hA i f i0 (by omega) hf]
def SecA (v0 : Int) (v1 : Int → Nat → Int) (v2 v3 : Int) (O : Int → Nat → Int) (N : Int) : Prop :=
  (∀ (v100 : Bool),
  ((¬ (v100 = true) ∨ v2 = 0) →
  (v100 = true →
  ∃ (I0 : (Int) → Prop) (μ0 : (Int) → Nat), I0 (0 : Int) ∧ (∀ (v101 : Int), I0 v101 →
  (v101 < 0 →
  False) ∧
  (¬ (v101 < 0) →
  N = dueN v0 v1 v2 v3 ∧ (∀ (i : Int) (f : Nat), 0 ≤ i → i < dueN v0 v1 v2 v3 → f < 1 → O i f = dueF v0 v1 v2 v3 i f) ∧ v0 = dueX v0 v1 v2 ∧ (0 : Int) = stN v0 v1 v2 v3 ∧ (∀ (i : Int) (f : Nat), 0 ≤ i → i < stN v0 v1 v2 v3 → f < 3 → zA i f = stF v0 v1 v2 v3 i f) ∧ (0 : Int) = chkT v0 v1 v2 ∧ True))) ∧
  (¬ (v100 = true) →
  (v2 * 24) ≤ 140737488355328 ∧ ((v2 * 24) ≤ 140737488355328 →
  v2 ≤ 140737488355328 ∧ (v2 ≤ 140737488355328 →
  ∃ (I0 : (Int) → Prop) (μ0 : (Int) → Nat), I0 (0 : Int) ∧ (∀ (v101 : Int), I0 v101 →
  (v101 < v2 →
  0 ≤ v101 ∧ (0 ≤ v101 →
  ((v1 v101 0) ≤ v3 →
  (v101 = (-1) →
  N = dueN v0 v1 v2 v3 ∧ (∀ (i : Int) (f : Nat), 0 ≤ i → i < dueN v0 v1 v2 v3 → f < 1 → O i f = dueF v0 v1 v2 v3 i f) ∧ v0 = dueX v0 v1 v2 ∧ v2 = stN v0 v1 v2 v3 ∧ (∀ (i : Int) (f : Nat), 0 ≤ i → i < stN v0 v1 v2 v3 → f < 3 → v1 i f = stF v0 v1 v2 v3 i f) ∧ (0 : Int) = chkT v0 v1 v2 ∧ True) ∧
  (¬ (v101 = (-1)) →
  (-9223372036854775808 ≤ (v101 + 1) ∧ (v101 + 1) ≤ 9223372036854775807) ∧ ((-9223372036854775808 ≤ (v101 + 1) ∧ (v101 + 1) ≤ 9223372036854775807) →
  ∃ (I1 : (Int → Nat → Int) → (Int) → (Int) → (Int → Nat → Int) → Prop) (μ1 : (Int → Nat → Int) → (Int) → (Int) → (Int → Nat → Int) → Nat), I1 v1 v101 (v101 + 1) v1 ∧ (∀ (v102 : Int → Nat → Int) (v103 : Int) (v104 : Int) (v105 : Int → Nat → Int), I1 v102 v103 v104 v105 →
  (v104 < v2 →
  0 ≤ v104 ∧ (0 ≤ v104 →
  (¬ ((v105 v104 0) ≤ v3) →
  0 ≤ v103 ∧ (0 ≤ v103 →
  v103 < v2 ∧ (v103 < v2 →
  (-9223372036854775808 ≤ (v103 + 1) ∧ (v103 + 1) ≤ 9223372036854775807) ∧ ((-9223372036854775808 ≤ (v103 + 1) ∧ (v103 + 1) ≤ 9223372036854775807) →
  (-9223372036854775808 ≤ (v104 + 1) ∧ (v104 + 1) ≤ 9223372036854775807) ∧ ((-9223372036854775808 ≤ (v104 + 1) ∧ (v104 + 1) ≤ 9223372036854775807) →
  I1 (setA (setA (setA v105 v103 0 (v105 v104 0)) v103 1 (v105 v104 1)) v103 2 (v105 v104 2)) (v103 + 1) (v104 + 1) (setA (setA (setA v105 v103 0 (v105 v104 0)) v103 1 (v105 v104 1)) v103 2 (v105 v104 2)) ∧ μ1 (setA (setA (setA v105 v103 0 (v105 v104 0)) v103 1 (v105 v104 1)) v103 2 (v105 v104 2)) (v103 + 1) (v104 + 1) (setA (setA (setA v105 v103 0 (v105 v104 0)) v103 1 (v105 v104 1)) v103 2 (v105 v104 2)) < μ1 v102 v103 v104 v105))))) ∧
  (¬ (¬ ((v105 v104 0) ≤ v3)) →
  (-9223372036854775808 ≤ (v104 + 1) ∧ (v104 + 1) ≤ 9223372036854775807) ∧ ((-9223372036854775808 ≤ (v104 + 1) ∧ (v104 + 1) ≤ 9223372036854775807) →
  I1 v105 v103 (v104 + 1) v105 ∧ μ1 v105 v103 (v104 + 1) v105 < μ1 v102 v103 v104 v105)))) ∧
  (¬ (v104 < v2) →
  0 ≤ v103 ∧ (0 ≤ v103 →
  v103 ≤ v2 ∧ (v103 ≤ v2 →
  v2 ≤ v2 ∧ (v2 ≤ v2 →
  v103 ≤ v2 ∧ (v103 ≤ v2 →
  N = dueN v0 v1 v2 v3 ∧ (∀ (i : Int) (f : Nat), 0 ≤ i → i < dueN v0 v1 v2 v3 → f < 1 → O i f = dueF v0 v1 v2 v3 i f) ∧ v0 = dueX v0 v1 v2 ∧ v103 = stN v0 v1 v2 v3 ∧ (∀ (i : Int) (f : Nat), 0 ≤ i → i < stN v0 v1 v2 v3 → f < 3 → v105 i f = stF v0 v1 v2 v3 i f) ∧ (0 : Int) = chkT v0 v1 v2 ∧ True))))))))) ∧
  (¬ ((v1 v101 0) ≤ v3) →
  (-9223372036854775808 ≤ (v101 + 1) ∧ (v101 + 1) ≤ 9223372036854775807) ∧ ((-9223372036854775808 ≤ (v101 + 1) ∧ (v101 + 1) ≤ 9223372036854775807) →
  I0 (v101 + 1) ∧ μ0 (v101 + 1) < μ0 v101)))) ∧
  (¬ (v101 < v2) →
  N = dueN v0 v1 v2 v3 ∧ (∀ (i : Int) (f : Nat), 0 ≤ i → i < dueN v0 v1 v2 v3 → f < 1 → O i f = dueF v0 v1 v2 v3 i f) ∧ v0 = dueX v0 v1 v2 ∧ v2 = stN v0 v1 v2 v3 ∧ (∀ (i : Int) (f : Nat), 0 ≤ i → i < stN v0 v1 v2 v3 → f < 3 → v1 i f = stF v0 v1 v2 v3 i f) ∧ (0 : Int) = chkT v0 v1 v2 ∧ True)))))))

def SecB (v0 : Int) (v1 : Int → Nat → Int) (v2 v3 : Int) (O : Int → Nat → Int) (N : Int) : Prop :=
  (∀ (v100 : Bool),
  ((¬ (v100 = true) ∨ v2 = 0) →
  (v100 = true →
  ∃ (I0 : (Int) → Prop) (μ0 : (Int) → Nat), I0 (0 : Int) ∧ (∀ (v101 : Int), I0 v101 →
  (v101 < 0 →
  False) ∧
  (¬ (v101 < 0) →
  N = dueN v0 v1 v2 v3 ∧ (∀ (i : Int) (f : Nat), 0 ≤ i → i < dueN v0 v1 v2 v3 → f < 1 → O i f = dueF v0 v1 v2 v3 i f) ∧ v0 = dueX v0 v1 v2 ∧ (0 : Int) = stN v0 v1 v2 v3 ∧ (∀ (i : Int) (f : Nat), 0 ≤ i → i < stN v0 v1 v2 v3 → f < 3 → zA i f = stF v0 v1 v2 v3 i f) ∧ (0 : Int) = chkT v0 v1 v2 ∧ True))) ∧
  (¬ (v100 = true) →
  ∃ (I0 : (Int) → Prop) (μ0 : (Int) → Nat), I0 (0 : Int) ∧ (∀ (v101 : Int), I0 v101 →
  (v101 < v2 →
  0 ≤ v101 ∧ (0 ≤ v101 →
  ((v1 v101 0) ≤ v3 →
  (v101 = (-1) →
  N = dueN v0 v1 v2 v3 ∧ (∀ (i : Int) (f : Nat), 0 ≤ i → i < dueN v0 v1 v2 v3 → f < 1 → O i f = dueF v0 v1 v2 v3 i f) ∧ v0 = dueX v0 v1 v2 ∧ v2 = stN v0 v1 v2 v3 ∧ (∀ (i : Int) (f : Nat), 0 ≤ i → i < stN v0 v1 v2 v3 → f < 3 → v1 i f = stF v0 v1 v2 v3 i f) ∧ (0 : Int) = chkT v0 v1 v2 ∧ True) ∧
  (¬ (v101 = (-1)) →
  (-9223372036854775808 ≤ (v101 + 1) ∧ (v101 + 1) ≤ 9223372036854775807) ∧ ((-9223372036854775808 ≤ (v101 + 1) ∧ (v101 + 1) ≤ 9223372036854775807) →
  ∃ (I1 : (Int → Nat → Int) → (Int) → (Int) → (Int → Nat → Int) → Prop) (μ1 : (Int → Nat → Int) → (Int) → (Int) → (Int → Nat → Int) → Nat), I1 v1 v101 (v101 + 1) v1 ∧ (∀ (v102 : Int → Nat → Int) (v103 : Int) (v104 : Int) (v105 : Int → Nat → Int), I1 v102 v103 v104 v105 →
  (v104 < v2 →
  0 ≤ v104 ∧ (0 ≤ v104 →
  (¬ ((v105 v104 0) ≤ v3) →
  0 ≤ v103 ∧ (0 ≤ v103 →
  v103 < v2 ∧ (v103 < v2 →
  (-9223372036854775808 ≤ (v103 + 1) ∧ (v103 + 1) ≤ 9223372036854775807) ∧ ((-9223372036854775808 ≤ (v103 + 1) ∧ (v103 + 1) ≤ 9223372036854775807) →
  (-9223372036854775808 ≤ (v104 + 1) ∧ (v104 + 1) ≤ 9223372036854775807) ∧ ((-9223372036854775808 ≤ (v104 + 1) ∧ (v104 + 1) ≤ 9223372036854775807) →
  I1 (setA (setA (setA v105 v103 0 (v105 v104 0)) v103 1 (v105 v104 1)) v103 2 (v105 v104 2)) (v103 + 1) (v104 + 1) (setA (setA (setA v105 v103 0 (v105 v104 0)) v103 1 (v105 v104 1)) v103 2 (v105 v104 2)) ∧ μ1 (setA (setA (setA v105 v103 0 (v105 v104 0)) v103 1 (v105 v104 1)) v103 2 (v105 v104 2)) (v103 + 1) (v104 + 1) (setA (setA (setA v105 v103 0 (v105 v104 0)) v103 1 (v105 v104 1)) v103 2 (v105 v104 2)) < μ1 v102 v103 v104 v105))))) ∧
  (¬ (¬ ((v105 v104 0) ≤ v3)) →
  (-9223372036854775808 ≤ (v104 + 1) ∧ (v104 + 1) ≤ 9223372036854775807) ∧ ((-9223372036854775808 ≤ (v104 + 1) ∧ (v104 + 1) ≤ 9223372036854775807) →
  I1 v105 v103 (v104 + 1) v105 ∧ μ1 v105 v103 (v104 + 1) v105 < μ1 v102 v103 v104 v105)))) ∧
  (¬ (v104 < v2) →
  0 ≤ v103 ∧ (0 ≤ v103 →
  v103 ≤ v2 ∧ (v103 ≤ v2 →
  v2 ≤ v2 ∧ (v2 ≤ v2 →
  v103 ≤ v2 ∧ (v103 ≤ v2 →
  N = dueN v0 v1 v2 v3 ∧ (∀ (i : Int) (f : Nat), 0 ≤ i → i < dueN v0 v1 v2 v3 → f < 1 → O i f = dueF v0 v1 v2 v3 i f) ∧ v0 = dueX v0 v1 v2 ∧ v103 = stN v0 v1 v2 v3 ∧ (∀ (i : Int) (f : Nat), 0 ≤ i → i < stN v0 v1 v2 v3 → f < 3 → v105 i f = stF v0 v1 v2 v3 i f) ∧ (0 : Int) = chkT v0 v1 v2 ∧ True))))))))) ∧
  (¬ ((v1 v101 0) ≤ v3) →
  (-9223372036854775808 ≤ (v101 + 1) ∧ (v101 + 1) ≤ 9223372036854775807) ∧ ((-9223372036854775808 ≤ (v101 + 1) ∧ (v101 + 1) ≤ 9223372036854775807) →
  I0 (v101 + 1) ∧ μ0 (v101 + 1) < μ0 v101)))) ∧
  (¬ (v101 < v2) →
  N = dueN v0 v1 v2 v3 ∧ (∀ (i : Int) (f : Nat), 0 ≤ i → i < dueN v0 v1 v2 v3 → f < 1 → O i f = dueF v0 v1 v2 v3 i f) ∧ v0 = dueX v0 v1 v2 ∧ v2 = stN v0 v1 v2 v3 ∧ (∀ (i : Int) (f : Nat), 0 ≤ i → i < stN v0 v1 v2 v3 → f < 3 → v1 i f = stF v0 v1 v2 v3 i f) ∧ (0 : Int) = chkT v0 v1 v2 ∧ True)))))

def SecC (v0 : Int) (v1 : Int → Nat → Int) (v2 v3 : Int) (O : Int → Nat → Int) (N : Int) : Prop :=
  (∀ (v100 : Bool),
  ((¬ (v100 = true) ∨ v2 = 0) →
  (v100 = true →
  ∃ (I0 : (Int) → Prop) (μ0 : (Int) → Nat), I0 (0 : Int) ∧ (∀ (v101 : Int), I0 v101 →
  (v101 < 0 →
  False) ∧
  (¬ (v101 < 0) →
  N = dueN v0 v1 v2 v3 ∧ (∀ (i : Int) (f : Nat), 0 ≤ i → i < dueN v0 v1 v2 v3 → f < 1 → O i f = dueF v0 v1 v2 v3 i f) ∧ v0 = dueX v0 v1 v2 ∧ (0 : Int) = stN v0 v1 v2 v3 ∧ (∀ (i : Int) (f : Nat), 0 ≤ i → i < stN v0 v1 v2 v3 → f < 3 → zA i f = stF v0 v1 v2 v3 i f) ∧ (0 : Int) = chkT v0 v1 v2 ∧ True))) ∧
  (¬ (v100 = true) →
  ∃ (I0 : (Int) → Prop) (μ0 : (Int) → Nat), I0 (0 : Int) ∧ (∀ (v101 : Int), I0 v101 →
  (v101 < v2 →
  0 ≤ v101 ∧ (0 ≤ v101 →
  ((v1 v101 0) ≤ v3 →
  (v101 = (-1) →
  N = dueN v0 v1 v2 v3 ∧ (∀ (i : Int) (f : Nat), 0 ≤ i → i < dueN v0 v1 v2 v3 → f < 1 → O i f = dueF v0 v1 v2 v3 i f) ∧ v0 = dueX v0 v1 v2 ∧ v2 = stN v0 v1 v2 v3 ∧ (∀ (i : Int) (f : Nat), 0 ≤ i → i < stN v0 v1 v2 v3 → f < 3 → v1 i f = stF v0 v1 v2 v3 i f) ∧ (0 : Int) = chkT v0 v1 v2 ∧ True) ∧
  (¬ (v101 = (-1)) →
  (-9223372036854775808 ≤ (v101 + 1) ∧ (v101 + 1) ≤ 9223372036854775807) ∧ ((-9223372036854775808 ≤ (v101 + 1) ∧ (v101 + 1) ≤ 9223372036854775807) →
  ∃ (I1 : (Int → Nat → Int) → (Int) → (Int) → (Int → Nat → Int) → Prop) (μ1 : (Int → Nat → Int) → (Int) → (Int) → (Int → Nat → Int) → Nat), I1 v1 v101 (v101 + 1) v1 ∧ (∀ (v102 : Int → Nat → Int) (v103 : Int) (v104 : Int) (v105 : Int → Nat → Int), I1 v102 v103 v104 v105 →
  (v104 < v2 →
  0 ≤ v104 ∧ (0 ≤ v104 →
  (¬ ((v105 v104 0) ≤ v3) →
  0 ≤ v103 ∧ (0 ≤ v103 →
  v103 < v2 ∧ (v103 < v2 →
  (-9223372036854775808 ≤ (v103 + 1) ∧ (v103 + 1) ≤ 9223372036854775807) ∧ ((-9223372036854775808 ≤ (v103 + 1) ∧ (v103 + 1) ≤ 9223372036854775807) →
  (-9223372036854775808 ≤ (v104 + 1) ∧ (v104 + 1) ≤ 9223372036854775807) ∧ ((-9223372036854775808 ≤ (v104 + 1) ∧ (v104 + 1) ≤ 9223372036854775807) →
  I1 (setA (setA (setA v105 v103 0 (v105 v104 0)) v103 1 (v105 v104 1)) v103 2 (v105 v104 2)) (v103 + 1) (v104 + 1) (setA (setA (setA v105 v103 0 (v105 v104 0)) v103 1 (v105 v104 1)) v103 2 (v105 v104 2)) ∧ μ1 (setA (setA (setA v105 v103 0 (v105 v104 0)) v103 1 (v105 v104 1)) v103 2 (v105 v104 2)) (v103 + 1) (v104 + 1) (setA (setA (setA v105 v103 0 (v105 v104 0)) v103 1 (v105 v104 1)) v103 2 (v105 v104 2)) < μ1 v102 v103 v104 v105))))) ∧
  (¬ (¬ ((v105 v104 0) ≤ v3)) →
  (-9223372036854775808 ≤ (v104 + 1) ∧ (v104 + 1) ≤ 9223372036854775807) ∧ ((-9223372036854775808 ≤ (v104 + 1) ∧ (v104 + 1) ≤ 9223372036854775807) →
  I1 v105 v103 (v104 + 1) v105 ∧ μ1 v105 v103 (v104 + 1) v105 < μ1 v102 v103 v104 v105)))) ∧
  (¬ (v104 < v2) →
  0 ≤ v103 ∧ (0 ≤ v103 →
  v103 ≤ v2 ∧ (v103 ≤ v2 →
  v103 ≤ v2 ∧ (v103 ≤ v2 →
  N = dueN v0 v1 v2 v3 ∧ (∀ (i : Int) (f : Nat), 0 ≤ i → i < dueN v0 v1 v2 v3 → f < 1 → O i f = dueF v0 v1 v2 v3 i f) ∧ v0 = dueX v0 v1 v2 ∧ v103 = stN v0 v1 v2 v3 ∧ (∀ (i : Int) (f : Nat), 0 ≤ i → i < stN v0 v1 v2 v3 → f < 3 → v105 i f = stF v0 v1 v2 v3 i f) ∧ (0 : Int) = chkT v0 v1 v2 ∧ True)))))))) ∧
  (¬ ((v1 v101 0) ≤ v3) →
  (-9223372036854775808 ≤ (v101 + 1) ∧ (v101 + 1) ≤ 9223372036854775807) ∧ ((-9223372036854775808 ≤ (v101 + 1) ∧ (v101 + 1) ≤ 9223372036854775807) →
  I0 (v101 + 1) ∧ μ0 (v101 + 1) < μ0 v101)))) ∧
  (¬ (v101 < v2) →
  N = dueN v0 v1 v2 v3 ∧ (∀ (i : Int) (f : Nat), 0 ≤ i → i < dueN v0 v1 v2 v3 → f < 1 → O i f = dueF v0 v1 v2 v3 i f) ∧ v0 = dueX v0 v1 v2 ∧ v2 = stN v0 v1 v2 v3 ∧ (∀ (i : Int) (f : Nat), 0 ≤ i → i < stN v0 v1 v2 v3 → f < 3 → v1 i f = stF v0 v1 v2 v3 i f) ∧ (0 : Int) = chkT v0 v1 v2 ∧ True)))))
theorem secA (hG : Good v0 v1 v2) (h0 : 0 ≤ v2) (hN : N = dueN v0 v1 v2 v3) (hO : ∀ (i : Int) (f : Nat), 0 ≤ i → i < dueN v0 v1 v2 v3 → f < 1 → O i f = dueF v0 v1 v2 v3 i f) : SecA v0 v1 v2 v3 O N := by
  unfold SecA
  have n6 := hG.n6
  intro vb hvb
  refine ⟨fun hb => ?_, fun hb => ?_⟩
  · have hz : v2 = 0 := by
      rcases hvb with h | h
      · exact absurd hb h
      · exact h
    refine ⟨fun t => 0 ≤ t, fun t => 0, Int.le_refl _, ?_⟩
    intro t ht
    refine ⟨fun h => by omega, fun _ => sec_fin hG hN hO _ _ (by rw [hz]; rfl) (fun j f j0 j1 _ => by omega)⟩
  · refine ⟨by have := hG.n6; omega, fun _ => ⟨by have := hG.n6; omega, fun _ => ⟨ fun t => Fnd (kStay v3) v1 v2 t, fun t => (v2 - t).toNat, ⟨Int.le_refl _, h0, fun i _ _ => by omega⟩, ?_⟩⟩⟩
    intro t hF
    have t0 := hF.t0
    have t1 := hF.t1
    refine ⟨fun hlt => ⟨t0, fun _ => ⟨fun hk => ⟨fun hc => by omega, fun _ => ⟨by omega, fun _ => ?_⟩⟩, fun hk => ⟨by omega, fun _ => ⟨hF.next hlt (stay_t.2 (by omega)), by dsimp only; omega⟩⟩⟩⟩, fun hge => sec_fin hG hN hO _ _ (hF.end hge).1 (fun j f _ _ hf => (hF.end hge).2 j f hf)⟩
    refine ⟨fun u c t v => Del (kStay v3) v1 v2 c t v, fun u c t v => (v2 - t).toNat, Del.start hF hlt (stay_f.2 hk), ?_⟩
    intro u c t' v hD
    have d0 := hD.t0
    have d1 := hD.t1
    have d2 := hD.c0
    have d3 := hD.ct
    have dr := hD.read 0 (by decide)
    refine ⟨fun hlt2 => ⟨d0, fun _ => ⟨fun hk2 => ⟨d2, fun _ => ⟨by omega, fun _ => ⟨by omega, fun _ => ⟨by omega, fun _ => ⟨hD.keep hlt2 (stay_t.2 (by omega)), by dsimp only; omega⟩⟩⟩⟩⟩, fun hk2 => ⟨by omega, fun _ => ⟨hD.drop hlt2 (stay_f.2 (by omega)), by dsimp only; omega⟩⟩⟩⟩, fun hge2 => ?_⟩
    exact ⟨d2, fun _ => ⟨by omega, fun _ => ⟨Int.le_refl _, fun _ => ⟨by omega, fun _ => sec_fin hG hN hO _ _ (hD.end hge2).1 (fun j f _ _ hf => (hD.end hge2).2 j f hf)⟩⟩⟩⟩
theorem secB (hG : Good v0 v1 v2) (h0 : 0 ≤ v2) (hN : N = dueN v0 v1 v2 v3) (hO : ∀ (i : Int) (f : Nat), 0 ≤ i → i < dueN v0 v1 v2 v3 → f < 1 → O i f = dueF v0 v1 v2 v3 i f) : SecB v0 v1 v2 v3 O N := by
  unfold SecB
  have n6 := hG.n6
  intro vb hvb
  refine ⟨fun hb => ?_, fun hb => ?_⟩
  · have hz : v2 = 0 := by
      rcases hvb with h | h
      · exact absurd hb h
      · exact h
    refine ⟨fun t => 0 ≤ t, fun t => 0, Int.le_refl _, ?_⟩
    intro t ht
    refine ⟨fun h => by omega, fun _ => sec_fin hG hN hO _ _ (by rw [hz]; rfl) (fun j f j0 j1 _ => by omega)⟩
  · refine ⟨ fun t => Fnd (kStay v3) v1 v2 t, fun t => (v2 - t).toNat, ⟨Int.le_refl _, h0, fun i _ _ => by omega⟩, ?_⟩
    intro t hF
    have t0 := hF.t0
    have t1 := hF.t1
    refine ⟨fun hlt => ⟨t0, fun _ => ⟨fun hk => ⟨fun hc => by omega, fun _ => ⟨by omega, fun _ => ?_⟩⟩, fun hk => ⟨by omega, fun _ => ⟨hF.next hlt (stay_t.2 (by omega)), by dsimp only; omega⟩⟩⟩⟩, fun hge => sec_fin hG hN hO _ _ (hF.end hge).1 (fun j f _ _ hf => (hF.end hge).2 j f hf)⟩
    refine ⟨fun u c t v => Del (kStay v3) v1 v2 c t v, fun u c t v => (v2 - t).toNat, Del.start hF hlt (stay_f.2 hk), ?_⟩
    intro u c t' v hD
    have d0 := hD.t0
    have d1 := hD.t1
    have d2 := hD.c0
    have d3 := hD.ct
    have dr := hD.read 0 (by decide)
    refine ⟨fun hlt2 => ⟨d0, fun _ => ⟨fun hk2 => ⟨d2, fun _ => ⟨by omega, fun _ => ⟨by omega, fun _ => ⟨by omega, fun _ => ⟨hD.keep hlt2 (stay_t.2 (by omega)), by dsimp only; omega⟩⟩⟩⟩⟩, fun hk2 => ⟨by omega, fun _ => ⟨hD.drop hlt2 (stay_f.2 (by omega)), by dsimp only; omega⟩⟩⟩⟩, fun hge2 => ?_⟩
    exact ⟨d2, fun _ => ⟨by omega, fun _ => ⟨Int.le_refl _, fun _ => ⟨by omega, fun _ => sec_fin hG hN hO _ _ (hD.end hge2).1 (fun j f _ _ hf => (hD.end hge2).2 j f hf)⟩⟩⟩⟩
theorem secC (hG : Good v0 v1 v2) (h0 : 0 ≤ v2) (hN : N = dueN v0 v1 v2 v3) (hO : ∀ (i : Int) (f : Nat), 0 ≤ i → i < dueN v0 v1 v2 v3 → f < 1 → O i f = dueF v0 v1 v2 v3 i f) : SecC v0 v1 v2 v3 O N := by
  unfold SecC
  have n6 := hG.n6
  intro vb hvb
  refine ⟨fun hb => ?_, fun hb => ?_⟩
  · have hz : v2 = 0 := by
      rcases hvb with h | h
      · exact absurd hb h
      · exact h
    refine ⟨fun t => 0 ≤ t, fun t => 0, Int.le_refl _, ?_⟩
    intro t ht
    refine ⟨fun h => by omega, fun _ => sec_fin hG hN hO _ _ (by rw [hz]; rfl) (fun j f j0 j1 _ => by omega)⟩
  · refine ⟨ fun t => Fnd (kStay v3) v1 v2 t, fun t => (v2 - t).toNat, ⟨Int.le_refl _, h0, fun i _ _ => by omega⟩, ?_⟩
    intro t hF
    have t0 := hF.t0
    have t1 := hF.t1
    refine ⟨fun hlt => ⟨t0, fun _ => ⟨fun hk => ⟨fun hc => by omega, fun _ => ⟨by omega, fun _ => ?_⟩⟩, fun hk => ⟨by omega, fun _ => ⟨hF.next hlt (stay_t.2 (by omega)), by dsimp only; omega⟩⟩⟩⟩, fun hge => sec_fin hG hN hO _ _ (hF.end hge).1 (fun j f _ _ hf => (hF.end hge).2 j f hf)⟩
    refine ⟨fun u c t v => Del (kStay v3) v1 v2 c t v, fun u c t v => (v2 - t).toNat, Del.start hF hlt (stay_f.2 hk), ?_⟩
    intro u c t' v hD
    have d0 := hD.t0
    have d1 := hD.t1
    have d2 := hD.c0
    have d3 := hD.ct
    have dr := hD.read 0 (by decide)
    refine ⟨fun hlt2 => ⟨d0, fun _ => ⟨fun hk2 => ⟨d2, fun _ => ⟨by omega, fun _ => ⟨by omega, fun _ => ⟨by omega, fun _ => ⟨hD.keep hlt2 (stay_t.2 (by omega)), by dsimp only; omega⟩⟩⟩⟩⟩, fun hk2 => ⟨by omega, fun _ => ⟨hD.drop hlt2 (stay_f.2 (by omega)), by dsimp only; omega⟩⟩⟩⟩, fun hge2 => ?_⟩
    exact ⟨d2, fun _ => ⟨by omega, fun _ => ⟨by omega, fun _ => sec_fin hG hN hO _ _ (hD.end hge2).1 (fun j f _ _ hf => (hD.end hge2).2 j f hf)⟩⟩⟩
end
theorem Srt.rows {x y z : Int → Nat → Int} {a b : Int} (h : Srt y a b z) (e : ∀ j f, f < 3 → y j f = x j f) : Srt x a b z := by
  obtain ⟨⟨s, t, hp⟩, ho, hs⟩ := h
  refine ⟨⟨s, t, fun i i0 i1 => ?_⟩, fun i f hf hi => by rw [ho i f hf hi, e i f hf], hs⟩
  obtain ⟨a1, a2, a3, a4, a5, a6, a7⟩ := hp i i0 i1
  exact ⟨a1, a2, a3, a4, a5, a6, fun f hf => by rw [a7 f hf, e _ f hf]⟩
structure Ids (w : Int → Nat → Int) (M : Int) (O : Int → Nat → Int) (N t : Int) : Prop where
  t0 : 0 ≤ t
  t1 : t ≤ M
  len : N = t
  val : ∀ i, 0 ≤ i → i < t → O i 0 = w i 1
theorem Ids.start {w : Int → Nat → Int} {M : Int} (h : 0 ≤ M) (O : Int → Nat → Int) : Ids w M O 0 0 := ⟨Int.le_refl _, h, rfl, fun i _ _ => by omega⟩
theorem Ids.next {w : Int → Nat → Int} {M : Int} {O : Int → Nat → Int} {N t : Int} (h : Ids w M O N t) (ht : t < M) : Ids w M (appA O N (setA zA 0 0 (w t 1))) (N + 1) (t + 1) := by
  have h0 := h.t0
  have hl := h.len
  refine ⟨by omega, by omega, by omega, fun i i0 i1 => ?_⟩
  unfold appA
  by_cases e : i < N
  · rw [if_pos e]; exact h.val i i0 (by omega)
  · rw [if_neg e, show i - N = 0 by omega, show t = i by omega]
    unfold setA
    simp
section
variable {v0 : Int} {v1 : Int → Nat → Int} {v2 v3 : Int} {O : Int → Nat → Int} {N : Int}
theorem Ids.fin {w : Int → Nat → Int} {M t : Int} (hG : Good v0 v1 v2) (h : Ids w M O N t) (ht : ¬ t < M) (hM : M = filN (kDue v3) v1 v2.toNat) (hw : ∀ i, 0 ≤ i → i < M → w i 1 = srtA (filA (kDue v3) v1 v2.toNat) 0 (filN (kDue v3) v1 v2.toNat) i 1) :
    N = dueN v0 v1 v2 v3 ∧ ∀ (i : Int) (f : Nat), 0 ≤ i → i < dueN v0 v1 v2 v3 → f < 1 → O i f = dueF v0 v1 v2 v3 i f := by
  have hc := chk_good hG
  have h1 := h.t1
  have hl := h.len
  unfold dueN dueF
  rw [if_pos hc, if_pos hc]
  refine ⟨by omega, fun i f i0 i1 hf => ?_⟩
  have : f = 0 := by omega
  subst this
  rw [h.val i i0 (by omega), hw i i0 (by omega)]
theorem due_stb (hG : Good v0 v1 v2) (h0 : 0 ≤ v2) {y : Int → Nat → Int} {M : Int} (hM : M = filN (kDue v3) v1 v2.toNat) (hy : ∀ j f, f < 3 → y j f = filA (kDue v3) v1 v2.toNat j f) : Stb y M M ∧ ∀ i, 0 ≤ i → i < M → srtA y 0 M i 1 = srtA (filA (kDue v3) v1 v2.toNat) 0 (filN (kDue v3) v1 v2.toNat) i 1 := by
  have hle := filN_le (k := kDue v3) (x := v1) v2.toNat
  have n6 := hG.n6
  have hS : Stb y M M := by
    refine ⟨by omega, Int.le_refl _, by omega, fun i j i0 ij j1 => ?_⟩
    rw [hy i 2 (by decide), hy j 2 (by decide)]
    exact filA_sq (fun p q p0 pq q1 => hG.sq p q p0 pq (by omega)) i j i0 ij (by omega)
  refine ⟨hS, fun i i0 i1 => ?_⟩
  have hI : Ins y M 0 M := ⟨Int.le_refl _, hS.k0, Int.le_refl _, hS.n6, hS.sq⟩
  have := ((srtA_spec hI.tot).rows hy).eq i 1 (by decide)
  rw [this, hM]
end
theorem vc22 : VC22 := by
  unfold VC22
  rintro v0 v1 v2 v3 _ h0
  refine ⟨trivial, ?_⟩
  rintro v4 rfl _
  refine ⟨fun hb => ?_, fun hg => ?_⟩
  · unfold dueN dueX stN
    rw [if_neg hb, if_neg hb, if_neg hb]
    exact ⟨rfl, fun i f i0 i1 => by omega, rfl, rfl, fun i f i0 i1 => by omega, rfl, trivial⟩
  have hG : Good v0 v1 v2 := good_of (by omega)
  have n6 := hG.n6
  intro vb hvb
  have loop : ∀ (w : Int → Nat → Int) (M : Int) (S : (Int → Nat → Int) → Int → Prop), 0 ≤ M → M ≤ 256 → (∀ O N t, Ids w M O N t → ¬ t < M → S O N) →
      ∃ (I1 : (Int → Nat → Int) → (Int) → (Int) → Prop) (μ1 : (Int → Nat → Int) → (Int) → (Int) → Nat), I1 zA (0 : Int) (0 : Int) ∧ (∀ (v9 : Int → Nat → Int) (v10 : Int) (v11 : Int), I1 v9 v10 v11 →
                (0 ≤ v10 →
                (v10 ≤ 9223372036854775807 →
                (v11 < M →
                  0 ≤ v11 ∧ (0 ≤ v11 →
                  ((v10 + 1) * 8) ≤ 140737488355328 ∧ (((v10 + 1) * 8) ≤ 140737488355328 →
                  (v10 + 1) ≤ 140737488355328 ∧ ((v10 + 1) ≤ 140737488355328 →
                  (-9223372036854775808 ≤ (v11 + 1) ∧ (v11 + 1) ≤ 9223372036854775807) ∧ ((-9223372036854775808 ≤ (v11 + 1) ∧ (v11 + 1) ≤ 9223372036854775807) →
                  I1 (appA v9 v10 (setA zA 0 0 (w v11 1))) (v10 + 1) (v11 + 1) ∧ μ1 (appA v9 v10 (setA zA 0 0 (w v11 1))) (v10 + 1) (v11 + 1) < μ1 v9 v10 v11))))) ∧
                (¬ (v11 < M) →
                  S v9 v10)))) := by
    intro w M S m0 m1 hS
    refine ⟨fun O N t => Ids w M O N t, fun O N t => (M - t).toNat, Ids.start m0 _, ?_⟩
    intro O N t hI _ _
    have i0 := hI.t0
    have i1 := hI.t1
    have i2 := hI.len
    exact ⟨fun hlt => ⟨i0, fun _ => ⟨by omega, fun _ => ⟨by omega, fun _ => ⟨by omega, fun _ => ⟨hI.next hlt, by dsimp only; omega⟩⟩⟩⟩⟩, fun hge => hS O N t hI hge⟩
  refine ⟨fun hb => ?_, fun hb => ?_⟩
  · have hz : v2 = 0 := by
      rcases hvb with h | h
      · exact absurd hb h
      · exact h
    have hM : (0 : Int) = filN (kDue v3) v1 v2.toNat := by rw [hz]; rfl
    refine ⟨fun t => 0 ≤ t, fun t => 0, Int.le_refl _, ?_⟩
    intro t ht
    refine ⟨fun h => by omega, fun _ => ⟨⟨Int.le_refl _, Int.le_refl _, by omega, fun i j _ _ _ => by omega⟩, ?_⟩⟩
    rintro w M rfl rfl
    refine ⟨fun O N t => Ids (srtA zA 0 0) 0 O N t, fun O N t => 0, Ids.start (Int.le_refl _) _, ?_⟩
    intro O N t hI _ _
    have i0 := hI.t0
    refine ⟨fun h => by omega, fun h => ?_⟩
    obtain ⟨e1, e2⟩ := hI.fin hG h hM fun i i0 i1 => by omega
    exact secA hG h0 e1 e2
  · refine ⟨by omega, fun _ => ⟨by omega, fun _ => ⟨fun t => Fnd (kDue v3) v1 v2 t, fun t => (v2 - t).toNat, ⟨Int.le_refl _, h0, fun i _ _ => by omega⟩, ?_⟩⟩⟩
    intro t hF
    have t0 := hF.t0
    have t1 := hF.t1
    refine ⟨fun hlt => ⟨t0, fun _ => ⟨fun hk => ⟨fun hc => by omega, fun _ => ⟨by omega, fun _ => ?_⟩⟩, fun hk => ⟨by omega, fun _ => ⟨hF.next hlt (due_t.2 (by omega)), by dsimp only; omega⟩⟩⟩⟩, fun hge => ?_⟩
    · refine ⟨fun u c t v => Del (kDue v3) v1 v2 c t v, fun u c t v => (v2 - t).toNat, Del.start hF hlt (due_f.2 hk), ?_⟩
      intro u c t' v hD
      have d0 := hD.t0
      have d1 := hD.t1
      have d2 := hD.c0
      have d3 := hD.ct
      have dr := hD.read 0 (by decide)
      refine ⟨fun hlt2 => ⟨d0, fun _ => ⟨fun hk2 => ⟨d2, fun _ => ⟨by omega, fun _ => ⟨by omega, fun _ => ⟨by omega, fun _ => ⟨hD.keep hlt2 (due_t.2 (by omega)), by dsimp only; omega⟩⟩⟩⟩⟩, fun hk2 => ⟨by omega, fun _ => ⟨hD.drop hlt2 (due_f.2 (by omega)), by dsimp only; omega⟩⟩⟩⟩, fun hge2 => ?_⟩
      have hM := (hD.end hge2).1
      obtain ⟨hS, hw⟩ := due_stb hG h0 hM (hD.end hge2).2
      refine ⟨d2, fun _ => ⟨by omega, fun _ => ⟨Int.le_refl _, fun _ => ⟨by omega, fun _ => ⟨d2, fun _ => ⟨Int.le_refl _, fun _ => ⟨hS, ?_⟩⟩⟩⟩⟩⟩⟩
      rintro w M rfl rfl
      obtain ⟨I, μ, l1, l2⟩ := loop (srtA v 0 M) M (fun O N => SecC v0 v1 v2 v3 O N) d2 (by omega) (fun O N t hI ht => by
        obtain ⟨e1, e2⟩ := hI.fin hG ht hM hw
        exact secC hG h0 e1 e2)
      exact ⟨I, μ, l1, fun O N t hI a b _ => l2 O N t hI a b⟩
    · have hM := (hF.end hge).1
      obtain ⟨hS, hw⟩ := due_stb hG h0 hM (hF.end hge).2
      refine ⟨h0, fun _ => ⟨Int.le_refl _, fun _ => ⟨hS, ?_⟩⟩⟩
      rintro w M rfl rfl
      exact loop (srtA v1 0 M) M (fun O N => SecB v0 v1 M v3 O N) h0 n6 (fun O N t hI ht => by
        obtain ⟨e1, e2⟩ := hI.fin hG ht hM hw
        exact secB hG h0 e1 e2)
end Go.Proofs.Ytpbpmabnmakdoaa
