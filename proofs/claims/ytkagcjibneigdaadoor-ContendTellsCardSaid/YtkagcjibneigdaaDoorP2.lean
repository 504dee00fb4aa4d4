/- Contests: what is left to show of Run. -/
import Derived.Test.YtkagcjibneigdaaDoorP
import Derived.Test.YtkagcjibneigdaaDoorC2
namespace Go.Proofs.YtkagcjibneigdaaDoor
open Go Go.RowKit Go.Proofs.YtkagcjibneigdaaDoor.Vc
theorem allI_succ {p : Int → Bool} {i : Int} (h : 0 ≤ i) : allI p (i + 1) = (allI p i && p i) := by
  unfold allI
  obtain ⟨k, rfl⟩ := Int.eq_ofNat_of_zero_le h
  rw [show ((k : Int) + 1).toNat = k + 1 by omega, show ((k : Int)).toNat = k by omega]
  rfl
theorem cnt_succ {p : Int → Bool} {i : Int} (h : 0 ≤ i) : cntI p (i + 1) = (if p i = true then cntI p i + 1 else cntI p i) ∧ lstI p (i + 1) = (if p i = true then appA (lstI p i) (cntI p i) (setA zA 0 0 i) else lstI p i) := by
  unfold cntI lstI
  obtain ⟨k, rfl⟩ := Int.eq_ofNat_of_zero_le h
  rw [show ((k : Int) + 1).toNat = k + 1 by omega, show ((k : Int)).toNat = k by omega]
  exact ⟨rfl, rfl⟩
theorem cntN_bd (p : Int → Bool) : ∀ k : Nat, 0 ≤ cntN p k ∧ cntN p k ≤ k
  | 0 => ⟨Int.le_refl _, Int.le_refl _⟩
  | k + 1 => by
    have := cntN_bd p k
    unfold cntN
    split <;> omega
theorem cntI_bd (p : Int → Bool) {i : Int} (h : 0 ≤ i) : 0 ≤ cntI p i ∧ cntI p i ≤ i := by
  have := cntN_bd p i.toNat
  unfold cntI; omega
theorem lstN_in (p : Int → Bool) : ∀ (q : Nat) (r : Int), 0 ≤ r → r < cntN p q → 0 ≤ lstN p q r 0 ∧ lstN p q r 0 < q ∧ p (lstN p q r 0) = true
  | 0, r, r0, r1 => by
    have : cntN p 0 = 0 := rfl
    omega
  | q + 1, r, r0, r1 => by
    have r1' : r < if p q = true then cntN p q + 1 else cntN p q := r1
    show 0 ≤ (if p q = true then appA (lstN p q) (cntN p q) (setA zA 0 0 q) else lstN p q) r 0 ∧ (if p q = true then appA (lstN p q) (cntN p q) (setA zA 0 0 q) else lstN p q) r 0 < ((q + 1 : Nat) : Int) ∧ p ((if p q = true then appA (lstN p q) (cntN p q) (setA zA 0 0 q) else lstN p q) r 0) = true
    by_cases hp : p q = true
    · rw [if_pos hp] at r1'
      rw [if_pos hp]
      unfold appA
      by_cases h : r < cntN p q
      · rw [if_pos h]
        have := lstN_in p q r r0 h
        exact ⟨this.1, by omega, this.2.2⟩
      · rw [if_neg h, show r - cntN p q = 0 by omega]
        have e : setA zA 0 0 (q : Int) 0 0 = q := by simp [setA]
        rw [e]
        exact ⟨by omega, by omega, hp⟩
    · rw [if_neg hp] at r1'
      rw [if_neg hp]
      have := lstN_in p q r r0 r1'
      exact ⟨this.1, by omega, this.2.2⟩
theorem lstI_in (p : Int → Bool) {n r : Int} (n0 : 0 ≤ n) (r0 : 0 ≤ r) (r1 : r < cntI p n) : 0 ≤ lstI p n r 0 ∧ lstI p n r 0 < n ∧ p (lstI p n r 0) = true := by
  have := lstN_in p n.toNat r r0 r1
  unfold lstI
  exact ⟨this.1, by omega, this.2.2⟩
theorem setA_ne {a : Int → Nat → Int} {t z j : Int} {f g : Nat} (h : j ≠ t ∨ f ≠ g) : setA a t g z j f = a j f := by
  unfold setA
  rw [if_neg (fun hc => h.elim (fun h => h hc.1) fun h => h hc.2)]
theorem setA_eq {a : Int → Nat → Int} {t z : Int} {g : Nat} : setA a t g z t g = z := by
  unfold setA
  rw [if_pos ⟨rfl, rfl⟩]
structure AI (b : Int → Nat → Int) (n lo : Int) (a : Int → Nat → Int) : Prop where
  h : ∀ i, 0 ≤ i → i < n → (0 ≤ a i 0 ∧ a i 0 ≤ 255) ∧ a i 5 = b i 5 ∧ a i 6 = b i 6 ∧ lo ≤ a i 4 ∧ a i 4 ≤ 1000
theorem AI.set {b : Int → Nat → Int} {n lo : Int} {a : Int → Nat → Int} (h : AI b n lo a) {j v : Int} {g : Nat} (hg : g ≠ 0 ∧ g ≠ 4 ∧ g ≠ 5 ∧ g ≠ 6) : AI b n lo (setA a j g v) :=
  ⟨fun i i0 i1 => by
    rw [setA_ne (.inr (Ne.symm hg.1)), setA_ne (.inr (Ne.symm hg.2.1)), setA_ne (.inr (Ne.symm hg.2.2.1)), setA_ne (.inr (Ne.symm hg.2.2.2))]
    exact h.h i i0 i1⟩
theorem AI.set0 {b : Int → Nat → Int} {n lo : Int} {a : Int → Nat → Int} (h : AI b n lo a) {j v : Int} (h0 : 0 ≤ v) (h1 : v ≤ 255) : AI b n lo (setA a j 0 v) :=
  ⟨fun i i0 i1 => by
    rw [setA_ne (g := 0) (f := 4) (.inr (by omega)), setA_ne (g := 0) (f := 5) (.inr (by omega)), setA_ne (g := 0) (f := 6) (.inr (by omega))]
    refine ⟨?_, (h.h i i0 i1).2⟩
    by_cases hi : i = j
    · rw [hi, setA_eq]; exact ⟨h0, h1⟩
    · rw [setA_ne (.inl hi)]; exact (h.h i i0 i1).1⟩
theorem AI.set4 {b : Int → Nat → Int} {n lo : Int} {a : Int → Nat → Int} (h : AI b n lo a) {j : Int} (j0 : 0 ≤ j) (j1 : j < n) : AI b n (lo - 1) (setA a j 4 (a j 4 - 1)) :=
  ⟨fun i i0 i1 => by
    have hi := h.h i i0 i1
    rw [setA_ne (g := 4) (f := 0) (.inr (by omega)), setA_ne (g := 4) (f := 5) (.inr (by omega)), setA_ne (g := 4) (f := 6) (.inr (by omega))]
    refine ⟨hi.1, hi.2.1, hi.2.2.1, ?_⟩
    by_cases hij : i = j
    · rw [hij, setA_eq]; rw [hij] at hi; omega
    · rw [setA_ne (.inl hij)]; omega⟩
theorem AI.lo {b : Int → Nat → Int} {n lo lo' : Int} {a : Int → Nat → Int} (h : AI b n lo a) (hl : lo' ≤ lo) : AI b n lo' a :=
  ⟨fun i i0 i1 => by have := h.h i i0 i1; exact ⟨this.1, this.2.1, this.2.2.1, by omega, this.2.2.2.2⟩⟩
theorem SC_bd {c w k t e d : Int} (h0 : 0 ≤ c) (h1 : c ≤ 255) : 0 ≤ SC c w k t e d ∧ SC c w k t e d ≤ 255 := by
  unfold SC; split <;> omega
theorem AI.stp {b : Int → Nat → Int} {n lo : Int} {a : Int → Nat → Int} (h : AI b n lo a) {i : Int} (i0 : 0 ≤ i) (i1 : i < n) {ev d : Int} : AI b n lo (stpA a i ev d) := by
  have hi := h.h i i0 i1
  have hs := @SC_bd (a i 0) (a i 1) (a i 2) (a i 3) ev d hi.1.1 hi.1.2
  unfold stpA
  exact (((h.set0 hs.1 hs.2).set (by decide)).set (by decide)).set (by decide)
theorem AI.snd {b : Int → Nat → Int} {n lo : Int} {a : Int → Nat → Int} (h : AI b n lo a) {i t : Int} {ask : Bool} : AI b n lo (sndA a ask t i) := by
  unfold sndA
  split
  · exact ((((h.set (by decide)).set (by decide)).set (by decide)).set (by decide)).set (by decide)
  · exact (((h.set (by decide)).set (by decide)).set (by decide)).set (by decide)
theorem AI.fin {b : Int → Nat → Int} {n lo : Int} {a : Int → Nat → Int} (h : AI b n lo a) {i : Int} (i0 : 0 ≤ i) (i1 : i < n) {d : Int} : AI b n (lo - 1) (finA a i d) := by
  unfold finA
  have h1 := h.stp i0 i1 (ev := evI (a i)) (d := d)
  split
  · have e : a i 4 = stpA a i (evI (a i)) d i 4 := by
      unfold stpA
      rw [setA_ne (.inr (by omega)), setA_ne (.inr (by omega)), setA_ne (.inr (by omega)), setA_ne (.inr (by omega))]
    rw [e]
    exact (h1.set4 i0 i1).set (by decide)
  · exact (h1.lo (by omega)).set (by decide)
end Go.Proofs.YtkagcjibneigdaaDoor
