/- What is left to show of the law that every part's duration covers what follows. -/
import Derived.Test.YtiiabaklipmbbaaDoorP4
namespace Go.Proofs.YtiiabaklipmbbaaDoor
open Go Go.RowKit Go.Proofs.YtiiabaklipmbbaaDoor.Vc
/-- a plan that stands -/
structure PG (x : Xc) (n : Int) (a : Int → Nat → Int) (L : Int) : Prop where
  l0 : 1 ≤ L
  l1 : L ≤ 36
  z : a 0 3 = 0
  e : a (L - 1) 5 = 0
  s : ∀ i, 0 ≤ i → i < L → 0 ≤ a i 3 ∧ a i 3 ≤ 2000000 ∧ 1 ≤ a i 4 ∧ a i 4 ≤ 32767 ∧ 0 ≤ a i 5 ∧ a i 5 ≤ 32767 ∧ a i 3 + a i 4 + a i 5 = lnA a L
  t : ∀ i, 1 ≤ i → i < L → a i 3 = a (i - 1) 3 + a (i - 1) 4 + 16 ∧ a i 5 < a (i - 1) 5
theorem exS_le (x : Xc) (h : exOk x) (n : Int) (hn : n ≤ x.m) (i : Int) (h0 : 0 ≤ i) : ∀ d : Nat, i + d ≤ exL x n → exS x n i + 17 * (d : Int) ≤ exS x n (i + d)
  | 0, _ => by simp
  | d + 1, hd => by
    have ih := exS_le x h n hn i h0 d (by omega)
    have ha := exA_bd x h n (i + d) hn (by omega) (by omega)
    have e : i + ((d + 1 : Nat) : Int) = (i + d) + 1 := by omega
    rw [e, exS_succ x n (i + d) (by omega)]
    omega
theorem ln_row7 (x : Xc) (h : exOk x) (n : Int) (hn : n ≤ x.m) : ∀ k : Nat, (k : Int) ≤ exL x n → lnN (exRow x n) k = if k = 0 then 0 else exS x n k - 16
  | 0, _ => rfl
  | k + 1, hk => by
    have ih := ln_row7 x h n hn k (by omega)
    have ha := exA_bd x h n k hn (by omega) (by omega)
    have hs := exS_bd x h n hn k (by omega)
    have e : ((k + 1 : Nat) : Int) = (k : Int) + 1 := by omega
    simp only [lnN]
    rw [if_neg (show ¬ k + 1 = 0 by omega), ih, e, exS_succ x n k (by omega)]
    show max _ (exS x n k + exA x n k) = _
    split <;> omega
theorem pg_of {x : Xc} (h : plE x = 0) : exOk x ∧ 1 ≤ plN x ∧ plN x ≤ x.m ∧ PG x (plN x) (exRow x (plN x)) (plL x) := by
  have hV : exV x = true := by
    by_cases hv : exV x = true
    · exact hv
    · unfold plE at h; rw [if_neg hv] at h; omega
  have hL : plL x = exL x (plN x) := by unfold plL; rw [if_pos h]
  have hD : exRow x (plN x) 0 5 ≤ 32767 := by
    unfold plE at h; rw [if_pos hV] at h
    by_cases hd : exRow x (plN x) 0 5 > 32767
    · rw [if_pos hd] at h; omega
    · omega
  obtain ⟨hx, hm1⟩ := exV_ok hV
  have hm16 := hx.1.2
  obtain ⟨s1, s2, s3, s4⟩ := plF_spec x 16 1 hm1 (by omega)
  have hP : plF x 1 16 = plN x := rfl
  rw [hP] at s1 s2
  refine ⟨hx, s1, s2, ?_⟩
  rw [hL]
  generalize plN x = n at *
  have hl := exL_bd x hx n s1 s2
  have r3 : ∀ i, exRow x n i 3 = exS x n i := fun i => rfl
  have r4 : ∀ i, exRow x n i 4 = exA x n i := fun i => rfl
  have r5 : ∀ i, exRow x n i 5 = exE x n - exS x n i - exA x n i := fun i => rfl
  have hln : lnA (exRow x n) (exL x n) = exE x n := by
    have := ln_row7 x hx n s2 (exL x n).toNat (by omega)
    rw [if_neg (by omega), Int.toNat_of_nonneg (by omega)] at this
    exact this
  have hE : exE x n = exS x n (exL x n) - 16 := rfl
  refine ⟨hl.1, hl.2, exS_zero x n, ?_, fun i i0 i1 => ?_, fun i i0 i1 => ?_⟩
  · have := exS_succ x n (exL x n - 1) (by omega)
    rw [show exL x n - 1 + 1 = exL x n by omega] at this
    rw [r5]; omega
  · have ha := exA_bd x hx n i s2 i0 i1
    have hb := exS_bd x hx n s2 i.toNat (by omega)
    rw [Int.toNat_of_nonneg i0] at hb
    have hc := exS_le x hx n s2 (i + 1) (by omega) (exL x n - (i + 1)).toNat (by omega)
    rw [show i + 1 + (((exL x n - (i + 1)).toNat : Nat) : Int) = exL x n by omega] at hc
    have hs := exS_succ x n i i0
    have hc0 := exS_le x hx n s2 0 (by omega) i.toNat (by omega)
    rw [show 0 + ((i.toNat : Nat) : Int) = i by omega, exS_zero] at hc0
    have ha0 := exA_bd x hx n 0 s2 (by omega) (by omega)
    have hs0 := exS_succ x n 0 (by omega)
    rw [exS_zero] at hs0
    have hmono : i = 0 ∨ exS x n 1 ≤ exS x n i := by
      by_cases hi : i = 0
      · exact .inl hi
      · right
        have := exS_le x hx n s2 1 (by omega) (i - 1).toNat (by omega)
        rw [show (1 : Int) + (((i - 1).toNat : Nat) : Int) = i by omega] at this
        omega
    have h05 : exE x n - exS x n 0 - exA x n 0 ≤ 32767 := hD
    rw [exS_zero] at h05
    rw [r3, r4, r5, hln]
    rw [show (0 : Int) + 1 = 1 from rfl] at hs0
    rcases hmono with rfl | hm
    · rw [exS_zero] at *
      refine ⟨?_, ?_, ?_, ?_, ?_, ?_, ?_⟩ <;> omega
    · refine ⟨?_, ?_, ?_, ?_, ?_, ?_, ?_⟩ <;> omega
  · have hs := exS_succ x n (i - 1) (by omega)
    rw [show i - 1 + 1 = i by omega] at hs
    have ha := exA_bd x hx n i s2 (by omega) i1
    rw [r3, r3, r4, r5, r5]
    omega
end Go.Proofs.YtiiabaklipmbbaaDoor
