/- Receiving: what is left to show of MediumLone. -/
import Derived.Test.YtgdjdaoglkfjdaaP10
import Derived.Test.YtgdjdaoglkfjdaaC8
namespace Go.Proofs.Ytgdjdaoglkfjdaa
open Go Go.RowKit Go.Proofs.Ytgdjdaoglkfjdaa.Vc
theorem cnt_less {p : Int → Bool} (h : p 0 = false) : ∀ k : Nat, cntN p (k + 1) ≤ k
  | 0 => by
    show (if p ((0 : Nat) : Int) = true then cntN p 0 + 1 else cntN p 0) ≤ _
    rw [show ((0 : Nat) : Int) = 0 by rfl, h]; exact Int.le_refl _
  | k + 1 => by
    have := cnt_less h k
    show (if p ((k + 1 : Nat) : Int) = true then cntN p (k + 1) + 1 else cntN p (k + 1)) ≤ _
    split <;> omega
theorem rv_nil {p : Int → Int → Bool} {n i j : Int} : rvQ p n zA 0 i j = p i j := by
  unfold rvQ
  rw [kp_iff.2 (.inr rfl), Bool.and_true]
set_option maxHeartbeats 1000000 in
theorem vc7 : VC7 := by
  intro a n l f m b k _ hn hm hk
  refine ⟨trivial, ?_⟩
  rintro al hal _ _ _
  refine ⟨trivial, ?_⟩
  rintro g hg
  refine ⟨fun _ => ⟨by rw [hal], trivial⟩, fun h1 => ?_⟩
  have hk80 := gr1_80 hg fun h2 => h1 (.inl h2)
  refine ⟨trivial, ?_⟩
  rintro L F N e hL hF hN he _ _
  rcases Classical.em (¬ mcE a n l f m b k = 0) with hc | hc
  · exact ⟨fun _ => ⟨by rw [he]; simp [hal, hc], trivial⟩, fun h2 => absurd (.inl (by rw [he]; exact hc)) h2⟩
  have hc := Classical.not_not.1 hc
  obtain ⟨hw, h64, hrow⟩ := mc_ok hc
  have hNk : N = k := by rw [hN]; unfold reN; rw [if_pos hc]
  subst hNk
  refine ⟨fun h2 => ?_, fun _ => ?_⟩
  · exfalso
    rcases h2 with h2 | h2
    · exact h2 (by rw [he]; exact hc)
    · exact h2 rfl
  refine ⟨fun i => 0 ≤ i ∧ i ≤ N, fun i => (N - i).toNat, ⟨by omega, by omega⟩, ?_⟩
  rintro i ⟨i0, i1⟩
  refine ⟨fun hlt => ?_, fun _ => ⟨by rw [hal], trivial⟩⟩
  have hr := hrow i i0 hlt
  refine ⟨fun q s => 0 ≤ q ∧ q ≤ N ∧ (s = true ↔ ∀ r, 0 ≤ r → r < q → r = i ∨ ovl (b i 1) (b i 2) (b r 1) (b r 2) = false), fun q _ => (N - q).toNat, ⟨by omega, by omega, ⟨fun _ r r0 r1 => by omega, fun _ => rfl⟩⟩, ?_⟩
  rintro q s ⟨q0, q1, hs⟩
  refine ⟨fun h3 => ⟨.inr i0, fun _ => ⟨.inr i0, fun _ => ⟨.inr q0, fun _ => ⟨.inr q0, fun _ => ⟨fun _ => trivial, ?_⟩⟩⟩⟩⟩, fun h3 => ⟨fun _ => ⟨by omega, fun _ => ⟨⟨by omega, by omega⟩, by dsimp only; omega⟩⟩, fun h4 => ?_⟩⟩
  · rintro o ho
    refine ⟨by omega, fun _ => ⟨⟨by omega, by omega, ?_⟩, by dsimp only; omega⟩⟩
    rw [Bool.and_eq_true, hs, Bool.or_eq_true, decide_eq_true_eq, Bool.not_eq_true', ho]
    constructor
    · rintro ⟨h5, h6⟩ r r0 r1
      by_cases hr : r = q
      · subst hr; exact h6
      · exact h5 r r0 (by omega)
    · intro h5
      exact ⟨fun r r0 r1 => h5 r r0 (by omega), h5 q q0 (by omega)⟩
  obtain rfl : q = N := by omega
  have hlone := hs.1 (Classical.not_not.1 h4)
  refine ⟨trivial, ?_⟩
  rintro nb nc ne hnb hnc hne _ _
  have hn1 := (ckW_ok hw).1
  have h00 : lvE a n l f m 0 0 = 0 := lvE_all hw (by omega) (by omega) (by omega) (by omega)
  have hless : nc < n := by
    rw [hnc]
    unfold nbN
    rw [if_pos h00]
    have := cnt_less (p := fun i => hrA a f m 0 i) (by unfold hrA; simp) (n.toNat - 1)
    rw [show n.toNat - 1 + 1 = n.toNat by omega] at this
    show cntN _ n.toNat < n
    omega
  refine ⟨fun h5 => ?_, fun _ => ?_⟩
  · exfalso
    rcases h5 with h5 | h5
    · exact h5 (by rw [hne]; exact h00)
    · omega
  refine ⟨fun j => 0 ≤ j ∧ j ≤ n, fun j => (n - j).toNat, ⟨by omega, by omega⟩, ?_⟩
  rintro j ⟨j0, j1⟩
  refine ⟨fun h5 => ⟨i0, fun _ => ⟨trivial, ?_⟩⟩, fun _ => ⟨by omega, fun _ => ⟨⟨by omega, by omega⟩, by dsimp only; omega⟩⟩⟩
  rintro v e1 hv he1
  rw [hrV_all hw j0 h5 hr.1 hr.2.1] at hv
  rw [lvE_all hw j0 h5 hr.1 hr.2.1] at he1
  refine ⟨trivial, ?_⟩
  rintro u e2 hu he2
  rw [lvV_all hw hr.1 hr.2.1 j0 h5] at hu
  rw [lvE_all hw hr.1 hr.2.1 j0 h5] at he2
  subst e1 e2
  refine ⟨.inr hlt, fun _ => ⟨.inr hlt, fun _ => ⟨.inr hlt, fun _ => ⟨fun _ => trivial, ?_⟩⟩⟩⟩
  rintro z hz
  have hiff : z = true ↔ (v = true ∧ b i 3 ≤ u) := by
    rw [hz, hF, hL, re_ha hn, rv_nil, ca_iff, hv, hu]
    constructor
    · rintro ⟨_, _, h6, h7, _⟩; exact ⟨h6, h7⟩
    · rintro ⟨h6, h7⟩
      exact ⟨j0, h5, h6, h7, fun r r0 r1 => (hlone r r0 r1).imp id fun h8 => .inl (by rw [ovl_comm]; exact h8)⟩
  refine ⟨fun h6 => ?_, fun _ => ⟨by omega, fun _ => ⟨⟨by omega, by omega⟩, by dsimp only; omega⟩⟩⟩
  exfalso
  rcases h6 with (h6 | h6) | h6
  · exact h6 rfl
  · exact h6 rfl
  · apply h6
    by_cases hzt : z = true
    · exact .inl ⟨hzt, hiff.1 hzt⟩
    · exact .inr ⟨hzt, fun h7 => hzt (hiff.2 h7)⟩
end Go.Proofs.Ytgdjdaoglkfjdaa
