/- Carrier sense: what is left to show of MediumIdle. -/
import Derived.Test.YtgdjdaoglkfjdaaP10
import Derived.Test.YtgdjdaoglkfjdaaC10
namespace Go.Proofs.Ytgdjdaoglkfjdaa
open Go Go.RowKit Go.Proofs.Ytgdjdaoglkfjdaa.Vc
set_option maxHeartbeats 1000000 in
theorem vc8 : VC8 := by
  intro a n l f m b k j x s _ hn hm hk
  refine ⟨trivial, ?_⟩
  rintro al hal _ _ _
  refine ⟨trivial, ?_⟩
  rintro g hg
  refine ⟨fun _ => ⟨by rw [hal], trivial⟩, fun h1 => ?_⟩
  have hs60 : s ≤ 60 := Int.not_lt.1 fun h2 => h1 (.inl (.inr h2))
  refine ⟨trivial, ?_⟩
  rintro T e hT he
  refine ⟨fun h2 => ⟨?_, trivial⟩, fun h2 => ?_⟩
  · have : T = 0 := by rw [hT]; unfold idV; rw [if_neg (by rw [← he]; exact h2)]
    simp [hal, this]
  have hc : maE a n l f m b k j x s = 0 := by omega
  obtain ⟨q1, j0, j1, x0, x1, s0, s1⟩ := ma_ok hc
  obtain ⟨hw, h64, hrow⟩ := mc_ok q1
  refine ⟨fun h3 => by omega, fun _ => ?_⟩
  have hT2 : T = idF a f m b k j x s := by rw [hT]; unfold idV; rw [if_pos hc]
  -- what the time is
  have hfacts : x ≤ T ∧ (s ≠ 0 → bzB a f m b k j (T - s) T = false) ∧ (T = x ∨ ∃ r, 0 ≤ r ∧ r < k ∧ snP a f m b j r = true ∧ T = b r 2 + s) := by
    by_cases hs : s = 0
    · have : T = x := by rw [hT2]; unfold idF; rw [if_pos hs]
      exact ⟨by omega, fun h => absurd hs h, .inl this⟩
    · obtain ⟨T', h'⟩ := id_ex (j := j) q1 x0 s0
      have : T = T' := by rw [hT2]; exact idF_eq hs h'
      subst this
      refine ⟨h'.ge, fun _ => h'.no, ?_⟩
      by_cases hx : T = x
      · exact .inl hx
      · right
        have hge := h'.ge
        obtain ⟨r, r0, r1, h3, h4, h5⟩ := bz_iff.1 (h'.lt (T - 1) (by omega) (by omega))
        refine ⟨r, r0, r1, h3, ?_⟩
        have h6 : ¬ (b r 1 < T ∧ T - s < b r 2) := fun h7 => by
          have := h'.no
          rw [bz_iff.2 ⟨r, r0, r1, h3, h7.1, h7.2⟩] at this
          cases this
        omega
  obtain ⟨f1, f2, f3⟩ := hfacts
  have hTb : T ≤ 1099511627836 := by
    rcases f3 with f3 | ⟨r, r0, r1, _, f3⟩
    · omega
    · have := hrow r r0 r1
      omega
  clear hT hT2
  refine ⟨by omega, fun _ => ?_⟩
  refine ⟨fun u => 0 ≤ u ∧ T - s ≤ u, fun u => (T - u).toNat, ⟨by omega, by omega⟩, ?_⟩
  rintro u ⟨u0, u1⟩
  refine ⟨fun h3 => ⟨trivial, ?_⟩, fun h3 => ?_⟩
  · rintro v e1 hv he1
    have e10 : e1 = 0 := by
      rw [he1]
      unfold maE
      rw [if_pos q1, if_pos ⟨j0, j1, ⟨u0, h3.2⟩, by omega, by omega⟩]
    have hv0 : v = false := by
      rw [hv]
      unfold buV
      rw [← he1, e10]
      have hno := f2 (by omega)
      have : bzB a f m b k j u (u + 1) = false := by
        cases hb : bzB a f m b k j u (u + 1) with
        | false => rfl
        | true =>
          obtain ⟨r, r0, r1, h4, h5, h6⟩ := bz_iff.1 hb
          rw [bz_iff.2 ⟨r, r0, r1, h4, by omega, by omega⟩] at hno
          cases hno
      rw [this]; simp
    refine ⟨fun h4 => ?_, fun _ => ⟨by omega, fun _ => ⟨⟨by omega, by omega⟩, by dsimp only; omega⟩⟩⟩
    exfalso
    rcases h4 with h4 | h4
    · exact h4 e10
    · rw [hv0] at h4; cases h4
  · refine ⟨fun w i => 0 ≤ i ∧ i ≤ k ∧ (T = x → w = true) ∧ ∀ r, 0 ≤ r → r < i → snP a f m b j r = true → T = b r 2 + s → w = true, fun _ i => (k - i).toNat, ⟨by omega, by omega, fun h => decide_eq_true h, fun r r0 r1 => by omega⟩, ?_⟩
    rintro w i ⟨i0, i1, hw1, hw2⟩
    refine ⟨fun h4 => ⟨i0, fun _ => ⟨trivial, ?_⟩⟩, fun h4 => ⟨?_, trivial⟩⟩
    · rintro v e1 hv he1
      have hr := hrow i i0 h4
      rw [hrV_all hw j0 j1 hr.1 hr.2.1] at hv
      rw [lvE_all hw j0 j1 hr.1 hr.2.1] at he1
      refine ⟨.inr (by omega), fun _ => ⟨by omega, fun _ => ⟨⟨by omega, by omega, fun h => by rw [hw1 h]; rfl, fun r r0 r1 h5 h6 => ?_⟩, by dsimp only; omega⟩⟩⟩
      by_cases hri : r = i
      · subst hri
        unfold snP at h5
        rw [Bool.or_eq_true, decide_eq_true_eq] at h5
        have : (v || decide (b r 0 = j)) = true := by
          rw [Bool.or_eq_true, decide_eq_true_eq, hv]; exact h5
        rw [he1, this, decide_eq_true h6]; simp
      · rw [hw2 r r0 (by omega) h5 h6]; rfl
    · obtain rfl : i = k := by omega
      have : w = true := by
        rcases f3 with f3 | ⟨r, r0, r1, f4, f5⟩
        · exact hw1 f3
        · exact hw2 r r0 r1 f4 f5
      exact ⟨fun _ => rfl, fun _ => ⟨⟨hal, f1⟩, this⟩⟩
end Go.Proofs.Ytgdjdaoglkfjdaa
