/- What is left to show of the contention inside a station. -/
import Derived.Test.YtdikdhjfcnocdaaDoorC5
namespace Go.Proofs.YtdikdhjfcnocdaaDoor
open Go Go.RowKit Go.Proofs.YtdikdhjfcnocdaaDoor.Vc
set_option maxHeartbeats 4000000 in
theorem vc7 : VC7 := by
  unfold VC7
  intro v0 v1 v2 v3 v4 v5 v6 v7 v8 v9 v10 v11 v12 v13 v14 v15 v16 v17 v18 v19 dr nd hP hnd
  refine ⟨trivial, fun al hal _ => ⟨fun _ => by simp [hal], fun _ => ⟨hP, ?_⟩⟩⟩
  have hE : ∀ x, x = rvE v0 v1 v2 v3 v4 v5 v6 v7 v8 v9 v10 v11 v12 v13 v14 v15 v16 v17 v18 v19 dr nd → x = (if (chkE v0 v1 v2 v3 = 0 ∧ v0 = 0) ∧ (chkE v4 v5 v6 v7 = 0 ∧ v4 = 1) ∧ (chkE v8 v9 v10 v11 = 0 ∧ v8 = 2) ∧ (chkE v12 v13 v14 v15 = 0 ∧ v12 = 3) then
    (if oddA (drA dr nd 0) = true ∨ oddA (drA dr nd 1) = true ∨ oddA (drA dr nd 2) = true ∨ oddA (drA dr nd 3) = true then 2 else 0) else 8) := fun x hx => hx
  replace hE := hE _ rfl
  simp only [rvC]
  generalize rvE v0 v1 v2 v3 v4 v5 v6 v7 v8 v9 v10 v11 v12 v13 v14 v15 v16 v17 v18 v19 dr nd = EE at *
  have s0 : ∀ d, oddA d = false → chkE v0 v1 v2 v3 = 0 → v2 = 0 → chkE v0 (stW v0 v1 v2 v3 3 d) (stN v0 v1 v2 v3 3 d) (stT v0 v1 v2 v3 3 d) = 0 := fun d hd hc hn => st_chk _ _ _ _ _ _ (by unfold SE; unfold oddA at hd; grind)
  have s1 : ∀ d, oddA d = false → chkE v4 v5 v6 v7 = 0 → v6 = 0 → chkE v4 (stW v4 v5 v6 v7 3 d) (stN v4 v5 v6 v7 3 d) (stT v4 v5 v6 v7 3 d) = 0 := fun d hd hc hn => st_chk _ _ _ _ _ _ (by unfold SE; unfold oddA at hd; grind)
  have s2 : ∀ d, oddA d = false → chkE v8 v9 v10 v11 = 0 → v10 = 0 → chkE v8 (stW v8 v9 v10 v11 3 d) (stN v8 v9 v10 v11 3 d) (stT v8 v9 v10 v11 3 d) = 0 := fun d hd hc hn => st_chk _ _ _ _ _ _ (by unfold SE; unfold oddA at hd; grind)
  by_cases h0 : EE = 0
  · subst h0
    have hA : (chkE v0 v1 v2 v3 = 0 ∧ v0 = 0) ∧ (chkE v4 v5 v6 v7 = 0 ∧ v4 = 1) ∧ (chkE v8 v9 v10 v11 = 0 ∧ v8 = 2) ∧ (chkE v12 v13 v14 v15 = 0 ∧ v12 = 3) := by
      apply Decidable.byContradiction
      intro hn
      rw [if_neg hn] at hE
      omega
    rw [if_pos hA] at hE
    have hO : ¬ (oddA (drA dr nd 0) = true ∨ oddA (drA dr nd 1) = true ∨ oddA (drA dr nd 2) = true ∨ oddA (drA dr nd 3) = true) := by
      intro ho
      rw [if_pos ho] at hE
      omega
    simp only [not_or, Bool.not_eq_true] at hO
    obtain ⟨o0, o1, o2, o3⟩ := hO
    obtain ⟨⟨hc0, rfl⟩, ⟨hc1, rfl⟩, ⟨hc2, rfl⟩, ⟨hc3, rfl⟩⟩ := hA
    clear hE hP
    have i1 : oddA (drA dr nd (rk v16 v2)) = false := by unfold rk; split <;> assumption
    have i2 : oddA (drA dr nd (rk v16 v2 + rk v17 v6)) = false := by unfold rk; split <;> split <;> simpa
    have t0 := s0 _ o0 hc0
    have t1 := s1 _ i1 hc1
    have t2 := s2 _ i2 hc2
    have T0 : stT 0 v1 v2 v3 3 (drA dr nd 0) = if v3 = 6 then 0 else v3 + 1 := rfl
    have T1 : stT 1 v5 v6 v7 3 (drA dr nd (rk v16 v2)) = if v7 = 6 then 0 else v7 + 1 := rfl
    have T2 : stT 2 v9 v10 v11 3 (drA dr nd (rk v16 v2 + rk v17 v6)) = if v11 = 6 then 0 else v11 + 1 := rfl
    have G0 : stG 0 v1 v2 v3 3 (drA dr nd 0) = decide (v3 = 6) := by unfold stG; simp
    have G1 : stG 1 v5 v6 v7 3 (drA dr nd (rk v16 v2)) = decide (v7 = 6) := by unfold stG; simp
    have G2 : stG 2 v9 v10 v11 3 (drA dr nd (rk v16 v2 + rk v17 v6)) = decide (v11 = 6) := by unfold stG; simp
    have b3 : v3 ≤ 6 ∧ v7 ≤ 6 ∧ v11 ≤ 6 ∧ v15 ≤ 6 ∧ 0 ≤ v3 ∧ 0 ≤ v7 ∧ 0 ≤ v11 ∧ 0 ≤ v15 := by unfold chkE at hc0 hc1 hc2 hc3; grind
    clear s0 s1 s2 o0 o1 o2 i1 i2
    simp only [fxC, fxW, fxN, fxT, fxG, G0, G1, G2]
    generalize stT 0 v1 v2 v3 3 (drA dr nd 0) = x0 at *
    generalize stT 1 v5 v6 v7 3 (drA dr nd (rk v16 v2)) = x1 at *
    generalize stT 2 v9 v10 v11 3 (drA dr nd (rk v16 v2 + rk v17 v6)) = x2 at *
    generalize stW 0 v1 v2 v3 3 (drA dr nd 0) = w0 at *
    generalize stW 1 v5 v6 v7 3 (drA dr nd (rk v16 v2)) = w1 at *
    generalize stW 2 v9 v10 v11 3 (drA dr nd (rk v16 v2 + rk v17 v6)) = w2 at *
    generalize stN 0 v1 v2 v3 3 (drA dr nd 0) = n0 at *
    generalize stN 1 v5 v6 v7 3 (drA dr nd (rk v16 v2)) = n1 at *
    generalize stN 2 v9 v10 v11 3 (drA dr nd (rk v16 v2 + rk v17 v6)) = n2 at *
    clear G0 G1 G2
    have r0 : rd v16 v2 = decide (v16 = true ∧ v2 = 0) := by unfold rd; cases v16 <;> simp
    have r1 : rd v17 v6 = decide (v17 = true ∧ v6 = 0) := by unfold rd; cases v17 <;> simp
    have r2 : rd v18 v10 = decide (v18 = true ∧ v10 = 0) := by unfold rd; cases v18 <;> simp
    have r3 : rd v19 v14 = decide (v19 = true ∧ v14 = 0) := by unfold rd; cases v19 <;> simp
    rw [r0, r1, r2, r3]
    clear r0 r1 r2 r3
    have t0' : (v16 = true ∧ v2 = 0) → chkE 0 w0 n0 x0 = 0 := fun h => t0 h.2
    have t1' : (v17 = true ∧ v6 = 0) → chkE 1 w1 n1 x1 = 0 := fun h => t1 h.2
    have t2' : (v18 = true ∧ v10 = 0) → chkE 2 w2 n2 x2 = 0 := fun h => t2 h.2
    clear t0 t1 t2
    intro a0 a1 a2 a3 a4 a5 a6 a7 a8 a9 a10 a11 a12 a13 a14 a15 a16 a17 a18 a19 a20 a21 h0' h1 h2 h3 h4 h5 h6 h7 h8 h9 h10 h11 h12 h13 h14 h15 h16 h17 h18 h19 h20 h21
    subst h0' h1 h2 h3 h4 h5 h6 h7 h8 h9 h10 h11 h12 h13 h14 h15 h16 h17 h18 h19 h20 h21 hal
    clear hnd
    obtain ⟨z0, z1, z2, z3, z4, z5, z6, z7⟩ := b3
    by_cases p3 : (v19 = true ∧ v14 = 0) <;> by_cases p2 : (v18 = true ∧ v10 = 0) <;> by_cases p1 : (v17 = true ∧ v6 = 0) <;> by_cases p0 : (v16 = true ∧ v2 = 0) <;>
    (simp only [p0, p1, p2, p3, and_self, true_implies, false_implies, decide_true, decide_false] at t0' t1' t2' ⊢
     simp [hc0, hc1, hc2, hc3, t0', t1', t2', T0, T1, T2]
     try grind)
  · intro a0 a1 a2 a3 a4 a5 a6 a7 a8 a9 a10 a11 a12 a13 a14 a15 a16 a17 a18 a19 a20 a21 h0' h1 h2 h3 h4 h5 h6 h7 h8 h9 h10 h11 h12 h13 h14 h15 h16 h17 h18 h19 h20 h21
    refine ⟨fun _ => ?_, fun hn => absurd (by rw [h21]; exact h0) hn⟩
    simp only [fxC, fxW, fxN, fxT, fxG, h0, if_false, false_and, decide_false, Bool.false_and] at h0' h1 h2 h3 h4 h5 h6 h7 h8 h9 h10 h11 h12 h13 h14 h15 h16 h17 h18 h19 h20
    subst h0' h1 h2 h3 h4 h5 h6 h7 h8 h9 h10 h11 h12 h13 h14 h15 h16 h17 h18 h19 h20
    simp [hal]
end Go.Proofs.YtdikdhjfcnocdaaDoor
