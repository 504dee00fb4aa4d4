/- What is left to show of the contention inside a station. -/
import Derived.Test.YtdikdhjfcnocdaaDoorC2
namespace Go.Proofs.YtdikdhjfcnocdaaDoor
open Go Go.RowKit Go.Proofs.YtdikdhjfcnocdaaDoor.Vc
set_option maxHeartbeats 4000000 in
theorem vc20 : VC20 := by
  unfold VC20
  intro v0 v1 v2 v3 v4 v5 v6 v7 v8 v9 v10 v11 v12 v13 v14 v15 v16 v17 v18 v19 dr nd hP
  have k0 : chkE v0 v1 v2 v3 = 0 → 0 ≤ v3 ∧ v3 ≤ 6 ∧ 0 ≤ v2 ∧ v2 ≤ 1023 := by have := aft_bd v0 v3; unfold chkE; grind
  have k1 : chkE v4 v5 v6 v7 = 0 → 0 ≤ v7 ∧ v7 ≤ 6 ∧ 0 ≤ v6 ∧ v6 ≤ 1023 := by have := aft_bd v4 v7; unfold chkE; grind
  have k2 : chkE v8 v9 v10 v11 = 0 → 0 ≤ v11 ∧ v11 ≤ 6 ∧ 0 ≤ v10 ∧ v10 ≤ 1023 := by have := aft_bd v8 v11; unfold chkE; grind
  unfold rvP at hP
  have bad : ∀ x, ¬ ((chkE v0 v1 v2 v3 = 0 ∧ v0 = 0) ∧ (chkE v4 v5 v6 v7 = 0 ∧ v4 = 1) ∧ (chkE v8 v9 v10 v11 = 0 ∧ v8 = 2) ∧ (chkE v12 v13 v14 v15 = 0 ∧ v12 = 3)) → x = rvE v0 v1 v2 v3 v4 v5 v6 v7 v8 v9 v10 v11 v12 v13 v14 v15 v16 v17 v18 v19 dr nd → x = 8 := fun x h hx => by
    unfold rvE at hx
    rw [if_neg h] at hx
    exact hx
  refine fun hnd => ⟨hP.1, fun e0 he0 _ => ⟨by grind, fun _ => ⟨fun hb => by (have h8 := bad _ (by omega) rfl; simp [fxC, fxW, fxN, fxT, fxG, rvC, h8]), fun h0 => ⟨hP.2.1, fun e1 he1 => ⟨by grind, fun _ => ⟨fun hb => by (have h8 := bad _ (by omega) rfl; simp [fxC, fxW, fxN, fxT, fxG, rvC, h8]), fun h1 => ⟨hP.2.2.1, fun e2 he2 => ⟨by grind, fun _ => ⟨fun hb => by (have h8 := bad _ (by omega) rfl; simp [fxC, fxW, fxN, fxT, fxG, rvC, h8]), fun h2 => ⟨hP.2.2.2, fun e3 he3 => ⟨by grind, fun _ => ⟨fun hb => by (have h8 := bad _ (by omega) rfl; simp [fxC, fxW, fxN, fxT, fxG, rvC, h8]), fun h3 => ?_⟩⟩⟩⟩⟩⟩⟩⟩⟩⟩⟩⟩
  refine ⟨by omega, fun _ => ⟨by omega, fun _ => ?_⟩⟩
  clear bad
  have hEE : ∀ x, x = rvE v0 v1 v2 v3 v4 v5 v6 v7 v8 v9 v10 v11 v12 v13 v14 v15 v16 v17 v18 v19 dr nd → x = (if oddA (drA dr nd 0) = true ∨ oddA (drA dr nd 1) = true ∨ oddA (drA dr nd 2) = true ∨ oddA (drA dr nd 3) = true then 2 else 0) := fun x hx => by
    unfold rvE at hx
    rw [if_pos (by omega)] at hx
    exact hx
  have hE := hEE _ rfl
  clear hEE
  simp only [rvC]
  generalize rvE v0 v1 v2 v3 v4 v5 v6 v7 v8 v9 v10 v11 v12 v13 v14 v15 v16 v17 v18 v19 dr nd = EE at *
  obtain ⟨q0, q1, q2, q3⟩ := k0 (by omega)
  obtain ⟨q4, q5, q6, q7⟩ := k1 (by omega)
  obtain ⟨q8, q9, qa, qb⟩ := k2 (by omega)
  clear k0 k1 k2
  refine ⟨fun i => 0 ≤ i ∧ i ≤ min nd 4 ∧ (0 < i → oddA (dr 0 0) = false) ∧ (1 < i → oddA (dr 1 0) = false) ∧ (2 < i → oddA (dr 2 0) = false) ∧ (3 < i → oddA (dr 3 0) = false), fun i => (4 - i).toNat, by grind, fun i hI => ?_⟩
  refine fun _ => ⟨fun hlt => ⟨hI.1, fun _ => ⟨by omega, fun _ => ⟨trivial, fun o ho => ⟨fun hb => ?_, fun hg => ?_⟩⟩⟩⟩, fun hge => ?_⟩
  · have : i = 0 ∨ i = 1 ∨ i = 2 ∨ i = 3 := by omega
    have hE2 : EE = 2 := by
      rcases this with rfl | rfl | rfl | rfl <;> (unfold drA at hE; grind)
    subst hE2
    simp [fxC, fxW, fxN, fxT, fxG]
  · have : i = 0 ∨ i = 1 ∨ i = 2 ∨ i = 3 := by omega
    rcases this with rfl | rfl | rfl | rfl <;> grind
  · obtain ⟨i0, i1, o0, o1, o2, o3⟩ := hI
    have hE0 : EE = 0 := by
      unfold drA at hE
      have z : oddA 0 = false := by decide
      grind
    subst hE0
    have d0 : 0 < nd → 0 ≤ dr 0 0 ∧ dr 0 0 ≤ 1099511627776 := fun h => by have := o0 (by omega); unfold oddA at this; grind
    have d1 : 1 < nd → 0 ≤ dr 1 0 ∧ dr 1 0 ≤ 1099511627776 := fun h => by have := o1 (by omega); unfold oddA at this; grind
    have d2 : 2 < nd → 0 ≤ dr 2 0 ∧ dr 2 0 ≤ 1099511627776 := fun h => by have := o2 (by omega); unfold oddA at this; grind
    clear o0 o1 o2 o3 hE i0 i1 hge
    have c0 : v0 = 0 := by omega
    have c1 : v4 = 1 := by omega
    have c2 : v8 = 2 := by omega
    have c3 : v12 = 3 := by omega
    subst c0 c1 c2 c3
    clear hP h0 h1 h2 h3 he0 he1 he2 he3
    repeat' (first | exact True.intro | (show (_ : Int) = _ ∧ _ = fxC _ _ ∧ _; simp [fxC, fxW, fxN, fxT, fxG, rd, rk, drA, *]; done) | (show (_ : Int) = _ ∧ _ = fxC _ _ ∧ _; grind [fxC, fxW, fxN, fxT, fxG, rd, rk, drA]) | apply And.intro | intro _ | omega | (have := d0 (by omega); omega) | (have := d1 (by omega); omega) | (have := d2 (by omega); omega) | (grind [fxC, fxW, fxN, fxT, fxG, rd, rk, drA]))
end Go.Proofs.YtdikdhjfcnocdaaDoor
