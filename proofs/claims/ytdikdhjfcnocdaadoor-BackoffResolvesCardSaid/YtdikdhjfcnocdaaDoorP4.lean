/- What is left to show of the contention inside a station. -/
import Derived.Test.YtdikdhjfcnocdaaDoorC3
namespace Go.Proofs.YtdikdhjfcnocdaaDoor
open Go Go.RowKit Go.Proofs.YtdikdhjfcnocdaaDoor.Vc
set_option maxHeartbeats 4000000 in
theorem vc21 : VC21 := by
  unfold VC21
  intro v0 v1 v2 v3 v4 v5 v6 v7 v8 v9 v10 v11 v12 v13 v14 v15 v16 v17 v18 v19 dr nd hP
  have k0 : chkE v0 v1 v2 v3 = 0 → 0 ≤ v3 ∧ v3 ≤ 6 ∧ 0 ≤ v2 ∧ v2 ≤ 1023 := by have := aft_bd v0 v3; unfold chkE; grind
  have k1 : chkE v4 v5 v6 v7 = 0 → 0 ≤ v7 ∧ v7 ≤ 6 ∧ 0 ≤ v6 ∧ v6 ≤ 1023 := by have := aft_bd v4 v7; unfold chkE; grind
  have k2 : chkE v8 v9 v10 v11 = 0 → 0 ≤ v11 ∧ v11 ≤ 6 ∧ 0 ≤ v10 ∧ v10 ≤ 1023 := by have := aft_bd v8 v11; unfold chkE; grind
  unfold rvP at hP
  have hE : ∀ x, x = rvE v0 v1 v2 v3 v4 v5 v6 v7 v8 v9 v10 v11 v12 v13 v14 v15 v16 v17 v18 v19 dr nd → x = (if (chkE v0 v1 v2 v3 = 0 ∧ v0 = 0) ∧ (chkE v4 v5 v6 v7 = 0 ∧ v4 = 1) ∧ (chkE v8 v9 v10 v11 = 0 ∧ v8 = 2) ∧ (chkE v12 v13 v14 v15 = 0 ∧ v12 = 3) then
    (if oddA (drA dr nd 0) = true ∨ oddA (drA dr nd 1) = true ∨ oddA (drA dr nd 2) = true ∨ oddA (drA dr nd 3) = true then 2 else 0) else 8) := fun x hx => hx
  have hE := hE _ rfl
  have f0 : oddA (drA dr nd 0) = false → 0 ≤ drA dr nd 0 ∧ drA dr nd 0 ≤ 1099511627776 := by unfold oddA; grind
  have f1 : oddA (drA dr nd 1) = false → 0 ≤ drA dr nd 1 ∧ drA dr nd 1 ≤ 1099511627776 := by unfold oddA; grind
  have f2 : oddA (drA dr nd 2) = false → 0 ≤ drA dr nd 2 ∧ drA dr nd 2 ≤ 1099511627776 := by unfold oddA; grind
  simp only [rvC, fitA]
  generalize rvE v0 v1 v2 v3 v4 v5 v6 v7 v8 v9 v10 v11 v12 v13 v14 v15 v16 v17 v18 v19 dr nd = EE at *
  generalize hc0 : chkE v0 v1 v2 v3 = e0 at *
  generalize hc1 : chkE v4 v5 v6 v7 = e1 at *
  generalize hc2 : chkE v8 v9 v10 v11 = e2 at *
  generalize hc3 : chkE v12 v13 v14 v15 = e3 at *
  generalize hd0 : drA dr nd 0 = d0 at *
  generalize hd1 : drA dr nd 1 = d1 at *
  generalize hd2 : drA dr nd 2 = d2 at *
  generalize hd3 : drA dr nd 3 = d3 at *
  clear hc0 hc1 hc2 hc3
  repeat' (first | exact True.intro | (show (_ : Int) = _ ∧ _ = fxC _ _ ∧ _; grind [fxC, fxW, fxN, fxT, fxG, rd, rk]) | apply And.intro | intro _ | omega | grind [fxC, fxW, fxN, fxT, fxG, rd, rk])
end Go.Proofs.YtdikdhjfcnocdaaDoor
