/- What is left to show of the functions of one event. -/
import Derived.Test.YtdikdhjfcnocdaaDoorC
namespace Go.Proofs.YtdikdhjfcnocdaaDoor
open Go Go.RowKit Go.Proofs.YtdikdhjfcnocdaaDoor.Vc
theorem vc24 : VC24 := by
  unfold VC24
  intro c f h
  have h1 := p2_pow f (by omega) (by omega)
  have h2 := p2_bd f
  have hc : c = 0 ∨ c = 1 ∨ c = 2 ∨ c = 3 := by omega
  revert h1
  generalize (2 : Int) ^ f.toNat = y
  intro h1
  subst h1
  unfold aft whi wlo
  generalize p2 f = x at *
  rcases hc with rfl | rfl | rfl | rfl <;> simp <;> omega
theorem vc11 : VC11 := by unfold VC11; (repeat' (first | exact True.intro | apply And.intro | intro _)) <;> (try (subst_vars; grind [winW, winE]))
theorem vc17 : VC17 := by unfold VC17; (repeat' (first | exact True.intro | apply And.intro | intro _)) <;> (try (subst_vars; grind [chkE, winW, winE]))
theorem vc25 : VC25 := by unfold VC25; (repeat' (first | exact True.intro | apply And.intro | intro _)) <;> (try (subst_vars; grind [oddA]))
theorem vc26 : VC26 := by
  unfold VC26
  intro c f d h
  have := aft_bd c f
  (repeat' (first | exact True.intro | apply And.intro | intro _)) <;> (try (subst_vars; grind [drN]))
theorem vc29 : VC29 := by unfold VC29; (repeat' (first | exact True.intro | apply And.intro | intro _)) <;> (try (subst_vars; grind [stW, stN, stT, stG]))
theorem vc15 : VC15 := by
  unfold VC15
  intro c w n t e d
  have := aft_bd c t
  (repeat' (first | exact True.intro | apply And.intro | intro _)) <;> (try (subst_vars; grind [SE, SC, SW, SN, SR, SG, oddA, chkE]))
theorem vc12 : VC12 := by
  unfold VC12
  intro c f h
  refine ⟨by (repeat' (first | exact True.intro | apply And.intro | intro _)) <;> (try (subst_vars; grind [winW, winE])), fun hn => ?_⟩
  have hw : (if (decide (c = 0)) = true then (15 : Int) else ((if (decide (c = 1)) = true then (15 : Int) else ((if (decide (c = 2)) = true then (7 : Int) else (3 : Int)) : Int)) : Int)) = wlo c := by unfold wlo; grind
  have hh : (if (decide (c = 0)) = true then (1023 : Int) else ((if (decide (c = 1)) = true then (1023 : Int) else ((if (decide (c = 2)) = true then (15 : Int) else (7 : Int)) : Int)) : Int)) = whi c := by unfold whi; grind
  rw [hw, hh]
  have hb := wlo_bd c
  refine ⟨by omega, fun _ => ⟨by omega, fun _ => ⟨by omega, fun _ => ?_⟩⟩⟩
  refine ⟨fun x i => 0 ≤ i ∧ i ≤ f ∧ x = (wlo c + 1) * p2 i, fun _ i => (f - i).toNat, ⟨by omega, by omega, ?_⟩, fun x i hI => ?_⟩
  · simp [p2]
  · obtain ⟨i0, i1, rfl⟩ := hI
    have hp := p2_bd i
    have hs := p2_succ i i0
    simp only [winW, winE, aft]
    refine ⟨fun hlt => ?_, fun hge => ?_⟩
    · have hs := hs (by omega)
      rw [hs]
      generalize p2 i = y at *
      rcases hb with hb | hb | hb <;> rw [hb] <;> grind
    · have : i = f := by omega
      subst this
      generalize p2 i = y at *
      have hb2 : whi c ≤ 1023 := by unfold whi; grind
      rcases hb with hb | hb | hb <;> rw [hb] <;> grind
theorem vc18 : VC18 := by unfold VC18; (repeat' (first | exact True.intro | apply And.intro | intro _)) <;> (try (subst_vars; grind [chkE, winW, winE]))
theorem vc27 : VC27 := by unfold VC27; (repeat' (first | exact True.intro | apply And.intro | intro _)) <;> (try (subst_vars; grind [fitA, oddA]))
theorem vc28 : VC28 := by
  unfold VC28
  intro c f d h
  have := aft_bd c f
  (repeat' (first | exact True.intro | apply And.intro | intro _)) <;> (try (subst_vars; grind [drN, winW]))
theorem vc30 : VC30 := by unfold VC30; (repeat' (first | exact True.intro | apply And.intro | intro _)) <;> (try (subst_vars; grind [stW, stN, stT, stG]))
theorem vc16 : VC16 := by
  unfold VC16
  intro c w n t e d
  have := aft_bd c t
  (repeat' (first | exact True.intro | apply And.intro | intro _)) <;> (try (subst_vars; grind [SE, SC, SW, SN, SR, SG, fitA, oddA, chkE, stW, stN, stT, stG]))
theorem vc32 : VC32 := by unfold VC32; (repeat' (first | exact True.intro | apply And.intro | intro _)) <;> (try (subst_vars; grind [drA]))
theorem vc19 : VC19 := by unfold VC19; grind
end Go.Proofs.YtdikdhjfcnocdaaDoor
