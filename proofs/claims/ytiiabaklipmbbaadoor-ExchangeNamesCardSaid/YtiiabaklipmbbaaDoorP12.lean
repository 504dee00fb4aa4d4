/- A part's header: what is left to show. -/
import Derived.Test.YtiiabaklipmbbaaDoorC12
namespace Go.Proofs.YtiiabaklipmbbaaDoor
open Go Go.RowKit Go.Proofs.YtiiabaklipmbbaaDoor.Vc
theorem vc9 : VC9 := by
  unfold VC9
  intro k pr ix st ai d m0 m1 m2 m3 m4 m5 y0 y1 y2 y3 y4 y5 h
  refine ⟨h.1, fun _ => ⟨h.2, fun _ => ⟨fun hc => ?_, fun hc => ?_⟩⟩⟩
  · have hg : hdG k d = false := by
      unfold hdG
      exact decide_eq_false (by omega)
    simp [hdK, hdS, hdD, hdO, hdF, hdE, hg]
  · have hg : hdG k d = true := by
      unfold hdG
      exact decide_eq_true (by omega)
    have hk : k = 1 ∨ k = 2 ∨ k = 3 ∨ k = 4 ∨ k = 5 ∨ k = 6 ∨ k = 7 := by omega
    unfold hdK hdS hdD hdO hdF hdE
    rw [hg]
    rcases hk with rfl | rfl | rfl | rfl | rfl | rfl | rfl <;> cases pr <;> simp
end Go.Proofs.YtiiabaklipmbbaaDoor
