/- Headers carry the durations: what is left to show of the law. -/
import Derived.Test.YtiiabaklipmbbaaDoorC13
import Derived.Test.YtiiabaklipmbbaaDoorP7
namespace Go.Proofs.YtiiabaklipmbbaaDoor
open Go Go.RowKit Go.Proofs.YtiiabaklipmbbaaDoor.Vc
theorem exK_rng (x : Xc) (n k : Int) : 1 ≤ exK x n k ∧ exK x n k ≤ 7 := by
  unfold exK
  split
  · split
    · omega
    · split <;> omega
  · split
    · split <;> omega
    · split <;> omega
theorem vc4 : VC4 := by
  unfold VC4
  intro p q lim d dm rts cts ack bar back m0 m1 m2 m3 m4 m5 y0 y1 y2 y3 y4 y5 _ dm0
  refine ⟨trivial, ?_⟩
  rintro _ rfl _
  refine ⟨fun _ => ⟨⟨fun _ => rfl, fun _ => rfl⟩, trivial⟩, fun hc => ⟨trivial, ?_⟩⟩
  have hne : ¬ (m0 = y0 ∧ (m1 = y1 ∧ (m2 = y2 ∧ (m3 = y3 ∧ (m4 = y4 ∧ m5 = y5))))) := fun h => hc (.inl (.inr h))
  clear hc
  generalize Xc.mk p q lim d dm rts cts ack bar back = x
  rintro a L er ha hL he L0 _
  refine ⟨fun _ => ⟨⟨fun _ => rfl, fun _ => rfl⟩, trivial⟩, fun h0 => ?_⟩
  obtain ⟨hx, n1, n2, g⟩ := pg_of (x := x) (by omega)
  have r0 : ∀ i, 1 ≤ a i 0 ∧ a i 0 ≤ 7 := fun i => by rw [ha]; exact exK_rng x (plN x) i
  rw [← ha, ← hL] at g
  clear ha hL he n1 n2
  have l0 := g.l0
  have l1 := g.l1
  have z := g.z
  have hs := g.s
  clear g
  refine ⟨fun j j0 j1 => by have := hs j j0 j1; omega, ?_⟩
  intro M hM
  rw [← hM] at hs
  refine ⟨fun i => 0 ≤ i, fun i => (L - i).toNat, Int.le_refl _, ?_⟩
  intro i i0
  refine ⟨fun hi => ⟨i0, fun _ => ⟨by have := r0 i; omega, ?_⟩⟩, fun hi => ⟨fun _ => trivial, ?_⟩⟩
  · intro v28 v29 v30 v31 v32 v33 v34 v35 v36 v37 v38 v39 v40 v41 v42 v43 v44 v45 v46 v47 v48 v49 v50 v51 v52 v53 v54 v55 v56 v57 v58 v59 v60 v61 v62 v63 v64 v65 v66 v67 v68 _ _ _ _ _ _ _ _ _ h37 h38 h39 h40 h41 h42 h43 h44 h45 h46 h47 h48 h49 _ _ _ _ _ _ _ _ _ _ _ _ _ _ _ _ _ _ h68
    have hb := hs i i0 hi
    have hk := r0 i
    have hg : hdG (a i 0) (a i 5) = true := by
      unfold hdG
      exact decide_eq_true (by omega)
    have e68 : v68 = 0 := by rw [h68]; unfold hdE; rw [hg]; rfl
    have e37 : v37 = a i 5 := by rw [h37]; unfold hdD; rw [hg]; rfl
    unfold hdO at h38 h39 h40 h41 h42 h43
    unfold hdF at h44 h45 h46 h47 h48 h49
    rw [hg] at h38 h39 h40 h41 h42 h43 h44 h45 h46 h47 h48 h49
    refine ⟨.inr (by omega), fun _ => ⟨.inr (by omega), fun _ => ⟨fun hbad => by omega, fun _ => ⟨fun hp => ?_, fun hp => ?_⟩⟩⟩⟩
    · have ht : (a i 0 = 3 ∨ (!(decide (a i 1 = 0))) = true) := by
        rcases hp with hp | hp
        · exact .inr (by simp [hp])
        · exact .inl hp
      rw [if_pos rfl, if_pos ht] at h38 h39 h40 h41 h42 h43
      refine ⟨fun hbad => ?_, fun _ => ⟨by omega, fun _ => ⟨by omega, by dsimp only; omega⟩⟩⟩
      exfalso
      rcases hbad with hbad | ⟨hz, heq⟩
      · exact hbad ⟨h38, h39, h40, h41, h42, h43⟩
      · by_cases hf : ¬ a i 0 = 2 ∧ ¬ a i 0 = 3 ∧ ¬ a i 0 = 5
        · have hpr : (!(decide (a i 1 = 0))) = true := ht.resolve_left hf.2.1
          rw [if_pos ⟨rfl, hf⟩, if_pos hpr] at h44 h45 h46 h47 h48 h49
          exact hne ⟨by omega, by omega, by omega, by omega, by omega, by omega⟩
        · rw [if_neg (fun h => hf h.2)] at h44 h45 h46 h47 h48 h49
          exact hz ⟨h44, h45, h46, h47, h48, h49⟩
    · have hp1 : a i 1 = 0 := Classical.byContradiction fun h => hp (.inl h)
      have hp3 : ¬ a i 0 = 3 := fun h => hp (.inr h)
      have ht : ¬ (a i 0 = 3 ∨ (!(decide (a i 1 = 0))) = true) := fun h => by
        rcases h with h | h
        · exact hp3 h
        · simp [hp1] at h
      have hpr : ¬ (!(decide (a i 1 = 0))) = true := fun h => ht (.inr h)
      rw [if_pos rfl, if_neg ht] at h38 h39 h40 h41 h42 h43
      refine ⟨fun hbad => ?_, fun _ => ⟨by omega, fun _ => ⟨by omega, by dsimp only; omega⟩⟩⟩
      exfalso
      rcases hbad with hbad | ⟨hz, heq⟩
      · exact hbad ⟨h38, h39, h40, h41, h42, h43⟩
      · by_cases hf : ¬ a i 0 = 2 ∧ ¬ a i 0 = 3 ∧ ¬ a i 0 = 5
        · rw [if_pos ⟨rfl, hf⟩, if_neg hpr] at h44 h45 h46 h47 h48 h49
          exact hne ⟨by omega, by omega, by omega, by omega, by omega, by omega⟩
        · rw [if_neg (fun h => hf h.2)] at h44 h45 h46 h47 h48 h49
          exact hz ⟨h44, h45, h46, h47, h48, h49⟩
  · intro v hv
    have hb := hs 0 (Int.le_refl _) (by omega)
    have : v = true := by rw [hv]; exact decide_eq_true (by omega)
    exact ⟨⟨fun _ => rfl, fun _ => ⟨rfl, this⟩⟩, trivial⟩
end Go.Proofs.YtiiabaklipmbbaaDoor
