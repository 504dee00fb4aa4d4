/- The library's sort at a list in order: what is left to show. -/
import Derived.Test.YtiiabaklipmbbaaDoorC9
namespace Go.Proofs.YtiiabaklipmbbaaDoor
open Go Go.RowKit Go.Proofs.YtiiabaklipmbbaaDoor.Vc
theorem vc26 : VC26 := by
  intro x h
  exact ⟨h, fun v hv => ⟨hv, trivial⟩⟩
theorem vc33 : VC33 := by
  intro x y _
  refine ⟨fun h => absurd rfl h, fun _ => ⟨by simp, trivial⟩⟩
theorem vc27 : VC27 := by
  rintro d n a b ⟨hs, n1, a0, a1, b1⟩ n0
  refine ⟨by omega, fun _ => ⟨fun i => a + 1 ≤ i, fun i => (b - i).toNat, Int.le_refl _, ?_⟩⟩
  intro i hi hn
  refine ⟨fun h1 => ⟨fun j => j = i, fun _ => 0, rfl, ?_⟩, fun _ => trivial⟩
  rintro j rfl
  refine ⟨by omega, fun _ => ⟨by omega, fun _ => ⟨by omega, fun _ => ⟨by omega, fun _ => ⟨by omega, fun _ => ⟨by omega, fun _ => ⟨by omega, fun _ => ⟨by omega, fun _ => ⟨by omega, fun _ => ⟨fun _ => trivial, ?_⟩⟩⟩⟩⟩⟩⟩⟩⟩⟩
  intro v hv
  have h2 := hs.h (j - 1) j (by omega) (by omega) (by omega)
  have h3 : ¬ v = true := by rw [hv]; simp; omega
  exact ⟨fun h => absurd h.2 h3, fun _ => ⟨by omega, fun _ => ⟨by omega, by dsimp only; omega⟩⟩⟩
theorem vc32 : VC32 := by
  rintro d n a b ⟨hs, n1, a0, a1, b1⟩ n0
  refine ⟨by omega, fun _ => ⟨fun i => a + 1 ≤ i ∧ i ≤ b, fun i => (b - i).toNat, ⟨Int.le_refl _, by omega⟩, ?_⟩⟩
  rintro i ⟨hi, hib⟩ hn
  refine ⟨by omega, fun _ => ⟨by omega, fun _ => ⟨by omega, fun _ => ⟨by omega, fun _ => ⟨by omega, fun _ => ⟨by omega, fun _ => ⟨by omega, fun _ => ⟨by omega, fun _ => ⟨by omega, fun _ => ⟨fun _ => trivial, ?_⟩⟩⟩⟩⟩⟩⟩⟩⟩⟩
  intro v hv
  have h3 : i < b → ¬ v = true := fun h => by
    have h2 := hs.h (i - 1) i (by omega) (by omega) (by omega)
    rw [hv]; simp; omega
  refine ⟨fun h => ⟨by omega, fun _ => ⟨by omega, by dsimp only; omega⟩⟩, fun h => ⟨fun _ => by simp, fun h4 => ?_⟩⟩
  exact absurd ⟨by omega, h3 (by omega)⟩ h
theorem vc30 : VC30 := by
  rintro d n a b ⟨hs, n1, a0, a1, b1⟩ n0
  have hq : 2 ≤ Int.tdiv (b - a) 4 ∧ Int.tdiv (b - a) 4 * 4 ≤ b - a := by
    rw [Int.tdiv_eq_ediv_of_nonneg (by omega)]; omega
  generalize Int.tdiv (b - a) 4 = q at *
  refine ⟨by omega, fun _ => ⟨by omega, fun _ => ⟨by omega, fun _ => ⟨by omega, fun _ => ⟨by omega, fun _ => ⟨by omega, fun _ => ⟨by omega, fun _ => ⟨by omega, fun _ => fun _ => ⟨fun h8 => ⟨fun h => by omega, fun _ => ?_⟩, fun h8 => by omega⟩⟩⟩⟩⟩⟩⟩⟩⟩
  refine ⟨by omega, fun _ => ⟨by omega, fun _ => ⟨by omega, fun _ => ⟨by omega, fun _ => ⟨trivial, ?_⟩⟩⟩⟩⟩
  intro v4 h4
  have e4 : ¬ v4 = true := by rw [h4, decide_eq_true_eq]; have := hs.h (a + q * 1) (a + q * 2) (by omega) (by omega) (by omega); omega
  refine ⟨fun h => absurd h e4, fun _ => ⟨by omega, fun _ => ⟨by omega, fun _ => ⟨trivial, ?_⟩⟩⟩⟩
  intro v5 h5
  have e5 : ¬ v5 = true := by rw [h5, decide_eq_true_eq]; have := hs.h (a + q * 2) (a + q * 3) (by omega) (by omega) (by omega); omega
  refine ⟨fun h => absurd h e5, fun _ => ⟨trivial, ?_⟩⟩
  intro v6 h6
  have e6 : ¬ v6 = true := by rw [h6, decide_eq_true_eq]; have := hs.h (a + q * 1) (a + q * 2) (by omega) (by omega) (by omega); omega
  exact ⟨fun h => absurd h e6, fun _ => ⟨rfl, rfl, trivial⟩⟩
theorem vc25 : VC25 := by
  rintro d n a b lim ⟨hs, n1, a0, a1, b0, b1, hl⟩ n0
  refine ⟨by omega, fun _ => fun _ => ⟨fun h => ⟨⟨hs, n1, a0, a1, b1⟩, trivial⟩, fun h => ⟨fun h0 => by omega, fun _ => ⟨⟨hs, n1, a0, by omega, b1⟩, ?_⟩⟩⟩⟩
  intro v5 v6 _ h6
  refine ⟨fun h2 => by omega, fun _ => ⟨fun _ => ⟨⟨hs, n1, a0, by omega, b1⟩, ?_⟩, fun h7 => absurd h6 h7⟩⟩
  intro v7 h7
  exact ⟨fun _ => trivial, fun h8 => absurd h7 h8⟩
theorem vc23 : VC23 := by
  rintro d n ⟨hs, n1⟩ n0
  refine ⟨by omega, fun _ => ⟨by omega, ?_⟩⟩
  intro v hv _
  refine ⟨⟨hs, n1, Int.le_refl _, n0, n0, Int.le_refl _, ?_⟩, trivial⟩
  rw [hv]
  by_cases h : n ≤ 12
  · exact .inl (by omega)
  · right
    unfold lz
    grind
end Go.Proofs.YtiiabaklipmbbaaDoor
