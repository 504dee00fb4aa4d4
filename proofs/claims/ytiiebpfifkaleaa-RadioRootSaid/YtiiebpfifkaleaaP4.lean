/- The law of the distances: what is left to show. -/
import Derived.Test.YtiiebpfifkaleaaP2
namespace Go.Proofs.Ytiiebpfifkaleaa
open Go Go.RowKit Go.Proofs.Ytiiebpfifkaleaa.Vc
theorem dist_no {x1 y1 x2 y2 : Int} (h : ¬ okd x1 y1 x2 y2 = true) : dist x1 y1 x2 y2 = 0 ∧ diste x1 y1 x2 y2 ≠ 0 := by
  unfold dist diste
  rw [if_neg h, if_neg h]
  exact ⟨rfl, by decide⟩
theorem max_sq (x y : Int) : max (x - y) (y - x) * max (x - y) (y - x) = (x - y) * (x - y) := by
  by_cases h : y ≤ x
  · rw [show max (x - y) (y - x) = x - y by omega]
  · rw [show max (x - y) (y - x) = y - x by omega, ← Int.neg_sub x y, Int.neg_mul_neg]
theorem root_laws {p q d : Int} (hp : 0 ≤ p) (hq : 0 ≤ q) (hd : 0 ≤ d) (h1 : d * d ≤ p * p + q * q) (h2 : p * p + q * q < (d + 1) * (d + 1)) : p ≤ d ∧ q ≤ d ∧ d ≤ p + q := by
  have pp := Int.mul_nonneg hp hp
  have qq := Int.mul_nonneg hq hq
  have pq := Int.mul_nonneg hp hq
  refine ⟨?_, ?_, ?_⟩
  · refine Int.not_lt.1 fun h => ?_
    have := Int.mul_le_mul (show d + 1 ≤ p by omega) (show d + 1 ≤ p by omega) (by omega) hp
    omega
  · refine Int.not_lt.1 fun h => ?_
    have := Int.mul_le_mul (show d + 1 ≤ q by omega) (show d + 1 ≤ q by omega) (by omega) hq
    omega
  · refine Int.not_lt.1 fun h => ?_
    have h3 := Int.mul_le_mul (show p + q + 1 ≤ d by omega) (show p + q + 1 ≤ d by omega) (by omega) hd
    grind
theorem vc5 : VC5 := by
  intro x1 y1 x2 y2 _
  have hs := dist_sym x1 y1 x2 y2
  obtain ⟨p, ep⟩ : ∃ p, p = max (x1 - x2) (x2 - x1) := ⟨_, rfl⟩
  obtain ⟨q, eq⟩ : ∃ q, q = max (y1 - y2) (y2 - y1) := ⟨_, rfl⟩
  have sp := max_sq x1 x2
  have sq := max_sq y1 y2
  rw [← ep] at sp ⊢
  rw [← eq] at sq ⊢
  rw [← hs.1, ← hs.2]
  by_cases hk : okd x1 y1 x2 y2 = true
  · have k := okd_iff.1 hk
    have hd := dist_ok hk
    have hp : 0 ≤ p ∧ p ≤ 20000 := by omega
    have hq : 0 ≤ q ∧ q ≤ 20000 := by omega
    rw [← sp, ← sq] at hd
    obtain ⟨he, d0, d1, d2, d3⟩ := hd
    have hr := root_laws hp.1 hq.1 d0 d2 d3
    have b1 := Int.mul_nonneg hp.1 hp.1
    have b2 := Int.mul_le_mul hp.2 hp.2 hp.1 (by omega)
    have c1 := Int.mul_nonneg hq.1 hq.1
    have c2 := Int.mul_le_mul hq.2 hq.2 hq.1 (by omega)
    have e1 := Int.mul_nonneg d0 d0
    have f1 := Int.mul_nonneg (show 0 ≤ dist x1 y1 x2 y2 + 1 by omega) (show 0 ≤ dist x1 y1 x2 y2 + 1 by omega)
    have f2 := Int.mul_le_mul (show dist x1 y1 x2 y2 + 1 ≤ 30000 by omega) (show dist x1 y1 x2 y2 + 1 ≤ 30000 by omega) (show 0 ≤ dist x1 y1 x2 y2 + 1 by omega) (by omega)
    clear sp sq hs ep eq hk
    generalize dist x1 y1 x2 y2 = d at *
    generalize diste x1 y1 x2 y2 = e at *
    obtain ⟨A, hA⟩ : ∃ A, A = p * p := ⟨_, rfl⟩
    obtain ⟨B, hB⟩ : ∃ B, B = q * q := ⟨_, rfl⟩
    obtain ⟨D, hD⟩ : ∃ D, D = d * d := ⟨_, rfl⟩
    obtain ⟨E, hE⟩ : ∃ E, E = (d + 1) * (d + 1) := ⟨_, rfl⟩
    refine ⟨trivial, fun v4 h4 => ⟨trivial, fun v5 v6 h5 h6 => ⟨trivial, fun v7 v8 h7 h8 => ⟨fun h => ?_, fun _ => ?_⟩⟩⟩⟩
    · subst_vars; grind
    · subst h5 h7
      rw [← hA, ← hB, ← hD, ← hE]
      rw [← hA, ← hB, ← hD] at d2
      rw [← hA, ← hB, ← hE] at d3
      rw [← hA] at b1 b2
      rw [← hB] at c1 c2
      rw [← hD] at e1
      rw [← hE] at f1 f2
      clear hA hB hD hE
      subst_vars
      refine ⟨by omega, fun _ => ⟨by omega, fun _ => ⟨by omega, fun _ => ⟨by omega, fun _ => ⟨by omega, fun _ => ⟨by omega, fun _ => ⟨by omega, fun _ => ⟨by omega, fun _ => ⟨by omega, fun _ => ⟨by omega, fun _ => ⟨by omega, fun _ => ⟨by omega, fun _ => ⟨?_, trivial⟩⟩⟩⟩⟩⟩⟩⟩⟩⟩⟩⟩⟩
      exact ⟨fun _ => rfl, fun _ => by omega⟩
  · have hd := dist_no hk
    rw [hd.1] at *
    clear sp sq ep eq hk
    generalize diste x1 y1 x2 y2 = e at *
    refine ⟨trivial, fun v4 h4 => ⟨trivial, fun v5 v6 h5 h6 => ⟨trivial, fun v7 v8 h7 h8 => ⟨fun _ => ?_, fun h => ?_⟩⟩⟩⟩
    · subst_vars; simp
    · subst_vars; exact absurd (Or.inl hd.2) h
end Go.Proofs.Ytiiebpfifkaleaa
