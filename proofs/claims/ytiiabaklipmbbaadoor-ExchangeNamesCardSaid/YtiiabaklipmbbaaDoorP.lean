/- What is left to show of the small functions. -/
import Derived.Test.YtiiabaklipmbbaaDoorC
namespace Go.Proofs.YtiiabaklipmbbaaDoor
open Go Go.RowKit Go.Proofs.YtiiabaklipmbbaaDoor.Vc
theorem vc15 : VC15 := by unfold VC15; (repeat' (first | exact True.intro | apply And.intro | intro _)) <;> (try (subst_vars; grind []))
theorem vc13 : VC13 := by unfold VC13; (repeat' (first | exact True.intro | apply And.intro | intro _)) <;> (try (subst_vars; grind []))
theorem vc12 : VC12 := by unfold VC12; grind
theorem vc10 : VC10 := by
  unfold VC10
  intro a n hP hn
  refine ⟨fun e k => 0 ≤ k ∧ k ≤ n ∧ e = lnA a k, fun _ k => (n - k).toNat, ⟨by omega, hn, rfl⟩, fun e k hI => ?_⟩
  obtain ⟨k0, k1, rfl⟩ := hI
  have h1 := hP k k0
  have h2 := lnA_succ a k k0
  have h3 : k = n → lnA a k = lnA a n := fun h => by rw [h]
  clear hP
  (repeat' (first | exact True.intro | apply And.intro | intro _)) <;> (try (subst_vars; grind []))
theorem vc19 : VC19 := by
  unfold VC19
  intro a n b m _ hn hm _ _
  refine ⟨fun h => by simp [smZ, h], fun h => ?_⟩
  have h : n = m := by omega
  subst h
  refine ⟨fun k => 0 ≤ k ∧ k ≤ n ∧ ∀ i, 0 ≤ i → i < k → a i 0 = b i 0, fun k => (n - k).toNat, ⟨by omega, hn, fun i h0 h1 => by omega⟩, fun k hI => ?_⟩
  obtain ⟨k0, k1, hk⟩ := hI
  refine ⟨fun hlt => ⟨k0, fun _ => ⟨hlt, fun _ => ⟨fun hd => ⟨?_, trivial⟩, fun he => ?_⟩⟩⟩, fun hge => ⟨?_, trivial⟩⟩
  · simp only [smZ, decide_eq_true_eq, false_iff]
    exact fun h => hd (h.2 k k0 hlt)
  · have he : a k 0 = b k 0 := by omega
    have hk2 : ∀ i, 0 ≤ i → i < k + 1 → a i 0 = b i 0 := fun i i0 i1 => by
      by_cases h : i < k
      · exact hk i i0 h
      · rw [show i = k by omega]; exact he
    refine ⟨by omega, fun _ => ⟨⟨by omega, by omega, hk2⟩, by dsimp only; omega⟩⟩
  · simp only [smZ, decide_eq_true_eq, true_iff]
    exact ⟨trivial, fun i i0 i1 => hk i i0 (by omega)⟩
theorem vc20 : VC20 := by
  unfold VC20
  intro a n b m _ hn hm _ _
  refine ⟨fun h => by simp [smP, h], fun h => ?_⟩
  have h : n = m := by omega
  subst h
  refine ⟨fun k => 0 ≤ k ∧ k ≤ n ∧ ∀ i, 0 ≤ i → i < k → a i 0 = b i 0 ∧ (a i 1 = 0 ↔ b i 1 = 0) ∧ a i 2 = b i 2 ∧ a i 3 = b i 3 ∧ a i 4 = b i 4 ∧ a i 5 = b i 5, fun k => (n - k).toNat, ⟨by omega, hn, fun i h0 h1 => by omega⟩, fun k hI => ?_⟩
  obtain ⟨k0, k1, hk⟩ := hI
  refine ⟨fun hlt => ⟨k0, fun _ => ⟨hlt, fun _ => ⟨fun hd => ⟨?_, trivial⟩, fun he => ?_⟩⟩⟩, fun hge => ⟨?_, trivial⟩⟩
  · simp only [smP, decide_eq_true_eq, false_iff]
    intro h
    have := h.2 k k0 hlt
    clear hk h
    grind
  · have he : a k 0 = b k 0 ∧ (a k 1 = 0 ↔ b k 1 = 0) ∧ a k 2 = b k 2 ∧ a k 3 = b k 3 ∧ a k 4 = b k 4 ∧ a k 5 = b k 5 := by
      clear hk
      grind
    have hk2 : ∀ i, 0 ≤ i → i < k + 1 → a i 0 = b i 0 ∧ (a i 1 = 0 ↔ b i 1 = 0) ∧ a i 2 = b i 2 ∧ a i 3 = b i 3 ∧ a i 4 = b i 4 ∧ a i 5 = b i 5 := fun i i0 i1 => by
      by_cases h : i < k
      · exact hk i i0 h
      · rw [show i = k by omega]; exact he
    refine ⟨by omega, fun _ => ⟨⟨by omega, by omega, hk2⟩, by dsimp only; omega⟩⟩
  · simp only [smP, decide_eq_true_eq, true_iff]
    exact ⟨trivial, fun i i0 i1 => hk i i0 (by omega)⟩
end Go.Proofs.YtiiabaklipmbbaaDoor
