/- What is left to show of the small functions. -/
import Derived.Test.YtiiabaklipmbbaaC
namespace Go.Proofs.Ytiiabaklipmbbaa
open Go Go.RowKit Go.Proofs.Ytiiabaklipmbbaa.Vc
theorem vc17 : VC17 := by unfold VC17; (repeat' (first | exact True.intro | apply And.intro | intro _)) <;> (try (subst_vars; grind []))
theorem vc26 : VC26 := by unfold VC26; (repeat' (first | exact True.intro | apply And.intro | intro _)) <;> (try (subst_vars; grind []))
theorem vc11 : VC11 := by unfold VC11; grind
theorem vc12 : VC12 := by
  unfold VC12
  intro a n hP hn
  refine ⟨fun e k => 0 ≤ k ∧ k ≤ n ∧ e = lnA a k, fun _ k => (n - k).toNat, ⟨by omega, hn, rfl⟩, fun e k hI => ?_⟩
  obtain ⟨k0, k1, rfl⟩ := hI
  have h1 := hP k k0
  have h2 := lnA_succ a k k0
  have h3 : k = n → lnA a k = lnA a n := fun h => by rw [h]
  clear hP
  (repeat' (first | exact True.intro | apply And.intro | intro _)) <;> (try (subst_vars; grind []))
theorem vc13 : VC13 := by
  unfold VC13
  intro a n c _ hn
  refine ⟨fun e k => 0 ≤ k ∧ k ≤ n ∧ 0 ≤ e ∧ e ≤ k ∧ e = ctA a k c, fun _ k => (n - k).toNat, ⟨by omega, hn, by omega, by omega, rfl⟩, fun e k hI => ?_⟩
  obtain ⟨k0, k1, e0, e1, rfl⟩ := hI
  have h2 := ctA_succ a c k k0
  have h3 : k = n → ctA a k c = ctA a n c := fun h => by rw [h]
  (repeat' (first | exact True.intro | apply And.intro | intro _)) <;> (try (subst_vars; grind []))
theorem vc10 : VC10 := by
  unfold VC10
  intro a n b m _ hn hm _ _
  refine ⟨fun h => by simp [smZ, h], fun h => ?_⟩
  have h : n = m := by omega
  subst h
  refine ⟨fun k => 0 ≤ k ∧ k ≤ n ∧ ∀ i, 0 ≤ i → i < k → a i 0 = b i 0, fun k => (n - k).toNat, ⟨by omega, hn, fun i h0 h1 => by omega⟩, fun k hI => ?_⟩
  obtain ⟨k0, k1, hk⟩ := hI
  refine ⟨fun hlt => ⟨k0, fun _ => ⟨hlt, fun _ => ⟨fun hd => ⟨?_, trivial⟩, fun he => ?_⟩⟩⟩, fun hge => ⟨?_, trivial⟩⟩
  · simp only [smZ, decide_eq_true_eq, false_iff]
    exact fun h => hd (h.2 k k0 hlt)
  · have he : a k 0 = b k 0 := by omega
    have hk2 : ∀ i, 0 ≤ i → i < k + 1 → a i 0 = b i 0 := fun i i0 i1 => by
      by_cases h : i < k
      · exact hk i i0 h
      · rw [show i = k by omega]; exact he
    refine ⟨by omega, fun _ => ⟨⟨by omega, by omega, hk2⟩, by dsimp only; omega⟩⟩
  · simp only [smZ, decide_eq_true_eq, true_iff]
    exact ⟨trivial, fun i i0 i1 => hk i i0 (by omega)⟩
theorem vc9 : VC9 := by
  unfold VC9
  intro a n b m _ hn hm _ _
  refine ⟨fun h => by simp [smP, h], fun h => ?_⟩
  have h : n = m := by omega
  subst h
  refine ⟨fun k => 0 ≤ k ∧ k ≤ n ∧ ∀ i, 0 ≤ i → i < k → a i 0 = b i 0 ∧ (a i 1 = 0 ↔ b i 1 = 0) ∧ a i 2 = b i 2 ∧ a i 3 = b i 3 ∧ a i 4 = b i 4 ∧ a i 5 = b i 5, fun k => (n - k).toNat, ⟨by omega, hn, fun i h0 h1 => by omega⟩, fun k hI => ?_⟩
  obtain ⟨k0, k1, hk⟩ := hI
  refine ⟨fun hlt => ⟨k0, fun _ => ⟨hlt, fun _ => ⟨fun hd => ⟨?_, trivial⟩, fun he => ?_⟩⟩⟩, fun hge => ⟨?_, trivial⟩⟩
  · simp only [smP, decide_eq_true_eq, false_iff]
    intro h
    have := h.2 k k0 hlt
    clear hk h
    grind
  · have he : a k 0 = b k 0 ∧ (a k 1 = 0 ↔ b k 1 = 0) ∧ a k 2 = b k 2 ∧ a k 3 = b k 3 ∧ a k 4 = b k 4 ∧ a k 5 = b k 5 := by
      clear hk
      grind
    have hk2 : ∀ i, 0 ≤ i → i < k + 1 → a i 0 = b i 0 ∧ (a i 1 = 0 ↔ b i 1 = 0) ∧ a i 2 = b i 2 ∧ a i 3 = b i 3 ∧ a i 4 = b i 4 ∧ a i 5 = b i 5 := fun i i0 i1 => by
      by_cases h : i < k
      · exact hk i i0 h
      · rw [show i = k by omega]; exact he
    refine ⟨by omega, fun _ => ⟨⟨by omega, by omega, hk2⟩, by dsimp only; omega⟩⟩
  · simp only [smP, decide_eq_true_eq, true_iff]
    exact ⟨trivial, fun i i0 i1 => hk i i0 (by omega)⟩
theorem vc19 : VC19 := by
  unfold VC19
  intro p q lim d m rts cts ack bar back _ hm
  refine ⟨fun _ => trivial, fun b1 h1 _ => ⟨fun _ => trivial, fun b2 h2 => ⟨fun hb => ⟨?_, trivial⟩, fun hg => ?_⟩⟩⟩
  · simp only [exV, decide_eq_true_eq, false_iff]
    rintro ⟨⟨a1, a2⟩, a3, a4, _⟩
    subst h1 h2
    simp only [decide_eq_true_eq] at hb
    omega
  · subst h1 h2
    simp only [decide_eq_true_eq] at hg
    refine ⟨by omega, fun _ => ⟨by omega, fun _ => ?_⟩⟩
    let z : Int → Int := fun i => if i = 0 then rts else if i = 1 then cts else if i = 2 then ack else if i = 3 then bar else if i = 4 then back else d (i - 5) 0
    have hz : ∀ i, appA (setA (setA (setA (setA (setA zA 0 0 rts) 1 0 cts) 2 0 ack) 3 0 bar) 4 0 back) 5 d i 0 = if i < 5 ∧ (i < 0) then 0 else z i := fun i => by
      simp only [appA, setA, zA, z]
      grind
    refine ⟨fun k => 0 ≤ k ∧ k ≤ 5 + m ∧ ∀ i, 0 ≤ i → i < k → 1 ≤ z i ∧ z i ≤ 32767, fun k => (5 + m - k).toNat, ⟨by omega, by omega, fun i h0 h1 => by omega⟩, fun k hI => ?_⟩
    obtain ⟨k0, k1, hk⟩ := hI
    have hzk := hz k
    rw [if_neg (by omega)] at hzk
    rw [hzk]
    refine fun _ => ⟨fun hlt => ⟨k0, fun _ => ⟨trivial, fun b hb => ⟨fun hn => ⟨?_, trivial⟩, fun hy => ?_⟩⟩⟩, fun hge => ⟨?_, trivial⟩⟩
    · subst hb
      simp only [decide_eq_true_eq] at hn
      simp only [exV, decide_eq_true_eq, false_iff]
      rintro ⟨_, _, _, a1, a2, a3, a4, a5, a6⟩
      apply hn
      simp only [z]
      have := a6 (k - 5)
      clear hk a6 hz hzk
      grind
    · subst hb
      simp only [decide_eq_true_eq] at hy
      have hk2 : ∀ i, 0 ≤ i → i < k + 1 → 1 ≤ z i ∧ z i ≤ 32767 := fun i i0 i1 => by
        by_cases h : i < k
        · exact hk i i0 h
        · rw [show i = k by omega]; omega
      refine ⟨by omega, fun _ => ⟨⟨by omega, by omega, hk2⟩, by dsimp only; omega⟩⟩
    · simp only [exV, decide_eq_true_eq, true_iff]
      have z0 := hk 0 (by omega) (by omega)
      have z1 := hk 1 (by omega) (by omega)
      have z2 := hk 2 (by omega) (by omega)
      have z3 := hk 3 (by omega) (by omega)
      have z4 := hk 4 (by omega) (by omega)
      simp only [z] at z0 z1 z2 z3 z4
      refine ⟨by omega, by omega, by omega, by simpa using z0, by simpa using z1, by simpa using z2, by simpa using z3, by simpa using z4, fun i i0 i1 => ?_⟩
      have := hk (i + 5) (by omega) (by omega)
      simp only [z] at this
      rw [if_neg (by omega), if_neg (by omega), if_neg (by omega), if_neg (by omega), if_neg (by omega), show i + 5 - 5 = i by omega] at this
      exact this
end Go.Proofs.Ytiiabaklipmbbaa
