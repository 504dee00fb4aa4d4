/- A round of clocks: what is left to show. -/
import Derived.Test.YtpbpmabnmakdoaaP
import Derived.Test.YtpbpmabnmakdoaaC2
namespace Go.Proofs.Ytpbpmabnmakdoaa
open Go Go.RowKit Go.Proofs.Ytpbpmabnmakdoaa.Vc
theorem as_ok {o p n : Int} (h : asE o p n = 0) : ckZ o p = 0 ∧ okC o p ∧ 0 ≤ n ∧ n ≤ 1099511627776 := by
  unfold asE at h
  split at h
  · rename_i hc
    split at h
    · cases h
    · exact ⟨hc, ck_ok.1 hc, by omega, by omega⟩
  · rename_i hc; exact absurd h hc
theorem as_of {o p n : Int} (h : ckZ o p = 0) (h0 : 0 ≤ n) (h1 : n ≤ 1099511627776) : asE o p n = 0 := by
  unfold asE; rw [if_pos h, if_neg (by omega)]
theorem vc31 : VC31 := by
  intro o p n _
  refine ⟨trivial, ?_⟩
  rintro e rfl
  have h := ck_01 o p
  unfold asE
  refine ⟨fun h1 => ⟨by rw [if_neg h1], trivial⟩, fun h1 => ⟨fun h2 => ⟨?_, trivial⟩, fun h2 => ⟨?_, trivial⟩⟩⟩
  · rw [if_pos (by omega), if_pos h2]
  · rw [if_pos (by omega), if_neg h2]
theorem vc13 : VC13 := by
  intro o p n _
  refine ⟨trivial, ?_⟩
  rintro e rfl
  refine ⟨fun h1 => ⟨by unfold lcV; rw [if_neg h1], rfl, trivial⟩, fun h1 => ?_⟩
  have h : asE o p n = 0 := by omega
  obtain ⟨_, h2, h3, h4⟩ := as_ok h
  refine ⟨⟨h2, h3, by omega⟩, ?_⟩
  rintro v rfl
  exact ⟨by unfold lcV; rw [if_pos h], h.symm, trivial⟩
theorem vc21 : VC21 := fun _ => ⟨by simp, trivial⟩
/-- by how much a clock drifts -/
theorem drift_bd {n d p : Int} (h0 : 0 ≤ d) (h1 : -100 ≤ p) (h2 : p ≤ 100) : -100 * (d / 1000000 + 1) ≤ Int.fdiv ((n + d) * p) 1000000 - Int.fdiv (n * p) 1000000 ∧ Int.fdiv ((n + d) * p) 1000000 - Int.fdiv (n * p) 1000000 ≤ 100 * (d / 1000000 + 1) := by
  have h3 := mul_bd (p := p) h0 h1 h2
  have h4 := fdiv_bd ((n + d) * p)
  have h5 := fdiv_bd (n * p)
  have h6 : (n + d) * p = n * p + d * p := Int.add_mul ..
  omega
theorem rd_out {l : Int → Nat → Int} {n : Int} {m : Int → Int} {f : Int → Int → Nat → Int} {k now : Int} (h : rdE l n m f k now = 0) : ∀ i, 0 ≤ i → i < n → ckZ (offs l m f now i) (l i 1) = 0 := by
  intro i i0 i1
  apply Classical.byContradiction
  intro hc
  unfold rdE at h
  split at h
  · cases h
  · split at h
    · cases h
    · rw [if_pos ⟨i, i0, i1, hc⟩] at h; cases h
theorem vc8 : VC8 := by
  intro l n who now thn _ hn
  refine ⟨trivial, ?_⟩
  rintro al rfl hN
  refine ⟨fun _ => ⟨by simp, trivial⟩, fun hs => ?_⟩
  have hs' : n ≤ 32 ∧ 0 ≤ who ∧ who < n ∧ now ≤ thn ∧ thn ≤ 1099511627776 := by
    refine ⟨?_, ?_, ?_, ?_, ?_⟩ <;> (apply Classical.byContradiction; intro h; apply hs; omega)
  obtain ⟨s1, s2, s3, s4, s5⟩ := hs'
  refine ⟨s2, fun _ => ⟨s3, fun _ => ⟨trivial, ?_⟩⟩⟩
  rintro b e hb rfl
  refine ⟨fun _ => ⟨by simp, trivial⟩, fun he => ?_⟩
  have he' : asE (l who 0) (l who 1) now = 0 := by omega
  obtain ⟨w1, w2, w3, w4⟩ := as_ok he'
  have hb' : b = tmZ (l who 0) (l who 1) now := by rw [hb]; unfold lcV; rw [if_pos he']
  refine ⟨fun m f k i => 0 ≤ i ∧ i ≤ n ∧ k = i ∧ ∀ j, 0 ≤ j → j < i → m j = 1 ∧ f j 0 0 = who ∧ asE (l j 0) (l j 1) now = 0 ∧ tmZ (l j 0) (l j 1) now ≤ b, fun _ _ _ i => (n - i).toNat, ⟨by omega, by omega, rfl, fun j h0 h1 => by omega⟩, ?_⟩
  rintro m f k i ⟨i0, i1, rfl, hj⟩ _ _
  refine ⟨fun h1 => ⟨i0, fun _ => ⟨trivial, ?_⟩⟩, fun h1 => ⟨trivial, ?_⟩⟩
  · rintro x e hx hx2
    refine ⟨fun _ => ⟨by simp, trivial⟩, fun hh => ?_⟩
    have h2 : asE (l k 0) (l k 1) now = 0 := by omega
    have h3 : x = tmZ (l k 0) (l k 1) now := by rw [hx]; unfold lcV; rw [if_pos h2]
    refine ⟨by omega, fun _ => ⟨by omega, fun _ => ⟨by omega, fun _ => ⟨⟨by omega, by omega, rfl, fun j j0 j1 => ?_⟩, by dsimp only; omega⟩⟩⟩⟩
    unfold srL srF
    by_cases hjk : j = k
    · rw [if_pos hjk, if_pos hjk]
      subst hjk
      exact ⟨rfl, by simp [setA], h2, by omega⟩
    · rw [if_neg hjk, if_neg hjk]
      exact hj j j0 (by omega)
  obtain rfl : k = n := by omega
  rintro A N e rfl rfl rfl _ _
  have hc : ∀ i, 0 ≤ i → i < k → ckZ (l i 0) (l i 1) = 0 := fun i i0 i1 => (as_ok (hj i i0 i1).2.2.1).1
  have hfine : ¬ (32 < k ∨ k ≠ k ∨ now < 0 ∨ 1099511627776 < now ∨ ∃ i j : Int, 0 ≤ i ∧ i < k ∧ 0 ≤ j ∧ j < m i ∧ (f i j 0 < 0 ∨ k ≤ f i j 0)) := by
    rintro (h | h | h | h | ⟨i, j, i0, i1, j0, j1, h⟩)
    · omega
    · exact h rfl
    · omega
    · omega
    · have := hj i i0 i1
      rw [this.1] at j1
      obtain rfl : j = 0 := by omega
      rw [this.2.1] at h
      omega
  refine ⟨fun h2 => ⟨?_, trivial⟩, fun h2 => ?_⟩
  · have : rdE l k m f k now = 8 := by
      by_cases h3 : ∃ i : Int, 0 ≤ i ∧ i < k ∧ ckZ (offs l m f now i) (l i 1) ≠ 0
      · obtain ⟨i, j0, j1, j2⟩ := h3
        exact (rd_bad2 hc hfine j0 j1 j2).1
      · exfalso
        apply h2
        exact (rd_fine hc hfine fun i j0 j1 => Classical.byContradiction fun h4 => h3 ⟨i, j0, j1, h4⟩).1
    rw [this]; simp
  have hE : rdE l k m f k now = 0 := by omega
  have hNk : rdN l k m f k now = k := by unfold rdN; rw [if_pos hE]
  rw [hNk]
  refine ⟨fun h => absurd rfl h, fun _ => ?_⟩
  have key : ∀ i, 0 ≤ i → i < k → ∀ t, tmZ (rdA l k m f k now i 0) (rdA l k m f k now i 1) t = b - now + t + (Int.fdiv (t * l i 1) 1000000 - Int.fdiv (now * l i 1) 1000000) ∧ ckZ (rdA l k m f k now i 0) (rdA l k m f k now i 1) = 0 := by
    intro i j0 j1 t
    have hji := hj i j0 j1
    have e1 : rdA l k m f k now i 0 = offs l m f now i := by unfold rdA; rw [if_pos rfl]
    have e2 : rdA l k m f k now i 1 = l i 1 := by unfold rdA; rw [if_neg (by omega)]
    rw [e1, e2]
    refine ⟨?_, rd_out hE i j0 j1⟩
    have hbest : bestOf l m f now i = b := by
      unfold bestOf
      rw [hji.1]
      show max (tmZ (l i 0) (l i 1) now) (tmZ (l (f i 0 0) 0) (l (f i 0 0) 1) now) = b
      rw [hji.2.1, ← hb']
      omega
    unfold offs
    rw [hbest]
    have := hji.2.2.2
    unfold adZ
    unfold tmZ at this ⊢
    omega
  refine ⟨fun lo hi i => 0 ≤ i ∧ i ≤ k ∧ (i = 0 → lo = 0 ∧ hi = 0) ∧ (0 < i → b - now + thn - 100 * ((thn - now) / 1000000 + 1) ≤ lo ∧ lo ≤ hi ∧ hi ≤ b - now + thn + 100 * ((thn - now) / 1000000 + 1)), fun _ _ i => (k - i).toNat, ⟨by omega, by omega, fun _ => ⟨rfl, rfl⟩, fun h => by omega⟩, ?_⟩
  rintro lo hi i ⟨j0, j1, z1, z2⟩
  refine ⟨fun h3 => ⟨j0, fun _ => ⟨trivial, ?_⟩⟩, fun h3 => ?_⟩
  · rintro x e hx hx2
    refine ⟨trivial, ?_⟩
    rintro y g hy hy2
    obtain ⟨k1, k2⟩ := key i j0 h3 now
    obtain ⟨k3, _⟩ := key i j0 h3 thn
    have a1 : asE (rdA l k m f k now i 0) (rdA l k m f k now i 1) now = 0 := as_of k2 w3 w4
    have a2 : asE (rdA l k m f k now i 0) (rdA l k m f k now i 1) thn = 0 := as_of k2 (by omega) (by omega)
    have x1 : x = b := by rw [hx]; unfold lcV; rw [if_pos a1, k1]; omega
    have y1 : y = b - now + thn + (Int.fdiv (thn * l i 1) 1000000 - Int.fdiv (now * l i 1) 1000000) := by rw [hy]; unfold lcV; rw [if_pos a2, k3]
    have hp := (as_ok (hj i j0 h3).2.2.1).2.1
    unfold okC at hp
    have hd := drift_bd (n := now) (d := thn - now) (p := l i 1) (by omega) (by omega) (by omega)
    rw [show now + (thn - now) = thn by omega] at hd
    refine ⟨fun h4 => ?_, fun _ => ⟨fun h4 => ⟨by omega, fun _ => ⟨⟨by omega, by omega, fun _ => by omega, fun _ => by omega⟩, by dsimp only; omega⟩⟩, fun h4 => ⟨by omega, fun _ => ⟨⟨by omega, by omega, fun _ => by omega, fun _ => ?_⟩, by dsimp only; omega⟩⟩⟩⟩
    · exfalso
      rcases h4 with (h4 | h4) | h4
      · exact h4 (by rw [hx2, a1])
      · exact h4 x1
      · exact h4 (by rw [hy2, a2])
    · have := z2 (by omega)
      omega
  · have hik : i = k := by omega
    have z3 := z2 (by omega)
    have bb := tm_bd w2 w3 (by omega)
    rw [← hb'] at bb
    have ed : Int.tdiv (thn - now) 1000000 = (thn - now) / 1000000 := Int.tdiv_eq_ediv_of_nonneg (by omega)
    rw [ed]
    refine ⟨.inr (by omega), fun _ => ⟨.inr (by omega), fun _ => ⟨.inr (by omega), fun _ => ⟨.inr (by omega), fun _ => ⟨.inr (by omega), fun _ => ⟨.inr (by omega), fun _ => ⟨?_, trivial⟩⟩⟩⟩⟩⟩⟩
    simp only [true_and, iff_true]
    omega
end Go.Proofs.Ytpbpmabnmakdoaa
