/- Carrier sense: what is left to show. -/
import Derived.Test.YtgdjdaoglkfjdaaP3
namespace Go.Proofs.Ytgdjdaoglkfjdaa
open Go Go.RowKit Go.Proofs.Ytgdjdaoglkfjdaa.Vc
theorem vc17 : VC17 := by
  intro b k t hp hk
  refine ⟨fun x c i => 0 ≤ i ∧ i ≤ k ∧ c = cntI (drP b t) i ∧ ∀ r, 0 ≤ r → r < c → ∀ g, g < 4 → x r g = flA (drP b t) b i.toNat r g, fun _ _ i => (k - i).toNat, ⟨by omega, by omega, rfl, fun r h0 h1 => by omega⟩, ?_⟩
  rintro x c i ⟨i0, i1, hcn, hx⟩ _ _ _
  have hb := cntI_bd (drP b t) i0
  refine ⟨fun h1 => ⟨i0, fun _ => ⟨fun h2 => ?_, fun h2 => ?_⟩⟩, fun h1 => ?_⟩
  · obtain ⟨e1, e2⟩ := fl_step (b := b) i0 hcn hx (by unfold drP; exact decide_eq_true h2)
    exact ⟨by omega, fun _ => ⟨by omega, fun _ => ⟨by omega, fun _ => ⟨⟨by omega, by omega, e1, e2⟩, by dsimp only; omega⟩⟩⟩⟩
  · obtain ⟨e1, e2⟩ := fl_skip (p := drP b t) (b := b) i0 (by unfold drP; simp; omega)
    exact ⟨by omega, fun _ => ⟨⟨by omega, by omega, by rw [e1]; exact hcn, by rw [e2]; exact hx⟩, by dsimp only; omega⟩⟩
  · obtain rfl : i = k := by omega
    exact ⟨hcn, fun r g r0 r1 hg => hx r r0 (by rw [hcn]; exact r1) g hg, trivial⟩
theorem vc15 : VC15 := by
  intro b n c m
  have e : smL b n c m = (decide (n = m) && allI (sm5 b c) n) := rfl
  (repeat' (first | exact True.intro | apply And.intro | intro _)) <;> (try (subst_vars; grind []))
  refine ⟨fun i => 0 ≤ i ∧ i ≤ n ∧ allI (sm5 b c) i = true, fun i => (n - i).toNat, by grind [allI_zero], ?_⟩
  intro i hi
  have d1 := @allI_at (sm5 b c) n i
  have d2 := @allI_succ (sm5 b c) i
  have d3 : sm5 b c i = decide (b i 0 = c i 0 ∧ b i 1 = c i 1 ∧ b i 2 = c i 2 ∧ b i 3 = c i 3) := rfl
  (repeat' (first | exact True.intro | apply And.intro | intro _)) <;> (try (subst_vars; grind []))
theorem vc10 : VC10 := by
  intro a n l f m b k _ _ _ _
  refine ⟨trivial, ?_⟩
  rintro g rfl _ _ _
  exact ⟨by unfold gr1; simp, trivial⟩
theorem vc40 : VC40 := by
  intro a n l f m b k j x y hp _ _ hk
  obtain ⟨hc, j0, j1⟩ := hp
  obtain ⟨hw, h64, hrow⟩ := mc_ok hc
  refine ⟨fun i => 0 ≤ i ∧ i ≤ k ∧ ∀ r, 0 ≤ r → r < i → ¬ (snP a f m b j r = true ∧ b r 1 < y ∧ x < b r 2), fun i => (k - i).toNat, ⟨by omega, by omega, fun r h0 h1 => by omega⟩, ?_⟩
  rintro i ⟨i0, i1, hi⟩ _ _ _
  refine ⟨fun h1 => ?_, fun h1 => ⟨?_, trivial⟩⟩
  · have hr := hrow i i0 h1
    refine ⟨i0, fun _ => ⟨fun _ => ⟨hw, j0, j1, hr.1, hr.2.1⟩, ?_⟩⟩
    rintro o ho
    have hsp : snP a f m b j i = true ↔ (b i 0 = j ∨ o = true) := by unfold snP; rw [ho]; simp [Or.comm]
    refine ⟨fun h2 => ⟨?_, trivial⟩, fun h2 => ⟨by omega, fun _ => ⟨⟨by omega, by omega, fun r r0 r1 => ?_⟩, by dsimp only; omega⟩⟩⟩
    · have : bzB a f m b k j x y = true := bz_iff.2 ⟨i, i0, h1, hsp.2 h2.1.1, h2.1.2, h2.2⟩
      simp [this]
    · by_cases hri : r = i
      · subst hri
        rintro ⟨h3, h4, h5⟩
        exact h2 ⟨⟨hsp.1 h3, h4⟩, h5⟩
      · exact hi r r0 (by omega)
  · have : ¬ bzB a f m b k j x y = true := fun h => by
      obtain ⟨r, r0, r1, h2, h3, h4⟩ := bz_iff.1 h
      exact hi r r0 (by omega) ⟨h2, h3, h4⟩
    simp [this]
theorem vc12 : VC12 := by
  intro a n l f m b k j t _ _ _ _
  refine ⟨trivial, ?_⟩
  rintro e rfl _ _ _
  have e0 : buV a n l f m b k j t = (decide (maE a n l f m b k j t 0 = 0) && bzB a f m b k j t (t + 1)) := rfl
  refine ⟨fun h1 => ⟨by rw [e0, decide_eq_false h1]; simp, rfl, trivial⟩, fun h1 => ?_⟩
  have h2 : maE a n l f m b k j t 0 = 0 := by omega
  obtain ⟨q1, q2, q3, q4, q5, _, _⟩ := ma_ok h2
  refine ⟨by omega, fun _ => ⟨⟨q1, q2, q3⟩, ?_⟩⟩
  rintro v rfl
  exact ⟨by rw [e0, decide_eq_true h2]; simp, h2.symm, trivial⟩
theorem vc11 : VC11 := by
  intro a n l f m b k j t _ _ _ _
  refine ⟨by omega, ?_⟩
  rw [ma1]
  rintro e rfl _ _ _
  have e0 : buV a n l f m b k j t = (decide (maE a n l f m b k j t 0 = 0) && bzB a f m b k j t (t + 1)) := rfl
  refine ⟨fun h1 => ⟨by rw [e0, decide_eq_false h1]; simp, rfl, trivial⟩, fun h1 => ?_⟩
  have h2 : maE a n l f m b k j t 0 = 0 := by omega
  obtain ⟨q1, q2, q3, q4, q5, _, _⟩ := ma_ok h2
  refine ⟨⟨q1, q2, q3⟩, ?_⟩
  rintro A N rfl rfl _ _
  refine ⟨fun r => 0 ≤ r ∧ r ≤ snN a f m b k j ∧ ∀ q, 0 ≤ q → q < r → ¬ (snA a f m b k j q 1 ≤ t ∧ t < snA a f m b k j q 2), fun r => (snN a f m b k j - r).toNat, ⟨by omega, by omega, fun q h0 h1' => by omega⟩, ?_⟩
  rintro r ⟨r0, r1, hr⟩
  refine ⟨fun h3 => ⟨r0, fun _ => ⟨fun h4 => ⟨?_, h2.symm, trivial⟩, fun h4 => ⟨by omega, fun _ => ⟨⟨by omega, by omega, fun q q0 q1' => ?_⟩, by dsimp only; omega⟩⟩⟩⟩, fun h3 => ⟨?_, h2.symm, trivial⟩⟩
  · have : bzB a f m b k j t (t + 1) = true := bz_sn.2 ⟨r, r0, h3, by omega, h4.2⟩
    rw [e0, decide_eq_true h2, this]; simp; exact r0
  · by_cases hq : q = r
    · subst hq; exact h4
    · exact hr q q0 (by omega)
  · have : bzB a f m b k j t (t + 1) = false := bz_no fun ⟨q, q0, q1', h4, h5⟩ => hr q q0 (by omega) ⟨by omega, h5⟩
    rw [e0, this]; simp
/-- the first idle time -/
theorem id_least {p : Int → Bool} : ∀ (n : Nat) (x : Int), (∃ u, x ≤ u ∧ u ≤ x + n ∧ p u = false) → ∃ t, x ≤ t ∧ p t = false ∧ ∀ u, x ≤ u → u < t → p u = true
  | 0, x, ⟨u, h0, h1, h2⟩ => by
    obtain rfl : u = x := by omega
    exact ⟨u, h0, h2, fun v h3 h4 => by omega⟩
  | n + 1, x, ⟨u, h0, h1, h2⟩ => by
    cases hx : p x with
    | false => exact ⟨x, Int.le_refl _, hx, fun v h3 h4 => by omega⟩
    | true =>
      have hne : u ≠ x := fun h => by rw [h, hx] at h2; cases h2
      obtain ⟨t, h3, h4, h5⟩ := id_least n (x + 1) ⟨u, by omega, by omega, h2⟩
      refine ⟨t, by omega, h4, fun v h6 h7 => ?_⟩
      by_cases hv : v = x
      · rw [hv, hx]
      · exact h5 v (by omega) h7
theorem id_ex {a : Int → Nat → Int} {n : Int} {l : Int → Int} {f : Int → Int → Nat → Int} {m : Int} {b : Int → Nat → Int} {k j x s : Int} (hc : mcE a n l f m b k = 0) (x0 : 0 ≤ x) (s0 : 0 ≤ s) : ∃ t, idT a f m b k j x s t := by
  obtain ⟨t, h1, h2, h3⟩ := id_least (p := fun u => bzB a f m b k j (u - s) u) (1099511627776 + s).toNat x ⟨x + (1099511627776 + s), by omega, by omega, by
    show bzB a f m b k j (x + (1099511627776 + s) - s) (x + (1099511627776 + s)) = false
    refine bz_no fun ⟨r, r0, r1, h4, h5⟩ => ?_
    have := sn_bd hc r0 r1
    omega⟩
  exact ⟨t, h1, h2, h3⟩
theorem vc13 : VC13 := by
  intro a n l f m b k j x s _ _ _ _
  refine ⟨by omega, ?_⟩
  rw [ma2]
  rintro e rfl _ _ _
  have e0 : idV a n l f m b k j x s = if maE a n l f m b k j x s = 0 then idF a f m b k j x s else 0 := rfl
  refine ⟨fun h1 => ⟨by rw [e0, if_neg h1], rfl, trivial⟩, fun h1 => ?_⟩
  have h2 : maE a n l f m b k j x s = 0 := by omega
  rw [if_pos h2] at e0
  obtain ⟨q1, q2, q3, q4, q5, q6, q7⟩ := ma_ok h2
  refine ⟨fun h3 => ⟨by rw [e0]; unfold idF; rw [if_pos h3], h2.symm, trivial⟩, fun h3 => ?_⟩
  refine ⟨fun t g => x ≤ t ∧ t ≤ 2199023255552 ∧ (∀ u, x ≤ u → u < t → bzB a f m b k j (u - s) u = true) ∧ (g = false → bzB a f m b k j (t - s) t = false), fun t g => (2199023255553 - t).toNat * 2 + (if g = true then 1 else 0), ⟨by omega, by omega, fun u h4 h5 => by omega, fun h => by cases h⟩, ?_⟩
  rintro t g ⟨t0, t1, hb, hg⟩
  refine ⟨fun hgt => ⟨⟨q1, q2, q3⟩, ?_⟩, fun hgt => ⟨?_, h2.symm, trivial⟩⟩
  · rintro A N rfl rfl _ _
    refine ⟨fun t' g' r => 0 ≤ r ∧ r ≤ snN a f m b k j ∧ x ≤ t' ∧ t' ≤ 2199023255552 ∧ (∀ u, x ≤ u → u < t' → bzB a f m b k j (u - s) u = true) ∧ (g' = true → t < t') ∧ (g' = false → t' = t ∧ ∀ q, 0 ≤ q → q < r → ¬ (snA a f m b k j q 1 < t ∧ t - s < snA a f m b k j q 2)), fun _ _ r => (snN a f m b k j - r).toNat, ⟨by omega, by omega, t0, t1, hb, (fun h => by cases h), fun _ => ⟨rfl, fun q h4 h5 => by omega⟩⟩, ?_⟩
    rintro t' g' r ⟨r0, r1, u0, u1, hb', hgt', hgf'⟩
    refine ⟨fun h4 => ?_, fun h4 => ?_⟩
    · have hs := sn_bd q1 r0 h4
      refine ⟨r0, fun _ => ⟨.inr (by omega), fun _ => ⟨fun h5 => ⟨by omega, fun _ => ⟨by omega, fun _ => ⟨⟨by omega, by omega, by omega, by omega, fun u h6 h7 => ?_, fun _ => ?_, fun h => by cases h⟩, by dsimp only; omega⟩⟩⟩, fun h5 => ⟨by omega, fun _ => ⟨⟨by omega, by omega, u0, u1, hb', hgt', fun h6 => ⟨(hgf' h6).1, fun q h7 h8 => ?_⟩⟩, by dsimp only; omega⟩⟩⟩⟩⟩
      · by_cases hu : u < t'
        · exact hb' u h6 hu
        · exact bz_sn.2 ⟨r, r0, h4, by omega, by omega⟩
      · cases hg' : g' with
        | true => have := hgt' hg'; omega
        | false => have := (hgf' hg').1; omega
      · by_cases hq : q = r
        · subst hq
          rw [← (hgf' h6).1]
          exact h5
        · exact (hgf' h6).2 q h7 (by omega)
    · refine ⟨⟨u0, u1, hb', fun h5 => ?_⟩, ?_⟩
      · refine bz_no fun ⟨q, h6, h7, h8, h9⟩ => ?_
        have h10 := hgf' h5
        rw [h10.1] at h8 h9
        exact h10.2 q h6 (by omega) ⟨h8, h9⟩
      · dsimp only
        rw [if_pos hgt]
        cases hg' : g' with
        | true => have := hgt' hg'; simp; omega
        | false => have := (hgf' hg').1; simp; omega
  · have hgf : g = false := by cases g with | true => exact absurd rfl hgt | false => rfl
    rw [e0]
    exact (idF_eq h3 ⟨t0, hg hgf, hb⟩).symm
theorem vc14 : VC14 := by
  intro a n l f m b k j x s _ _ _ hk
  refine ⟨trivial, ?_⟩
  rintro e rfl _ _ _
  have e0 : idV a n l f m b k j x s = if maE a n l f m b k j x s = 0 then idF a f m b k j x s else 0 := rfl
  refine ⟨fun h1 => ⟨by rw [e0, if_neg h1], rfl, trivial⟩, fun h1 => ?_⟩
  have h2 : maE a n l f m b k j x s = 0 := by omega
  rw [if_pos h2] at e0
  obtain ⟨q1, q2, q3, q4, q5, q6, q7⟩ := ma_ok h2
  obtain ⟨hw, h64, hrow⟩ := mc_ok q1
  refine ⟨fun h3 => ⟨by rw [e0]; unfold idF; rw [if_pos h3], h2.symm, trivial⟩, fun h3 => ?_⟩
  obtain ⟨T, hT⟩ := id_ex (j := j) q1 q4 q6
  refine ⟨fun z i => -1 ≤ i ∧ i ≤ k ∧ (z = -1 ∨ (x ≤ z ∧ bzB a f m b k j (z - s) z = false)) ∧ (0 ≤ i → bzB a f m b k j (x - s) x = false → 0 ≤ z ∧ z ≤ x) ∧ ∀ q, 0 ≤ q → q < i → x ≤ b q 2 + s → bzB a f m b k j (b q 2 + s - s) (b q 2 + s) = false → 0 ≤ z ∧ z ≤ b q 2 + s, fun _ i => (k - i).toNat, ⟨by omega, by omega, .inl rfl, fun h => by omega, fun q h4 h5 => by omega⟩, ?_⟩
  rintro z i ⟨i0, i1, hz, hx, hq⟩
  refine ⟨fun h4 => ⟨fun h5 => ?_, fun h5 => ?_⟩, fun h4 => ⟨?_, h2.symm, trivial⟩⟩
  · have hr := hrow i h5 h4
    refine ⟨by omega, fun _ => ⟨.inr (by omega), fun _ => ⟨fun _ => ⟨q1, q2, q3⟩, ?_⟩⟩⟩
    rintro v hv
    refine ⟨fun h6 => ⟨by omega, fun _ => ⟨⟨by omega, by omega, ?_, ?_, ?_⟩, by dsimp only; omega⟩⟩, fun h6 => ⟨by omega, fun _ => ⟨⟨by omega, by omega, hz, fun _ h7 => hx h5 h7, ?_⟩, by dsimp only; omega⟩⟩⟩
    · right
      refine ⟨h6.1.1, ?_⟩
      have := h6.1.2
      rw [hv] at this
      simpa using this
    · intro _ h7
      have := hx h5 h7
      omega
    · intro q h7 h8 h9 h10
      by_cases hqi : q = i
      · subst hqi; omega
      · have := hq q h7 (by omega) h9 h10
        omega
    · intro q h7 h8 h9 h10
      by_cases hqi : q = i
      · subst hqi
        have hvf : ¬ v = true := by rw [hv, h10]; simp
        have : ¬ (z < 0 ∨ b q 2 + s < z) := fun h11 => h6 ⟨⟨h9, hvf⟩, h11⟩
        omega
      · exact hq q h7 (by omega) h9 h10
  · obtain rfl : i = -1 := by omega
    refine ⟨.inr (by omega), fun _ => ⟨fun _ => ⟨q1, q2, q3⟩, ?_⟩⟩
    rintro v hv
    refine ⟨fun h6 => ⟨by omega, fun _ => ⟨⟨by omega, by omega, ?_, ?_, ?_⟩, by dsimp only; omega⟩⟩, fun h6 => ⟨by omega, fun _ => ⟨⟨by omega, by omega, hz, ?_, ?_⟩, by dsimp only; omega⟩⟩⟩
    · right
      refine ⟨Int.le_refl _, ?_⟩
      have := h6.1.2
      rw [hv] at this
      simpa using this
    · intro _ h7; omega
    · intro q h7 h8; omega
    · intro _ h7
      have hvf : ¬ v = true := by rw [hv, h7]; simp
      have : ¬ (z < 0 ∨ x < z) := fun h11 => h6 ⟨⟨Int.le_refl _, hvf⟩, h11⟩
      omega
    · intro q h7 h8; omega
  · obtain rfl : i = k := by omega
    rw [e0, idF_eq h3 hT]
    have hTz : 0 ≤ z ∧ z ≤ T := by
      by_cases hTx : T = x
      · have h5 := hT.no
        rw [hTx] at h5
        have := hx (by omega) h5
        omega
      · have h5 := hT.ge
        have h6 := hT.lt (T - 1) (by omega) (by omega)
        obtain ⟨r, r0, r1, r2, r3, r4⟩ := bz_iff.1 h6
        have h7 : ¬ (T - s < b r 2) := fun h8 => by
          have := bz_iff.2 ⟨r, r0, r1, r2, (by omega : b r 1 < T), h8⟩
          rw [hT.no] at this; cases this
        have h8 : T = b r 2 + s := by omega
        have h9 := hT.no
        rw [h8] at h9
        have := hq r r0 r1 (by omega) h9
        omega
    rcases hz with h5 | ⟨h5, h6⟩
    · omega
    · by_cases h7 : z < T
      · have := hT.lt z h5 h7
        rw [h6] at this; cases this
      · omega
end Go.Proofs.Ytgdjdaoglkfjdaa
