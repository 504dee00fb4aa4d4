/- Receiving: what is left to show of the chapter's example. -/
import Derived.Test.YtgdjdaoglkfjdaaE5
import Derived.Test.YtgdjdaoglkfjdaaC5
namespace Go.Proofs.Ytgdjdaoglkfjdaa
open Go Go.RowKit Go.Proofs.Ytgdjdaoglkfjdaa.Vc
theorem isq_at {x s : Int} (h0 : 0 ≤ x) (h1 : x ≤ 800000000) (s0 : 0 ≤ s) (h2 : s * s ≤ x) (h3 : x < (s + 1) * (s + 1)) : isq x = s := by
  obtain ⟨a0, a1, a2, a3⟩ := isq_spec x h0 (by omega)
  rcases Int.lt_trichotomy (isq x) s with h | h | h
  · have := Int.mul_le_mul (show isq x + 1 ≤ s by omega) (show isq x + 1 ≤ s by omega) (by omega) s0
    omega
  · exact h
  · have := Int.mul_le_mul (show s + 1 ≤ isq x by omega) (show s + 1 ≤ isq x by omega) (by omega) a0
    omega
theorem loss_1000 : loss 1000 = 985 := by
  have h : halvings 1000000000000 = 39 := hvs (by decide) (hvs (by decide) (hvs (by decide) (hvs (by decide) (hvs (by decide) (hvs (by decide) (hvs (by decide) (hvs (by decide) (hvs (by decide) (hvs (by decide) (hvs (by decide) (hvs (by decide) (hvs (by decide) (hvs (by decide) (hvs (by decide) (hvs (by decide) (hvs (by decide) (hvs (by decide) (hvs (by decide) (hvs (by decide) (hvs (by decide) (hvs (by decide) (hvs (by decide) (hvs (by decide) (hvs (by decide) (hvs (by decide) (hvs (by decide) (hvs (by decide) (hvs (by decide) (hvs (by decide) (hvs (by decide) (hvs (by decide) (hvs (by decide) (hvs (by decide) (hvs (by decide) (hvs (by decide) (hvs (by decide) (hvs (by decide) (hvs (by decide) (hv0 (by decide))))))))))))))))))))))))))))))))))))))))
  show 400 + 15 * (halvings 1000000000000 : Int) = 985
  rw [h]; rfl
theorem loss_2000 : loss 2000 = 1045 := by
  have := loss_two (a := 1000) (by omega) (by omega)
  rw [loss_1000] at this
  exact this
theorem ds_of {x y s : Int} (h : okd x 0 y 0 = true) (s0 : 0 ≤ s) (hs : (x - y) * (x - y) + (0 - 0) * (0 - 0) = s * s) (s1 : s ≤ 20000) : dist x 0 y 0 = s := by
  have e : dist x 0 y 0 = isq ((x - y) * (x - y) + (0 - 0) * (0 - 0)) := if_pos h
  rw [e, hs]
  have h1 := Int.mul_le_mul s1 s1 s0 (by omega)
  have h2 : (s + 1) * (s + 1) = s * s + 2 * s + 1 := by grind
  exact isq_at (Int.mul_nonneg s0 s0) (by omega) s0 (Int.le_refl _) (by omega)
theorem ne_lv {i j s v : Int} (h : okd (neA i 0) (neA i 1) (neA j 0) (neA j 1) = true) (h1 : neA i 1 = 0) (h2 : neA j 1 = 0) (h3 : neA i 2 = 300) (s0 : 0 ≤ s) (hs : (neA i 0 - neA j 0) * (neA i 0 - neA j 0) + (0 - 0) * (0 - 0) = s * s) (s1 : s ≤ 20000) (hl : loss s = v) : lvA neA zF 0 i j = 300 - v := by
  have e : lvA neA zF 0 i j = neA i 2 - (loss (dsW neA i j) + (if (0 : Int) < 0 then zF i j 0 else 0)) := rfl
  have e2 : dsW neA i j = dist (neA i 0) (neA i 1) (neA j 0) (neA j 1) := rfl
  rw [h1, h2] at h
  rw [h1, h2, ds_of h s0 hs s1] at e2
  rw [e, e2, hl, h3, if_neg (by omega), Int.add_zero]
theorem lv01 : lvA neA zF 0 0 1 = -685 := ne_lv (by decide) rfl rfl rfl (s := 1000) (by omega) (by decide) (by omega) loss_1000
theorem lv02 : lvA neA zF 0 0 2 = -745 := ne_lv (by decide) rfl rfl rfl (s := 2000) (by omega) (by decide) (by omega) loss_2000
theorem lv10 : lvA neA zF 0 1 0 = -685 := ne_lv (by decide) rfl rfl rfl (s := 1000) (by omega) (by decide) (by omega) loss_1000
theorem lv12 : lvA neA zF 0 1 2 = -685 := ne_lv (by decide) rfl rfl rfl (s := 1000) (by omega) (by decide) (by omega) loss_1000
theorem lv20 : lvA neA zF 0 2 0 = -745 := ne_lv (by decide) rfl rfl rfl (s := 2000) (by omega) (by decide) (by omega) loss_2000
theorem lv21 : lvA neA zF 0 2 1 = -685 := ne_lv (by decide) rfl rfl rfl (s := 1000) (by omega) (by decide) (by omega) loss_1000
theorem ne_ck : ckW neA 3 zL zF 0 = 0 := by decide
theorem vc31 : VC31 := by
  intro _
  exact ⟨rfl, fun i f _ _ _ => rfl, rfl, fun i h0 h1 => by omega, trivial⟩
def bA : Int → Nat → Int := setA (setA (setA (setA (setA (setA (setA (setA zA 0 0 0) 0 1 0) 0 2 10) 0 3 (-820)) 1 0 2) 1 1 9) 1 2 20) 1 3 (-820)
def bB : Int → Nat → Int := setA (setA (setA (setA zA 0 0 0) 0 1 0) 0 2 10) 0 3 (-820)
def bC : Int → Nat → Int := setA (setA (setA (setA (setA (setA (setA (setA zA 0 0 0) 0 1 0) 0 2 10) 0 3 (-820)) 1 0 2) 1 1 10) 1 2 20) 1 3 (-820)
theorem mcA : mcE neA 3 zL zF 0 bA 2 = 0 := by decide
theorem mcB : mcE neA 3 zL zF 0 bB 1 = 0 := by decide
theorem mcC : mcE neA 3 zL zF 0 bC 2 = 0 := by decide
theorem hr_of {i j v : Int} (hne : i ≠ j) (hc : neA i 3 = neA j 3) (hl : lvA neA zF 0 i j = v) (hv : -820 ≤ v) : hrA neA zF 0 j i = true := hr_iff.2 ⟨hne, hc, by rw [hl]; exact hv⟩
theorem hr_no {i : Int} : hrA neA zF 0 i i = false := by unfold hrA; simp
theorem ca_hr {b : Int → Nat → Int} {k i j : Int} (h : hrA neA zF 0 j (b i 0) = false) : caB neA zF 0 b k i j = false := by unfold caB; rw [h]; rfl
theorem ca_own {b : Int → Nat → Int} {k i j : Int} (h : b i 0 = j) : caB neA zF 0 b k i j = false := ca_hr (by rw [h]; exact hr_no)
theorem ca_bad {b : Int → Nat → Int} {k i j r : Int} (r0 : 0 ≤ r) (r1 : r < k) (hri : r ≠ i) (ho : ovl (b r 1) (b r 2) (b i 1) (b i 2) = true) (hx : cnX neA zF 0 b i j r = true) : caB neA zF 0 b k i j = false := by
  cases h : caB neA zF 0 b k i j with
  | false => rfl
  | true =>
    rcases (ca_iff.1 h).2.2 r r0 r1 with h1 | h1 | h1
    · exact absurd h1 hri
    · rw [ho] at h1; cases h1
    · rw [hx] at h1; cases h1
theorem cx_tx {b : Int → Nat → Int} {i j r : Int} (h : b r 0 = j) : cnX neA zF 0 b i j r = true := by unfold cnX; rw [decide_eq_true h]; rfl
theorem cx_lv {b : Int → Nat → Int} {i j r x y u v : Int} (hx : b r 0 = x) (hy : b i 0 = y) (hc : neA x 3 = neA j 3) (hu : lvA neA zF 0 x j = u) (hv : lvA neA zF 0 y j = v) (h : v < u + 100) : cnX neA zF 0 b i j r = true := by
  unfold cnX
  rw [hx, hy, hu, hv, decide_eq_true hc, decide_eq_true h]; simp
theorem ca_yes {b : Int → Nat → Int} {k i j x v : Int} (hx : b i 0 = x) (hne : x ≠ j) (hc : neA x 3 = neA j 3) (hl : lvA neA zF 0 x j = v) (hv : -820 ≤ v) (hb : b i 3 = -820) (ho : ∀ r, 0 ≤ r → r < k → r = i ∨ ovl (b r 1) (b r 2) (b i 1) (b i 2) = false) : caB neA zF 0 b k i j = true :=
  ca_iff.2 ⟨by rw [hx]; exact hr_of hne hc hl hv, by rw [hb, hx, hl]; exact hv, fun r r0 r1 => (ho r r0 r1).imp id .inl⟩
theorem oB : ∀ r : Int, 0 ≤ r → r < 1 → r = 0 ∨ ovl (bB r 1) (bB r 2) (bB 0 1) (bB 0 2) = false := fun r r0 r1 => .inl (by omega)
theorem oC0 : ∀ r : Int, 0 ≤ r → r < 2 → r = 0 ∨ ovl (bC r 1) (bC r 2) (bC 0 1) (bC 0 2) = false := fun r r0 r1 => by
  have : r = 0 ∨ r = 1 := by omega
  rcases this with rfl | rfl
  · exact .inl rfl
  · exact .inr (by decide)
theorem oC1 : ∀ r : Int, 0 ≤ r → r < 2 → r = 1 ∨ ovl (bC r 1) (bC r 2) (bC 1 1) (bC 1 2) = false := fun r r0 r1 => by
  have : r = 0 ∨ r = 1 := by omega
  rcases this with rfl | rfl
  · exact .inr (by decide)
  · exact .inl rfl
theorem caA0 : caB neA zF 0 bA 2 0 0 = false ∧ caB neA zF 0 bA 2 0 1 = false ∧ caB neA zF 0 bA 2 0 2 = false :=
  ⟨ca_own rfl, ca_bad (r := 1) (by omega) (by omega) (by omega) (by decide) (cx_lv (x := 2) (y := 0) rfl rfl rfl lv21 lv01 (by omega)), ca_bad (r := 1) (by omega) (by omega) (by omega) (by decide) (cx_tx rfl)⟩
theorem caA1 : caB neA zF 0 bA 2 1 0 = false ∧ caB neA zF 0 bA 2 1 1 = false ∧ caB neA zF 0 bA 2 1 2 = false :=
  ⟨ca_bad (r := 0) (by omega) (by omega) (by omega) (by decide) (cx_tx rfl), ca_bad (r := 0) (by omega) (by omega) (by omega) (by decide) (cx_lv (x := 0) (y := 2) rfl rfl rfl lv01 lv21 (by omega)), ca_own rfl⟩
theorem caB0 : caB neA zF 0 bB 1 0 0 = false ∧ caB neA zF 0 bB 1 0 1 = true ∧ caB neA zF 0 bB 1 0 2 = true :=
  ⟨ca_own rfl, ca_yes (x := 0) rfl (by omega) rfl lv01 (by omega) rfl oB, ca_yes (x := 0) rfl (by omega) rfl lv02 (by omega) rfl oB⟩
theorem caC0 : caB neA zF 0 bC 2 0 0 = false ∧ caB neA zF 0 bC 2 0 1 = true ∧ caB neA zF 0 bC 2 0 2 = true :=
  ⟨ca_own rfl, ca_yes (x := 0) rfl (by omega) rfl lv01 (by omega) rfl oC0, ca_yes (x := 0) rfl (by omega) rfl lv02 (by omega) rfl oC0⟩
theorem caC1 : caB neA zF 0 bC 2 1 0 = true ∧ caB neA zF 0 bC 2 1 1 = true ∧ caB neA zF 0 bC 2 1 2 = false :=
  ⟨ca_yes (x := 2) rfl (by omega) rfl lv20 (by omega) rfl oC1, ca_yes (x := 2) rfl (by omega) rfl lv21 (by omega) rfl oC1, ca_own rfl⟩
theorem rv_zA {p : Int → Int → Bool} {n i j : Int} : rvQ p n zA 0 i j = p i j := by
  unfold rvQ
  rw [kp_iff.2 (.inr rfl), Bool.and_true]
theorem row_n {q : Int → Bool} (h0 : q 0 = false) (h1 : q 1 = false) (h2 : q 2 = false) : cntI q 3 = 0 := by
  show cntN q 3 = 0
  simp [cntN, h0, h1, h2]
theorem row_12 {q : Int → Bool} (h0 : q 0 = false) (h1 : q 1 = true) (h2 : q 2 = true) : cntI q 3 = 2 ∧ lstI q 3 0 0 = 1 ∧ lstI q 3 1 0 = 2 := by
  show cntN q 3 = 2 ∧ lstN q 3 0 0 = 1 ∧ lstN q 3 1 0 = 2
  simp [cntN, lstN, h0, h1, h2, appA, setA, zA]
theorem row_01 {q : Int → Bool} (h0 : q 0 = true) (h1 : q 1 = true) (h2 : q 2 = false) : cntI q 3 = 2 ∧ lstI q 3 0 0 = 0 ∧ lstI q 3 1 0 = 1 := by
  show cntN q 3 = 2 ∧ lstN q 3 0 0 = 0 ∧ lstN q 3 1 0 = 1
  simp [cntN, lstN, h0, h1, h2, appA, setA, zA]
theorem row_2 {q : Int → Bool} (h0 : q 0 = false) (h1 : q 1 = false) (h2 : q 2 = true) : cntI q 3 = 1 ∧ lstI q 3 0 0 = 2 := by
  show cntN q 3 = 1 ∧ lstN q 3 0 0 = 2
  simp [cntN, lstN, h0, h1, h2, appA, setA, zA]
theorem sr_of {l l' : Int → Int} {f f' : Int → Int → Nat → Int} {m : Int} (h : ∀ i, 0 ≤ i → i < m → l i = l' i ∧ ∀ j, 0 ≤ j → j < l i → f i j 0 = f' i j 0) : srB l f m l' f' m = true := by
  unfold srB
  rw [Bool.and_eq_true]
  refine ⟨by simp, allI_of fun i h0 h1 => ?_⟩
  unfold smR
  rw [← (h i h0 h1).1]
  exact saI_self (h i h0 h1).2
theorem vc25 : VC25 := by
  intro _
  refine ⟨trivial, ?_⟩
  rintro _ _ _ _ _ rfl rfl rfl rfl rfl
  refine ⟨trivial, ?_⟩
  rintro L1 F1 N1 e1 hL1 hF1 hN1 he1 _ _ _ _
  refine ⟨trivial, ?_⟩
  rintro _ _ _ _ _ rfl rfl rfl rfl rfl
  refine ⟨trivial, ?_⟩
  rintro L2 F2 N2 e2 hL2 hF2 hN2 he2 _ _ _ _
  refine ⟨trivial, ?_⟩
  rintro _ _ _ _ _ rfl rfl rfl rfl rfl
  refine ⟨trivial, ?_⟩
  rintro L3 F3 N3 e3 hL3 hF3 hN3 he3 _ _ _ _
  refine ⟨trivial, ?_⟩
  rintro _ _ _ _ _ rfl rfl rfl rfl rfl
  refine ⟨trivial, ?_⟩
  rintro L4 F4 N4 e4 hL4 hF4 hN4 he4 _ _ _ _
  change e1 = mcE neA 3 zL zF 0 bA 2 at he1
  change e2 = mcE neA 3 zL zF 0 bB 1 at he2
  change e3 = mcE neA 3 zL zF 0 bB 1 at he3
  change e4 = mcE neA 3 zL zF 0 bC 2 at he4
  change N1 = if mcE neA 3 zL zF 0 bA 2 = 0 then 2 else 0 at hN1
  change N2 = if mcE neA 3 zL zF 0 bB 1 = 0 then 1 else 0 at hN2
  change N3 = if mcE neA 3 zL zF 0 bB 1 = 0 then 1 else 0 at hN3
  change N4 = if mcE neA 3 zL zF 0 bC 2 = 0 then 2 else 0 at hN4
  rw [mcA] at he1 hN1
  rw [mcB] at he2 he3 hN2 hN3
  rw [mcC] at he4 hN4
  rw [if_pos rfl] at hN1 hN2 hN3 hN4
  subst e1 e2 e3 e4 N1 N2 N3 N4
  have l1 : ∀ i, L1 i = cntI (rvQ (caB neA zF 0 bA 2) 3 zA 0 i) 3 := fun i => by rw [hL1]; rfl
  have l2 : ∀ i, L2 i = cntI (rvQ (caB neA zF 0 bB 1) 3 zA 0 i) 3 := fun i => by rw [hL2]; rfl
  have l3 : ∀ i, L3 i = cntI (rvQ (caB neA zF 0 bB 1) 3 (setA (setA zA 0 0 1) 1 0 0) 2 i) 3 := fun i => by rw [hL3]; rfl
  have l4 : ∀ i, L4 i = cntI (rvQ (caB neA zF 0 bC 2) 3 zA 0 i) 3 := fun i => by rw [hL4]; rfl
  have f2 : ∀ i, F2 i = lstI (rvQ (caB neA zF 0 bB 1) 3 zA 0 i) 3 := fun i => by rw [hF2]; rfl
  have f3 : ∀ i, F3 i = lstI (rvQ (caB neA zF 0 bB 1) 3 (setA (setA zA 0 0 1) 1 0 0) 2 i) 3 := fun i => by rw [hF3]; rfl
  have f4 : ∀ i, F4 i = lstI (rvQ (caB neA zF 0 bC 2) 3 zA 0 i) 3 := fun i => by rw [hF4]; rfl
  clear hL1 hL2 hL3 hL4 hF1 hF2 hF3 hF4
  refine ⟨fun _ => trivial, ?_⟩
  rintro v1 hv1
  refine ⟨fun _ => trivial, ?_⟩
  rintro v2 hv2
  refine ⟨fun _ => trivial, ?_⟩
  rintro v3 hv3
  refine ⟨fun _ => trivial, ?_⟩
  rintro v4 hv4
  have h1 : v1 = true := by
    rw [hv1]
    refine sr_of fun i i0 i1 => ?_
    have hi : i = 0 ∨ i = 1 := by omega
    rcases hi with rfl | rfl
    · have hc : L1 0 = 0 := by rw [l1]; exact row_n (by rw [rv_zA]; exact caA0.1) (by rw [rv_zA]; exact caA0.2.1) (by rw [rv_zA]; exact caA0.2.2)
      rw [hc]; exact ⟨rfl, fun j j0 j1 => by omega⟩
    · have hc : L1 1 = 0 := by rw [l1]; exact row_n (by rw [rv_zA]; exact caA1.1) (by rw [rv_zA]; exact caA1.2.1) (by rw [rv_zA]; exact caA1.2.2)
      rw [hc]; exact ⟨rfl, fun j j0 j1 => by omega⟩
  have h2 : v2 = true := by
    rw [hv2]
    refine sr_of fun i i0 i1 => ?_
    obtain rfl : i = 0 := by omega
    obtain ⟨c1, c2, c3⟩ := row_12 (q := rvQ (caB neA zF 0 bB 1) 3 zA 0 0) (by rw [rv_zA]; exact caB0.1) (by rw [rv_zA]; exact caB0.2.1) (by rw [rv_zA]; exact caB0.2.2)
    rw [← l2] at c1
    rw [← f2] at c2 c3
    rw [c1]
    refine ⟨rfl, fun j j0 j1 => ?_⟩
    have hj : j = 0 ∨ j = 1 := by omega
    rcases hj with rfl | rfl
    · rw [c2]; rfl
    · rw [c3]; rfl
  have h3 : v3 = true := by
    rw [hv3]
    refine sr_of fun i i0 i1 => ?_
    obtain rfl : i = 0 := by omega
    have q0 : rvQ (caB neA zF 0 bB 1) 3 (setA (setA zA 0 0 1) 1 0 0) 2 0 0 = false := rv_not caB0.1
    have z0 : cntI (caB neA zF 0 bB 1 0) 1 = 0 := ct_no (p := caB neA zF 0 bB 1 0) (j := 0) (by omega) caB0.1
    have z1 : cntI (caB neA zF 0 bB 1 0) 2 = 1 := by
      have := ct_yes (p := caB neA zF 0 bB 1 0) (j := 1) (by omega) caB0.2.1
      rw [z0] at this
      exact this
    have q1 : rvQ (caB neA zF 0 bB 1) 3 (setA (setA zA 0 0 1) 1 0 0) 2 0 1 = false := rv_lost (c := 0) (by show (0 : Int) = 0 + _; rw [z0]; rfl) (by decide)
    have q2 : rvQ (caB neA zF 0 bB 1) 3 (setA (setA zA 0 0 1) 1 0 0) 2 0 2 = true := rv_take (c := 1) (by show (1 : Int) = 0 + _; rw [z1]; rfl) caB0.2.2 (by decide)
    obtain ⟨c1, c2⟩ := row_2 q0 q1 q2
    rw [← l3] at c1
    rw [← f3] at c2
    rw [c1]
    refine ⟨rfl, fun j j0 j1 => ?_⟩
    obtain rfl : j = 0 := by omega
    rw [c2]; rfl
  have h4 : v4 = true := by
    rw [hv4]
    refine sr_of fun i i0 i1 => ?_
    have hi : i = 0 ∨ i = 1 := by omega
    rcases hi with rfl | rfl
    · obtain ⟨c1, c2, c3⟩ := row_12 (q := rvQ (caB neA zF 0 bC 2) 3 zA 0 0) (by rw [rv_zA]; exact caC0.1) (by rw [rv_zA]; exact caC0.2.1) (by rw [rv_zA]; exact caC0.2.2)
      rw [← l4] at c1
      rw [← f4] at c2 c3
      rw [c1]
      refine ⟨rfl, fun j j0 j1 => ?_⟩
      have hj : j = 0 ∨ j = 1 := by omega
      rcases hj with rfl | rfl
      · rw [c2]; rfl
      · rw [c3]; rfl
    · obtain ⟨c1, c2, c3⟩ := row_01 (q := rvQ (caB neA zF 0 bC 2) 3 zA 0 1) (by rw [rv_zA]; exact caC1.1) (by rw [rv_zA]; exact caC1.2.1) (by rw [rv_zA]; exact caC1.2.2)
      rw [← l4] at c1
      rw [← f4] at c2 c3
      rw [c1]
      refine ⟨rfl, fun j j0 j1 => ?_⟩
      have hj : j = 0 ∨ j = 1 := by omega
      rcases hj with rfl | rfl
      · rw [c2]; rfl
      · rw [c3]; rfl
  exact ⟨⟨fun _ => rfl, fun _ => ⟨⟨⟨⟨⟨⟨⟨rfl, rfl⟩, rfl⟩, rfl⟩, h1⟩, h2⟩, h3⟩, h4⟩⟩, trivial⟩
end Go.Proofs.Ytgdjdaoglkfjdaa
