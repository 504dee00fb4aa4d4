/- Contests: what is left to show of Run: the loops. -/
import Derived.Test.YtkagcjibneigdaaDoorP2
namespace Go.Proofs.YtkagcjibneigdaaDoor
open Go Go.RowKit Go.Proofs.YtkagcjibneigdaaDoor.Vc
section
variable {b : Int → Nat → Int} {n : Int} {l : Int → Int} {f : Int → Int → Nat → Int} {m : Int} {ask : Bool} {T : Int} {d : Int → Nat → Int} {k : Int}
theorem cr_none {e : Int} (he : crE b n l f m ask T d k = e) (h : ¬ e = 0) : (0 : Int) = crK b n l f m ask T d k ∧ (∀ (i : Int) (g : Nat), 0 ≤ i → i < crK b n l f m ask T d k → g < 5 → zA i g = crO b n l f m ask T d k i g) ∧ (0 : Int) = crN b n l f m ask T d k n ∧ (∀ (i : Int) (g : Nat), 0 ≤ i → i < crN b n l f m ask T d k n → g < 7 → zA i g = crA b n l f m ask T d k i g) ∧ e = crE b n l f m ask T d k ∧ True := by
  have e1 : crK b n l f m ask T d k = 0 := by unfold crK; rw [he, if_neg h]
  have e2 : crN b n l f m ask T d k n = 0 := by unfold crN; rw [he, if_neg h]
  rw [e1, e2, he]
  exact ⟨rfl, fun i g i0 i1 => by omega, rfl, fun i g i0 i1 => by omega, rfl, trivial⟩
end
/-- one more station -/
theorem init_row {b : Int → Nat → Int} {x : Int → Nat → Int} {i : Int} (i0 : 0 ≤ i) (hx : x = (st0 b i).a) :
    appA x i (setA (setA (setA (setA (setA (setA (setA (setA (setA (setA (setA (setA zA 0 0 (b i 0)) 0 1 (b i 1)) 0 2 (b i 2)) 0 3 (b i 3)) 0 4 (b i 4)) 0 5 (b i 5)) 0 6 (b i 6)) 0 7 0) 0 8 0) 0 9 0) 0 10 0) 0 11 0) = (st0 b (i + 1)).a := by
  funext j g
  rw [hx]
  show (if j < i then (if 0 ≤ j ∧ j < i ∧ g < 7 then b j g else 0) else _) = if 0 ≤ j ∧ j < i + 1 ∧ g < 7 then b j g else 0
  by_cases h : j < i
  · rw [if_pos h]
    by_cases h2 : 0 ≤ j ∧ j < i ∧ g < 7
    · rw [if_pos h2, if_pos (by omega)]
    · rw [if_neg h2, if_neg (by omega)]
  · rw [if_neg h]
    by_cases hj : j = i
    · subst hj
      rw [Int.sub_self]
      by_cases hg : g < 7
      · rw [if_pos (by omega)]
        match g, hg with
        | 0, _ => rfl
        | 1, _ => rfl
        | 2, _ => rfl
        | 3, _ => rfl
        | 4, _ => rfl
        | 5, _ => rfl
        | 6, _ => rfl
      · rw [if_neg (by omega)]
        by_cases h11 : g = 11
        · subst h11; rfl
        by_cases h10 : g = 10
        · subst h10; rfl
        by_cases h9 : g = 9
        · subst h9; rfl
        by_cases h8 : g = 8
        · subst h8; rfl
        by_cases h7 : g = 7
        · subst h7; rfl
        repeat rw [setA_ne (.inr (by omega))]
        rfl
    · rw [if_neg (by omega)]
      repeat rw [setA_ne (.inl (by omega))]
      rfl
theorem st0_zero {b : Int → Nat → Int} : (st0 b 0).a = zA := by
  funext j g
  show (if 0 ≤ j ∧ j < 0 ∧ g < 7 then b j g else 0) = 0
  rw [if_neg (by omega)]
theorem begN_succ {a : Int → Nat → Int} {f : Int → Int → Nat → Int} {n : Int} {ask : Bool} {t i : Int} (h : 0 ≤ i) : begN a f n ask t (i + 1).toNat = begS a f n ask t (begN a f n ask t i.toNat) i := by
  obtain ⟨k, rfl⟩ := Int.eq_ofNat_of_zero_le h
  rw [show ((k : Int) + 1).toNat = k + 1 by omega, show ((k : Int)).toNat = k by omega]; rfl
theorem spN_succ {L c : Int → Nat → Int} {i : Int} (h : 0 ≤ i) : spN L c (i + 1).toNat = setA (spN L c i.toNat) (L i 0) 10 1 := by
  obtain ⟨k, rfl⟩ := Int.eq_ofNat_of_zero_le h
  rw [show ((k : Int) + 1).toNat = k + 1 by omega, show ((k : Int)).toNat = k by omega]; rfl
theorem anN_succ {t : Int} {L c : Int → Nat → Int} {i : Int} (h : 0 ≤ i) : anN t L c (i + 1).toNat = setA (setA (anN t L c i.toNat) (L i 0) 9 1) (L i 0) 8 ((t + 1) + anN t L c i.toNat (L i 0) 5) := by
  obtain ⟨k, rfl⟩ := Int.eq_ofNat_of_zero_le h
  rw [show ((k : Int) + 1).toNat = k + 1 by omega, show ((k : Int)).toNat = k by omega]; rfl
theorem rkN_succ {f : Int → Int → Nat → Int} {i : Int} {c : Int → Nat → Int} {k : Int} (h : 0 ≤ k) : rkN f i c (k + 1).toNat = if ¬ k = i ∧ ¬ f k (rkN f i c k.toNat i 6) 0 = 0 then setA (rkN f i c k.toNat) k 11 (max (rkN f i c k.toNat k 11) (rkN f i c k.toNat i 8)) else rkN f i c k.toNat := by
  obtain ⟨q, rfl⟩ := Int.eq_ofNat_of_zero_le h
  rw [show ((q : Int) + 1).toNat = q + 1 by omega, show ((q : Int)).toNat = q by omega]; rfl
theorem rsN_succ {f : Int → Int → Nat → Int} {n : Int} {L c : Int → Nat → Int} {r : Int} (h : 0 ≤ r) : rsN f n L c (r + 1).toNat = rkN f (L r 0) (rsN f n L c r.toNat) n.toNat := by
  obtain ⟨k, rfl⟩ := Int.eq_ofNat_of_zero_le h
  rw [show ((k : Int) + 1).toNat = k + 1 by omega, show ((k : Int)).toNat = k by omega]; rfl
theorem finN_succ {d : Int → Nat → Int} {m t : Int} {s : FS} {i : Int} (h : 0 ≤ i) : finN d m t s (i + 1).toNat = finS d m t (finN d m t s i.toNat) i := by
  obtain ⟨k, rfl⟩ := Int.eq_ofNat_of_zero_le h
  rw [show ((k : Int) + 1).toNat = k + 1 by omega, show ((k : Int)).toNat = k by omega]; rfl
theorem crS_succ {f : Int → Int → Nat → Int} {n : Int} {ask : Bool} {d : Int → Nat → Int} {m : Int} {s : FS} {t : Int} (h : 0 ≤ t) : crS f n ask d m s (t + 1).toNat = slotF f n ask d m t (crS f n ask d m s t.toNat) := by
  obtain ⟨k, rfl⟩ := Int.eq_ofNat_of_zero_le h
  rw [show ((k : Int) + 1).toNat = k + 1 by omega, show ((k : Int)).toNat = k by omega]; rfl
theorem fin_eq1 {c : Int → Nat → Int} {i dd ev : Int} (hev : evI (c i) = ev) (h : SG (c i 0) (c i 1) (c i 2) (c i 3) ev dd = true ∨ c i 10 = 0) : finA c i dd = setA (setA (stpA c i ev dd) i 4 (c i 4 - 1)) i 8 0 := by unfold finA; rw [hev, if_pos h]
theorem fin_eq2 {c : Int → Nat → Int} {i dd ev : Int} (hev : evI (c i) = ev) (h : ¬ (SG (c i 0) (c i 1) (c i 2) (c i 3) ev dd = true ∨ c i 10 = 0)) : finA c i dd = setA (stpA c i ev dd) i 8 0 := by unfold finA; rw [hev, if_neg h]
theorem sd_iff {a : Int → Nat → Int} {t i : Int} : sdB a t i = true ↔ a i 7 ≤ t ∧ t < a i 8 := by unfold sdB; simp
theorem okHr_no {a : Int → Nat → Int} {f : Int → Int → Nat → Int} {t i k : Int} (h1 : sdB a t k = true) (h2 : ¬ f i k 0 = 0) : okHr a f t i k = false := by
  unfold okHr hrB; rw [h1]; simp [h2]
theorem okHr_ok {a : Int → Nat → Int} {f : Int → Int → Nat → Int} {t i k : Int} (h : ¬ (sdB a t k = true ∧ ¬ f i k 0 = 0)) : okHr a f t i k = true := by
  unfold okHr hrB
  cases h1 : sdB a t k with
  | false => rfl
  | true =>
    have : f i k 0 = 0 := Classical.byContradiction fun h2 => h ⟨h1, h2⟩
    simp [this]
theorem allI_no {p : Int → Bool} {n i : Int} (h0 : 0 ≤ i) (h1 : i < n) (h : p i = false) : ¬ allI p n = true := fun hh => by rw [allI_at hh h0 h1] at h; cases h
theorem vc13 : VC13 := by
  intro b n l f m ask T d k hp hn hm hk
  refine ⟨hp, ?_⟩
  rintro e he hN hM hK
  have h08 := @cc_08 b n l f m ask T
  refine ⟨fun h1 => ?_, fun h1 => ?_⟩
  · have h2 : ¬ ccE b n l f m ask T = 0 := by omega
    have h3 : e = 8 := by omega
    subst h3
    exact cr_none (by unfold crE; rw [if_neg h2]) (by omega)
  have hc : ccE b n l f m ask T = 0 := by omega
  obtain ⟨⟨n0, n1⟩, rfl, ⟨T0, T1⟩, hrow⟩ := cc_ok hc
  refine ⟨fun i => 0 ≤ i ∧ i ≤ k ∧ allI (drB d) i = true, fun i => (k - i).toNat, ⟨by omega, by omega, rfl⟩, ?_⟩
  rintro i ⟨i0, i1, hi⟩
  refine ⟨fun h2 => ⟨i0, fun _ => ⟨fun h3 => ?_, fun h3 => ⟨by omega, fun _ => ⟨⟨by omega, by omega, ?_⟩, by dsimp only; omega⟩⟩⟩⟩, fun h2 => ?_⟩
  · refine cr_none (e := 2) ?_ (by omega)
    unfold crE
    rw [if_pos hc, if_neg]
    intro hh
    have : 0 ≤ d i 0 ∧ d i 0 ≤ 1099511627776 := of_decide_eq_true (allI_at (p := drB d) hh i0 h2)
    omega
  · rw [allI_succ i0, hi, Bool.true_and]
    unfold drB
    exact decide_eq_true (by omega)
  obtain rfl : i = k := by omega
  have hE : crE b m l f m ask T d i = 0 := by unfold crE; rw [if_pos hc, if_pos hi]
  refine ⟨fun x c j => 0 ≤ j ∧ j ≤ m ∧ c = j ∧ x = (st0 b j).a, fun _ _ j => (m - j).toNat, ⟨by omega, by omega, rfl, st0_zero.symm⟩, ?_⟩
  rintro x c j ⟨j0, j1, rfl, hx⟩ _ _
  refine ⟨fun h3 => ⟨j0, fun _ => ⟨by omega, fun _ => ⟨by omega, fun _ => fun _ => ⟨by omega, fun _ => ⟨⟨by omega, by omega, rfl, init_row j0 hx⟩, by dsimp only; omega⟩⟩⟩⟩⟩, fun h3 => ?_⟩
  obtain rfl : c = m := by omega
  have hAI0 : AI b c 0 x := ⟨fun q q0 q1 => by
    have e : ∀ g, g < 7 → x q g = b q g := fun g hg => by rw [hx]; show (if 0 ≤ q ∧ q < c ∧ g < 7 then b q g else 0) = _; rw [if_pos ⟨q0, q1, hg⟩]
    rw [e 0 (by omega), e 4 (by omega), e 5 (by omega), e 6 (by omega)]
    have hr := hrow q q0 q1
    exact ⟨hp.h q q0 q1, rfl, rfl, by omega, by omega⟩⟩
  refine ⟨fun a u left o kk t => 0 ≤ t ∧ t ≤ T ∧ a = (crS f c ask d i (st0 b c) t.toNat).a ∧ u = (crS f c ask d i (st0 b c) t.toNat).u ∧ o = (crS f c ask d i (st0 b c) t.toNat).o ∧ kk = (crS f c ask d i (st0 b c) t.toNat).k ∧ left = i - u ∧ u ≤ i ∧ AI b c (-(16 * t)) a ∧ 0 ≤ kk ∧ kk ≤ 16 * t, fun _ _ _ _ _ t => (T - t).toNat, ⟨by omega, by omega, hx, rfl, rfl, rfl, by omega, by omega, hAI0.lo (by omega), by omega, by omega⟩, ?_⟩
  rintro a u left o kk t ⟨t0, t1, ha, hu, ho, hkk, hleft, hui, hAI, k0, k1⟩ hu0 hleft0 _ hkk0 _
  refine ⟨fun h4 => ?_, fun h4 => ?_⟩
  · -- a slot
    subst ha
    generalize hs : crS f c ask d i (st0 b c) t.toNat = s at *
    have hl : ∀ r, 0 ≤ r → r < c → l r = c := fun r r0 r1 => (hrow r r0 r1).1
    refine ⟨fun x2 q j => 0 ≤ j ∧ j ≤ c ∧ q = j ∧ ∀ r, 0 ≤ r → r < j → (x2 r 0 = 0 ↔ ¬ sdB s.a t r = true), fun _ _ j => (c - j).toNat, ⟨by omega, by omega, rfl, fun r h5 h6 => by omega⟩, ?_⟩
    rintro x2 q j ⟨q0, q1, rfl, hx2⟩ _ _
    refine ⟨fun h5 => ⟨q0, fun _ => ⟨by omega, fun _ => ⟨by omega, fun _ => ⟨by omega, fun _ => ⟨⟨by omega, by omega, rfl, fun r r0 r1 => ?_⟩, by dsimp only; omega⟩⟩⟩⟩⟩, fun h5 => ?_⟩
    · unfold appA
      split
      · exact hx2 r r0 (by omega)
      · obtain rfl : r = q := by omega
        rw [Int.sub_self, setA_eq]
        unfold sdB
        by_cases z1 : s.a r 7 ≤ t <;> by_cases z2 : t < s.a r 8 <;> simp [z1, z2]
    obtain rfl : q = c := by omega
    -- beginning
    refine ⟨fun z j => 0 ≤ j ∧ j ≤ q ∧ z = begN s.a f q ask t j.toNat ∧ AI b q (-(16 * t)) z, fun _ j => (q - j).toNat, ⟨by omega, by omega, rfl, hAI⟩, ?_⟩
    rintro z j ⟨j0', j1', hz, hAz⟩
    have hbs := begN_succ (a := s.a) (f := f) (n := q) (ask := ask) (t := t) j0'
    rw [← hz] at hbs
    refine ⟨fun h6 => ⟨j0', fun _ => ⟨h6, fun _ => ⟨fun h7 => ?_, fun h7 => ?_⟩⟩⟩, fun h6 => ?_⟩
    · have e : begS s.a f q ask t z j = z := by
        unfold begS
        rw [if_pos]
        left
        rcases h7 with (h7 | h7) | h7
        · left; left; exact Classical.byContradiction fun h8 => h7 ((hx2 j j0' h6).2 h8)
        · left; right; exact h7
        · right; exact h7
      exact ⟨by omega, fun _ => ⟨⟨by omega, by omega, by rw [hbs, e], hAz⟩, by dsimp only; omega⟩⟩
    · have hlj := hl j j0' h6
      refine ⟨fun r => 0 ≤ r ∧ r ≤ q ∧ allI (okHr s.a f t j) r = true, fun r => (q - r).toNat, ⟨by omega, by omega, rfl⟩, ?_⟩
      rintro r ⟨r0, r1, hr⟩
      have hfirst : ¬ ((sdB s.a t j = true ∨ z j 4 = 0) ∨ t < z j 11) := fun hh => h7 (by
        rcases hh with (hh | hh) | hh
        · exact .inl (.inl fun h9 => (hx2 j j0' h6).1 h9 hh)
        · exact .inl (.inr hh)
        · exact .inr hh)
      refine ⟨fun h8 => ⟨r0, fun _ => ⟨.inr h6, fun _ => ⟨.inr h6, fun _ => ?_⟩⟩⟩, fun h8 => ?_⟩
      · refine ⟨.inr (by omega), fun _ => ⟨.inr h6, fun _ => ⟨.inr (by omega), fun _ => ⟨fun h9 => ?_, fun h9 => ⟨by omega, fun _ => ⟨⟨by omega, by omega, ?_⟩, by dsimp only; omega⟩⟩⟩⟩⟩⟩
        · have h10 : sdB s.a t r = true := Classical.byContradiction fun hh => h9.1 ((hx2 r r0 h8).2 hh)
          have e : begS s.a f q ask t z j = z := by
            unfold begS
            rw [if_pos (.inr (allI_no r0 h8 (okHr_no h10 h9.2)))]
          exact ⟨by omega, fun _ => ⟨⟨by omega, by omega, by rw [hbs, e], hAz⟩, by dsimp only; omega⟩⟩
        · rw [allI_succ r0, hr, okHr_ok (f := f) fun hh => h9 ⟨fun h10 => (hx2 r r0 h8).1 h10 hh.1, hh.2⟩]; rfl
      · obtain rfl : r = q := by omega
        have hneg : ¬ (((sdB s.a t j = true ∨ z j 4 = 0) ∨ t < z j 11) ∨ ¬ allI (okHr s.a f t j) r = true) := fun hh => hh.elim hfirst fun h => h hr
        have hzj := hAz.h j j0' h6
        have hbj := (hrow j j0' h6).2.2.2.2.1
        refine ⟨fun h9 => ⟨hzj.1, ?_⟩, fun h9 => ?_⟩
        · rintro v1 v2 v3 v4 v5 v6 rfl rfl rfl rfl _ _
          have e : begS s.a f r ask t z j = stpA z j 0 0 := by unfold begS; rw [if_neg hneg, if_pos h9]
          exact ⟨by omega, fun _ => ⟨⟨by omega, by omega, by rw [hbs, e]; rfl, hAz.stp j0' h6⟩, by dsimp only; omega⟩⟩
        · have e : begS s.a f r ask t z j = sndA z ask t j := by unfold begS; rw [if_neg hneg, if_neg h9]
          have hsn := hAz.snd (i := j) (t := t) (ask := ask)
          refine ⟨by omega, fun _ => ⟨fun h10 => ?_, fun h10 => ?_⟩⟩
          · have e2 : sndA z ask t j = setA (setA (setA (setA (setA z j 7 t) j 8 (t + z j 5)) j 9 0) j 10 0) j 8 (t + 1) := if_pos h10
            rw [e2] at e hsn
            exact ⟨by omega, fun _ => ⟨by omega, fun _ => ⟨⟨by omega, by omega, by rw [hbs, e], hsn⟩, by dsimp only; omega⟩⟩⟩
          · have e2 : sndA z ask t j = setA (setA (setA (setA z j 7 t) j 8 (t + z j 5)) j 9 0) j 10 0 := if_neg h10
            rw [e2] at e hsn
            exact ⟨by omega, fun _ => ⟨⟨by omega, by omega, by rw [hbs, e], hsn⟩, by dsimp only; omega⟩⟩
    obtain rfl : j = q := by omega
    clear hbs
    -- what is disturbed, and what is answered
    have hto : ∀ w, 0 ≤ w → w < j → 0 ≤ z w 6 ∧ z w 6 < j := fun w w0 w1 => by
      have h7 := (hAz.h w w0 w1).2.2.1
      have h8 := (hrow w w0 w1).2.2.2.2.2.1
      omega
    refine ⟨fun x p y r w => 0 ≤ w ∧ w ≤ j ∧ x = lstI (badB z f j ask t) w ∧ p = cntI (badB z f j ask t) w ∧ y = lstI (ansB z f j ask t) w ∧ r = cntI (ansB z f j ask t) w, fun _ _ _ _ w => (j - w).toNat, ⟨by omega, by omega, rfl, rfl, rfl, rfl⟩, ?_⟩
    rintro x p y r w ⟨w0, w1, hx5, hp5, hy5, hr5⟩ _ _ _ _
    obtain ⟨cb1, cb2⟩ := @cnt_succ (badB z f j ask t) w w0
    obtain ⟨ca1, ca2⟩ := @cnt_succ (ansB z f j ask t) w w0
    have bb := cntI_bd (badB z f j ask t) w0
    have ba := cntI_bd (ansB z f j ask t) w0
    refine ⟨fun h7 => ⟨w0, fun _ => ?_⟩, fun h7 => ?_⟩
    · have hskip : badB z f j ask t w = false → ansB z f j ask t w = false → x = lstI (badB z f j ask t) (w + 1) ∧ p = cntI (badB z f j ask t) (w + 1) ∧ y = lstI (ansB z f j ask t) (w + 1) ∧ r = cntI (ansB z f j ask t) (w + 1) := fun e1 e2 => by
        rw [cb1, cb2, ca1, ca2, e1, e2]; exact ⟨hx5, hp5, hy5, hr5⟩
      have hbad : badB z f j ask t w = true ∧ ansB z f j ask t w = false → appA x p (setA zA 0 0 w) = lstI (badB z f j ask t) (w + 1) ∧ p + 1 = cntI (badB z f j ask t) (w + 1) ∧ y = lstI (ansB z f j ask t) (w + 1) ∧ r = cntI (ansB z f j ask t) (w + 1) := fun e1 => by
        rw [cb1, cb2, ca1, ca2, e1.1, e1.2, hx5, hp5, hy5, hr5]; exact ⟨rfl, rfl, rfl, rfl⟩
      have hans : badB z f j ask t w = false → ansB z f j ask t w = true → x = lstI (badB z f j ask t) (w + 1) ∧ p = cntI (badB z f j ask t) (w + 1) ∧ appA y r (setA zA 0 0 w) = lstI (ansB z f j ask t) (w + 1) ∧ r + 1 = cntI (ansB z f j ask t) (w + 1) := fun e1 e2 => by
        rw [cb1, cb2, ca1, ca2, e1, e2, hx5, hp5, hy5, hr5]; exact ⟨rfl, rfl, rfl, rfl⟩
      obtain ⟨d0, d1⟩ := hto w w0 h7
      have hld := hl (z w 6) d0 d1
      refine ⟨fun h8 => ?_, fun h8 => ?_⟩
      · have hsd : sdB z t w = false := by cases h : sdB z t w with | false => rfl | true => exact absurd (sd_iff.1 h) h8
        exact ⟨by omega, fun _ => ⟨⟨by omega, by omega, hskip (by unfold badB; rw [hsd]; rfl) (by unfold ansB; rw [hsd]; rfl)⟩, by dsimp only; omega⟩⟩
      have hsd : sdB z t w = true := sd_iff.2 (Classical.not_not.1 h8)
      have hds : dsB z f j t w = true → badB z f j ask t w = true ∧ ansB z f j ask t w = false := fun h => by unfold badB ansB; rw [hsd, h]; exact ⟨rfl, rfl⟩
      refine ⟨d0, fun _ => ⟨d1, fun _ => ⟨by omega, fun _ => ⟨.inr d1, fun _ => ⟨fun h9 => ⟨d1, fun _ => fun _ _ => ⟨fun h10 => ?_, fun h10 => ?_⟩⟩, fun h9 => ?_⟩⟩⟩⟩⟩
      · have h11 : dsB z f j t w = true := by unfold dsB; rw [sd_iff.2 h10]; simp
        exact ⟨by omega, fun _ => ⟨by omega, fun _ => ⟨by omega, fun _ => ⟨⟨by omega, by omega, hbad (hds h11)⟩, by dsimp only; omega⟩⟩⟩⟩
      · have hnt : sdB z t (z w 6) = false := by cases h : sdB z t (z w 6) with | false => rfl | true => exact absurd (sd_iff.1 h) h10
        have hh0 : hrB f (z w 6) w = true := by
          have h9' : ¬ f (z w 6) w 0 = 0 := h9
          unfold hrB; rw [decide_eq_false h9']; rfl
        refine ⟨fun kq => 0 ≤ kq ∧ kq ≤ j ∧ allI (dsN z f t w) kq = true, fun kq => (j - kq).toNat, ⟨by omega, by omega, rfl⟩, ?_⟩
        rintro kq ⟨kq0, kq1, hkq⟩
        refine ⟨fun h11 => ⟨.inr kq0, fun _ => ⟨.inr (by omega), fun _ => ⟨.inr kq0, fun _ => ⟨.inr (by omega), fun _ => ⟨.inr kq0, fun _ => ⟨fun h12 => ⟨kq0, fun _ => ⟨fun h13 => ?_, fun h13 => ?_⟩⟩, fun h12 => ?_⟩⟩⟩⟩⟩⟩, fun h11 => ?_⟩
        · have h12' : ¬ f (z w 6) kq 0 = 0 := h12.2
          have h14 : dsN z f t w kq = false := by
            unfold dsN hrB
            rw [decide_eq_false h12.1, decide_eq_false h12', sd_iff.2 h13]; rfl
          have h15 : dsB z f j t w = true := by
            have : ¬ allI (dsN z f t w) j = true := allI_no kq0 h11 h14
            unfold dsB
            rw [show allI (dsN z f t w) j = false by cases h : allI (dsN z f t w) j with | false => rfl | true => exact absurd h this]
            simp
          exact ⟨by omega, fun _ => ⟨by omega, fun _ => ⟨by omega, fun _ => ⟨⟨by omega, by omega, hbad (hds h15)⟩, by dsimp only; omega⟩⟩⟩⟩
        · have h14 : dsN z f t w kq = true := by
            unfold dsN
            rw [show sdB z t kq = false by cases h : sdB z t kq with | false => rfl | true => exact absurd (sd_iff.1 h) h13]
            simp
          exact ⟨by omega, fun _ => ⟨⟨by omega, by omega, by rw [allI_succ kq0, hkq, h14]; rfl⟩, by dsimp only; omega⟩⟩
        · have h14 : dsN z f t w kq = true := by
            unfold dsN hrB
            by_cases h15 : kq = w
            · simp [h15]
            · have h16 : f (z w 6) kq 0 = 0 := Classical.byContradiction fun h17 => h12 ⟨h15, h17⟩
              simp [h16]
          exact ⟨by omega, fun _ => ⟨⟨by omega, by omega, by rw [allI_succ kq0, hkq, h14]; rfl⟩, by dsimp only; omega⟩⟩
        · obtain rfl : kq = j := by omega
          have hdn : dsB z f kq t w = false := by unfold dsB; rw [hh0, hnt, hkq]; rfl
          have hrq : rqB z ask t w = true ↔ ask = true ∧ z w 7 = t := by unfold rqB; simp
          refine ⟨fun h12 => ?_, fun h12 => ⟨fun h13 => ?_, fun h13 => ?_⟩⟩
          · have e1 : badB z f kq ask t w = true := by unfold badB; rw [hsd, hdn, hrq.2 h12.1, decide_eq_true h12.2]; rfl
            have e2 : ansB z f kq ask t w = false := by unfold ansB; rw [hsd, hdn, hrq.2 h12.1, decide_eq_true h12.2]; rfl
            exact ⟨by omega, fun _ => ⟨by omega, fun _ => ⟨by omega, fun _ => ⟨⟨by omega, by omega, hbad ⟨e1, e2⟩⟩, by dsimp only; omega⟩⟩⟩⟩
          · have h14 : ¬ t < z (z w 6) 11 := fun h15 => h12 ⟨h13, h15⟩
            have e1 : badB z f kq ask t w = false := by unfold badB; rw [hsd, hdn, hrq.2 h13, decide_eq_false h14]; rfl
            have e2 : ansB z f kq ask t w = true := by unfold ansB; rw [hsd, hdn, hrq.2 h13, decide_eq_false h14]; rfl
            exact ⟨by omega, fun _ => ⟨by omega, fun _ => ⟨by omega, fun _ => ⟨⟨by omega, by omega, hans e1 e2⟩, by dsimp only; omega⟩⟩⟩⟩
          · have h14 : rqB z ask t w = false := by cases h : rqB z ask t w with | false => rfl | true => exact absurd (hrq.1 h) h13
            exact ⟨by omega, fun _ => ⟨⟨by omega, by omega, hskip (by unfold badB; rw [hsd, hdn, h14]; rfl) (by unfold ansB; rw [hsd, hdn, h14]; rfl)⟩, by dsimp only; omega⟩⟩
      · have h9' : f (z w 6) w 0 = 0 := Classical.not_not.1 h9
        have h11 : dsB z f j t w = true := by unfold dsB hrB; rw [decide_eq_true h9']; rfl
        exact ⟨by omega, fun _ => ⟨by omega, fun _ => ⟨by omega, fun _ => ⟨⟨by omega, by omega, hbad (hds h11)⟩, by dsimp only; omega⟩⟩⟩⟩
    obtain rfl : w = j := by omega
    -- spoiled
    refine ⟨fun c6 r6 => 0 ≤ r6 ∧ r6 ≤ p ∧ c6 = spN x z r6.toNat ∧ AI b w (-(16 * t)) c6, fun _ r6 => (p - r6).toNat, ⟨by omega, by omega, rfl, hAz⟩, ?_⟩
    rintro c6 r6 ⟨r60, r61, hc6, hA6⟩
    refine ⟨fun h7 => ?_, fun h7 => ?_⟩
    · have hin := lstI_in (badB z f w ask t) (n := w) (r := r6) w0 r60 (by omega)
      rw [← hx5] at hin
      exact ⟨r60, fun _ => ⟨hin.1, fun _ => ⟨hin.2.1, fun _ => ⟨by omega, fun _ => ⟨⟨by omega, by omega, by rw [spN_succ r60, hc6], hA6.set (by decide)⟩, by dsimp only; omega⟩⟩⟩⟩⟩
    obtain rfl : r6 = p := by omega
    -- answered
    refine ⟨fun c7 c7' r7 => c7 = c7' ∧ 0 ≤ r7 ∧ r7 ≤ r ∧ c7 = anN t y c6 r7.toNat ∧ AI b w (-(16 * t)) c7, fun _ _ r7 => (r - r7).toNat, ⟨rfl, by omega, by omega, rfl, hA6⟩, ?_⟩
    rintro c7 c7' r7 ⟨rfl, r70, r71, hc7, hA7⟩
    have hyin : ∀ r7, 0 ≤ r7 → r7 < r → 0 ≤ y r7 0 ∧ y r7 0 < w := fun r7 h8 h9 => by
      have hin := lstI_in (ansB z f w ask t) (n := w) (r := r7) w0 h8 (by omega)
      rw [← hy5] at hin
      exact ⟨hin.1, hin.2.1⟩
    refine ⟨fun h8 => ?_, fun h8 => ?_⟩
    · have hin := hyin r7 r70 h8
      have h9 := (hA7.h _ hin.1 hin.2).2.1
      have h10 := (hrow _ hin.1 hin.2).2.2.2.2.1
      exact ⟨r70, fun _ => ⟨hin.1, fun _ => ⟨hin.2, fun _ => ⟨by omega, fun _ => ⟨by omega, fun _ => ⟨by omega, fun _ => ⟨⟨rfl, by omega, by omega, by rw [anN_succ r70, hc7], (hA7.set (by decide)).set (by decide)⟩, by dsimp only; omega⟩⟩⟩⟩⟩⟩⟩
    obtain rfl : r7 = r := by omega
    -- reservations
    refine ⟨fun c8 c8' r8 => c8 = c8' ∧ 0 ≤ r8 ∧ r8 ≤ r7 ∧ c8 = rsN f w y c7 r8.toNat ∧ AI b w (-(16 * t)) c8, fun _ _ r8 => (r7 - r8).toNat, ⟨rfl, by omega, by omega, rfl, hA7⟩, ?_⟩
    rintro c8 c8' r8 ⟨rfl, r80, r81, hc8, hA8⟩
    refine ⟨fun h9 => ?_, fun h9 => ?_⟩
    · have hin := hyin r8 r80 h9
      refine ⟨r80, fun _ => ⟨hin.1, fun _ => ⟨hin.2, fun _ => ?_⟩⟩⟩
      refine ⟨fun c9 c9' c9'' k9 => c9 = c9'' ∧ c9' = c9'' ∧ 0 ≤ k9 ∧ k9 ≤ w ∧ c9'' = rkN f (y r8 0) c8 k9.toNat ∧ AI b w (-(16 * t)) c9'', fun _ _ _ k9 => (w - k9).toNat, ⟨rfl, rfl, by omega, by omega, rfl, hA8⟩, ?_⟩
      rintro c9 c9' c9'' k9 ⟨rfl, rfl, k90, k91, hc9, hA9⟩
      have hrk := rkN_succ (f := f) (i := y r8 0) (c := c8) k90
      rw [← hc9] at hrk
      have h6b := (hA9.h _ hin.1 hin.2).2.2.1
      have h6r := (hrow _ hin.1 hin.2).2.2.2.2.2.1
      refine ⟨fun h10 => ?_, fun h10 => ?_⟩
      · have hlk := hl k9 k90 h10
        refine ⟨.inr k90, fun _ => ⟨.inr h10, fun _ => ⟨.inr k90, fun _ => ⟨.inr h10, fun _ => ⟨.inr (by omega), fun _ => ⟨.inr (by omega), fun _ => ⟨.inr k90, fun _ => ⟨.inr h10, fun _ => ⟨.inr (by omega), fun _ => ⟨.inr (by omega), fun _ => ?_⟩⟩⟩⟩⟩⟩⟩⟩⟩⟩
        refine ⟨fun h11 => ⟨k90, fun _ => ⟨by omega, fun _ => ⟨⟨rfl, rfl, by omega, by omega, ?_, hA9.set (by decide)⟩, by dsimp only; omega⟩⟩⟩, fun h11 => ⟨by omega, fun _ => ⟨⟨rfl, rfl, by omega, by omega, ?_, hA9⟩, by dsimp only; omega⟩⟩⟩
        · rw [hrk]; exact (if_pos h11).symm
        · rw [hrk]; exact (if_neg h11).symm
      · have hkw : k9 = w := by omega
        exact ⟨by omega, fun _ => ⟨⟨rfl, by omega, by omega, by rw [rsN_succ r80, ← hc8, hc9, hkw], hA9⟩, by dsimp only; omega⟩⟩
    have hr87 : r8 = r7 := by omega
    have hair : c8 = airA f w ask t (begN s.a f w ask t w.toNat) := by
      unfold airA
      rw [← hz, ← hx5, ← hy5, ← hp5, ← hr5, hc8, hc7, hc6, hr87]
    -- the ends
    refine ⟨fun q9 a2 o9 k9 a9 u9 lf => a2 = a9 ∧ 0 ≤ q9 ∧ q9 ≤ w ∧ a9 = (finN d i t ⟨c8, u, o, kk⟩ q9.toNat).a ∧ o9 = (finN d i t ⟨c8, u, o, kk⟩ q9.toNat).o ∧ k9 = (finN d i t ⟨c8, u, o, kk⟩ q9.toNat).k ∧ u9 = (finN d i t ⟨c8, u, o, kk⟩ q9.toNat).u ∧ lf = i - u9 ∧ u9 ≤ i ∧ AI b w (-(16 * t) - q9) a9 ∧ k9 ≤ 16 * t + q9, fun q9 _ _ _ _ _ _ => (w - q9).toNat, ⟨rfl, by omega, by omega, rfl, rfl, rfl, rfl, hleft, hui, hA8.lo (by omega), by omega⟩, ?_⟩
    rintro q9 a2 o9 k9 a9 u9 lf ⟨rfl, q90, q91, ha9, ho9, hk9, hu9, hlf, hu9i, hA9, hkb⟩ _ _ _ hk90 _
    have hfs := finN_succ (d := d) (m := i) (t := t) (s := ⟨c8, u, o, kk⟩) q90
    refine ⟨fun h10 => ⟨q90, fun _ => ⟨by omega, fun _ => ⟨fun h11 => ?_, fun h11 => ?_⟩⟩⟩, fun h10 => ?_⟩
    · have e : finN d i t ⟨c8, u, o, kk⟩ (q9 + 1).toNat = finN d i t ⟨c8, u, o, kk⟩ q9.toNat := by
        rw [hfs]; unfold finS; rw [if_neg (by rw [← ha9]; exact h11)]
      exact ⟨by omega, fun _ => ⟨⟨rfl, by omega, by omega, by rw [e]; exact ha9, by rw [e]; exact ho9, by rw [e]; exact hk9, by rw [e]; exact hu9, hlf, hu9i, hA9.lo (by omega), by omega⟩, by dsimp only; omega⟩⟩
    · have h11' : a2 q9 8 = t + 1 := Classical.not_not.1 h11
      have hq := hA9.h q9 q90 h10
      have hnew : finN d i t ⟨c8, u, o, kk⟩ (q9 + 1).toNat = ⟨finA a2 q9 (drI d i u9), if u9 < i then u9 + 1 else u9, appA o9 k9 (buA a2 q9), k9 + 1⟩ := by
        rw [hfs]; unfold finS; rw [if_pos (by rw [← ha9]; exact h11'), ← ha9, ← ho9, ← hk9, ← hu9]
      have hAf := fun dd => hA9.fin q90 h10 (d := dd)
      have leaf : ∀ (dd : Int) (A : Int → Nat → Int) (u' lf' : Int), drI d i u9 = dd → A = finA a2 q9 dd → u' = (if u9 < i then u9 + 1 else u9) → lf' = i - u' → u' ≤ i →
          (A = A ∧ 0 ≤ q9 + 1 ∧ q9 + 1 ≤ w ∧ A = (finN d i t ⟨c8, u, o, kk⟩ (q9 + 1).toNat).a ∧ appA o9 k9 (buA a2 q9) = (finN d i t ⟨c8, u, o, kk⟩ (q9 + 1).toNat).o ∧ k9 + 1 = (finN d i t ⟨c8, u, o, kk⟩ (q9 + 1).toNat).k ∧ u' = (finN d i t ⟨c8, u, o, kk⟩ (q9 + 1).toNat).u ∧ lf' = i - u' ∧ u' ≤ i ∧ AI b w (-(16 * t) - (q9 + 1)) A ∧ k9 + 1 ≤ 16 * t + (q9 + 1)) ∧ (w - (q9 + 1)).toNat < (w - q9).toNat := by
        rintro dd A u' lf' h1 h2 h3 h4 h5
        rw [hnew, h1, h2]
        exact ⟨⟨rfl, by omega, by omega, rfl, rfl, rfl, h3, h4, h5, (hAf dd).lo (by omega), by omega⟩, by omega⟩
      refine ⟨fun h12 => ?_, fun h12 => ?_⟩
      · have hev : evI (a2 q9) = 3 := if_neg h12
        refine ⟨fun h13 => ⟨hq.1, ?_⟩, fun h13 => ⟨by omega, fun _ => ⟨by omega, fun _ => ⟨by omega, fun _ => ⟨by omega, fun _ => ⟨hq.1, ?_⟩⟩⟩⟩⟩⟩
        · rintro v44 v45 v46 v47 v48 v49 rfl rfl rfl rfl hv48 _
          have hdr : drI d i u9 = 0 := if_neg (by omega)
          refine ⟨fun h14 => ?_, fun h14 => ?_⟩
          · rw [hv48] at h14
            repeat first | refine ⟨by omega, fun _ => ?_⟩ | intro _
            exact leaf _ _ _ _ hdr (fin_eq1 hev h14).symm (by rw [if_neg (by omega : ¬ u9 < i)]) (by omega) (by omega)
          · rw [hv48] at h14
            repeat first | refine ⟨by omega, fun _ => ?_⟩ | intro _
            exact leaf _ _ _ _ hdr (fin_eq2 hev h14).symm (by rw [if_neg (by omega : ¬ u9 < i)]) (by omega) (by omega)
        · rintro v44 v45 v46 v47 v48 v49 rfl rfl rfl rfl hv48 _ _ _
          have hdr : drI d i u9 = d u9 0 := if_pos (by omega)
          refine ⟨fun h14 => ?_, fun h14 => ?_⟩
          · rw [hv48] at h14
            repeat first | refine ⟨by omega, fun _ => ?_⟩ | intro _
            exact leaf _ _ _ _ hdr (fin_eq1 hev h14).symm (by rw [if_pos (by omega : u9 < i)]) (by omega) (by omega)
          · rw [hv48] at h14
            repeat first | refine ⟨by omega, fun _ => ?_⟩ | intro _
            exact leaf _ _ _ _ hdr (fin_eq2 hev h14).symm (by rw [if_pos (by omega : u9 < i)]) (by omega) (by omega)
      · have hev : evI (a2 q9) = 2 := if_pos (Classical.not_not.1 h12)
        refine ⟨fun h13 => ⟨hq.1, ?_⟩, fun h13 => ⟨by omega, fun _ => ⟨by omega, fun _ => ⟨by omega, fun _ => ⟨by omega, fun _ => ⟨hq.1, ?_⟩⟩⟩⟩⟩⟩
        · rintro v44 v45 v46 v47 v48 v49 rfl rfl rfl rfl hv48 _
          have hdr : drI d i u9 = 0 := if_neg (by omega)
          refine ⟨fun h14 => ?_, fun h14 => ?_⟩
          · rw [hv48] at h14
            repeat first | refine ⟨by omega, fun _ => ?_⟩ | intro _
            exact leaf _ _ _ _ hdr (fin_eq1 hev h14).symm (by rw [if_neg (by omega : ¬ u9 < i)]) (by omega) (by omega)
          · rw [hv48] at h14
            repeat first | refine ⟨by omega, fun _ => ?_⟩ | intro _
            exact leaf _ _ _ _ hdr (fin_eq2 hev h14).symm (by rw [if_neg (by omega : ¬ u9 < i)]) (by omega) (by omega)
        · rintro v44 v45 v46 v47 v48 v49 rfl rfl rfl rfl hv48 _ _ _
          have hdr : drI d i u9 = d u9 0 := if_pos (by omega)
          refine ⟨fun h14 => ?_, fun h14 => ?_⟩
          · rw [hv48] at h14
            repeat first | refine ⟨by omega, fun _ => ?_⟩ | intro _
            exact leaf _ _ _ _ hdr (fin_eq1 hev h14).symm (by rw [if_pos (by omega : u9 < i)]) (by omega) (by omega)
          · rw [hv48] at h14
            repeat first | refine ⟨by omega, fun _ => ?_⟩ | intro _
            exact leaf _ _ _ _ hdr (fin_eq2 hev h14).symm (by rw [if_pos (by omega : u9 < i)]) (by omega) (by omega)
    · have hqw : q9 = w := by omega
      have hcr : crS f w ask d i (st0 b w) (t + 1).toNat = finN d i t ⟨c8, u, o, kk⟩ q9.toNat := by
        rw [crS_succ t0, hs]; unfold slotF
        rw [← hair, hqw, hu, ho, hkk]
      refine ⟨by omega, fun _ => ⟨⟨by omega, by omega, by rw [hcr]; exact ha9, by rw [hcr]; exact hu9, by rw [hcr]; exact ho9, by rw [hcr]; exact hk9, hlf, hu9i, hA9.lo (by omega), hk90, by omega⟩, by dsimp only; omega⟩⟩
  · obtain rfl : t = T := by omega
    refine ⟨fun y q j => 0 ≤ j ∧ j ≤ c ∧ q = j ∧ ∀ r, 0 ≤ r → r < j → ∀ g, g < 7 → y r g = a r g, fun _ _ j => (c - j).toNat, ⟨by omega, by omega, rfl, fun r h5 h6 => by omega⟩, ?_⟩
    rintro y q j ⟨q0, q1, rfl, hy⟩ _ _
    refine ⟨fun h5 => ⟨q0, fun _ => ⟨by omega, fun _ => ⟨by omega, fun _ => ⟨by omega, fun _ => ⟨⟨by omega, by omega, rfl, fun r r0 r1 g hg => ?_⟩, by dsimp only; omega⟩⟩⟩⟩⟩, fun h5 => ?_⟩
    · unfold appA
      split
      · exact hy r r0 (by omega) g hg
      · obtain rfl : r = q := by omega
        rw [Int.sub_self]
        match g, hg with
        | 0, _ => rfl
        | 1, _ => rfl
        | 2, _ => rfl
        | 3, _ => rfl
        | 4, _ => rfl
        | 5, _ => rfl
        | 6, _ => rfl
    · obtain rfl : q = c := by omega
      have e1 : crK b q l f q ask t d i = kk := by unfold crK crF; rw [if_pos hE, hkk]
      have e2 : crN b q l f q ask t d i q = q := by unfold crN; rw [if_pos hE]
      rw [e1, e2, hE]
      refine ⟨rfl, fun r g r0 r1 hg => ?_, rfl, fun r g r0 r1 hg => ?_, rfl, trivial⟩
      · rw [ho]; rfl
      · rw [hy r r0 r1 g hg, ha]; rfl
end Go.Proofs.YtkagcjibneigdaaDoor
