/- Contests: agrees with the reference: what is left to show of the law. -/
import Derived.Test.YtkagcjibneigdaaDoorE6
import Derived.Test.YtkagcjibneigdaaDoorC13
namespace Go.Proofs.YtkagcjibneigdaaDoor
open Go Go.RowKit Go.Proofs.YtkagcjibneigdaaDoor.Vc
theorem chk_n {c w n t : Int} (h : chkE c w n t = 0) : 0 ≤ n ∧ n ≤ 1023 := by
  have := aft_bd c t
  unfold chkE at h
  grind
theorem set5 {X : Int → Nat → Int} {w z0 z1 z2 z3 z4 : Int} {Y : Int → Nat → Int} (h : Y = setA (setA (setA (setA (setA X w 0 z0) w 1 z1) w 2 z2) w 3 z3) w 4 z4) :
    (∀ q g, q ≠ w → Y q g = X q g) ∧ Y w 0 = z0 ∧ Y w 1 = z1 ∧ Y w 2 = z2 ∧ Y w 3 = z3 ∧ Y w 4 = z4 ∧ Y w 5 = X w 5 ∧ Y w 6 = X w 6 := by
  subst h
  exact ⟨fun q g hq => by rw [row_ne hq, row_ne hq, row_ne hq, row_ne hq, row_ne hq], by simp [row_at], by simp [row_at], by simp [row_at], by simp [row_at], by simp [row_at], by simp [row_at], by simp [row_at]⟩
theorem set4 {X : Int → Nat → Int} {w z0 z1 z2 z3 : Int} {Y : Int → Nat → Int} (h : Y = setA (setA (setA (setA X w 0 z0) w 1 z1) w 2 z2) w 3 z3) :
    (∀ q g, q ≠ w → Y q g = X q g) ∧ Y w 0 = z0 ∧ Y w 1 = z1 ∧ Y w 2 = z2 ∧ Y w 3 = z3 ∧ Y w 4 = X w 4 ∧ Y w 5 = X w 5 ∧ Y w 6 = X w 6 := by
  subst h
  exact ⟨fun q g hq => by rw [row_ne hq, row_ne hq, row_ne hq, row_ne hq], by simp [row_at], by simp [row_at], by simp [row_at], by simp [row_at], by simp [row_at], by simp [row_at], by simp [row_at]⟩
/-- a slot's beginning, of both -/
structure J1 (f : Int → Int → Nat → Int) (n : Int) (ask : Bool) (d : Int → Nat → Int) (k : Int) (b : Int → Nat → Int) (T : Int) (xs : Int → Nat → Int) (nx : Int) (B : Int → Nat → Int) (nb : Int) (O : Int → Nat → Int) (no : Int) (R : Int → Nat → Int) (nr dr t : Int) : Prop where
  t0 : 0 ≤ t
  t1 : t ≤ T
  ex : n = nx
  er : n = nr
  fr : FinR n k (crS f n ask d k (st0 b n) t.toNat) xs O no dr
  br : BR n t t (fun _ => False) ask (crS f n ask d k (st0 b n) t.toNat).a B nb
  rv : ∀ q, 0 ≤ q → q < n → R q 0 = (crS f n ask d k (st0 b n) t.toNat).a q 11
  b0 : 0 ≤ nb
  b1 : nb ≤ 16 * t
theorem j1_zero {f : Int → Int → Nat → Int} {n : Int} {ask : Bool} {d : Int → Nat → Int} {k : Int} {b : Int → Nat → Int} {T : Int} (T0 : 0 ≤ T) (k0 : 0 ≤ k) : J1 f n ask d k b T b n zA 0 zA 0 zA n 0 0 := by
  refine ⟨Int.le_refl _, T0, rfl, rfl, ⟨⟨fun q g q0 q1 hg => ?_⟩, rfl, rfl, ?_, fun r r0 r1 => by omega, Int.le_refl _⟩, ⟨fun r r0 r1 => by omega, fun r r0 r1 => by omega, fun r r0 r1 => by omega, fun r r0 r1 => by omega, fun r r0 r1 => by omega, fun i i0 i1 hi => ?_, fun r q r0 rq q1 => by omega⟩, fun q q0 q1 => ?_, Int.le_refl _, by omega⟩
  · show b q g = if 0 ≤ q ∧ q < n ∧ g < 7 then b q g else 0
    rw [if_pos ⟨q0, q1, hg⟩]
  · show (0 : Int) = if 0 < k then 0 else k
    split <;> omega
  · have hi : (0 : Int) < if 0 ≤ i ∧ i < n ∧ 8 < 7 then b i 8 else 0 := hi
    rw [if_neg (by omega)] at hi
    omega
  · show (0 : Int) = if 0 ≤ q ∧ q < n ∧ 11 < 7 then b q 11 else 0
    rw [if_neg (by omega)]
/-- a transmission ends -/
structure Z1 (n t : Int) (s : FS) (Z : Int → Nat → Int) (r w : Int) : Prop where
  w0 : 0 ≤ w
  w1 : w < n
  z0 : Z r 0 = w
  z2 : Z r 2 = t + 1
  a7 : s.a w 7 = Z r 1
  a8 : s.a w 8 = Z r 2
  a9 : s.a w 9 = 0 ↔ Z r 3 = 0
  ad : s.a w 10 = 0 ↔ ¬ Z r 4 = 0
theorem fin_one {n k t w no dr ev dv r : Int} {d : Int → Nat → Int} {s : FS} {xs O Z Y : Int → Nat → Int} (h : FinR n k s xs O no dr) (hz : Z1 n t s Z r w) (kk : 0 ≤ k) (hev : ev = if ¬ Z r 4 = 0 then 2 else 3) (hdv : dv = if dr < k then d dr 0 else 0)
    {z0 z1 z2 z3 : Int} {z4 : Bool} (y0 : z0 = SC (xs w 0) (xs w 1) (xs w 2) (xs w 3) ev dv) (y1 : z1 = SW (xs w 0) (xs w 1) (xs w 2) (xs w 3) ev dv) (y2 : z2 = SN (xs w 0) (xs w 1) (xs w 2) (xs w 3) ev dv) (y3 : z3 = SR (xs w 0) (xs w 1) (xs w 2) (xs w 3) ev dv) (y4 : z4 = SG (xs w 0) (xs w 1) (xs w 2) (xs w 3) ev dv)
    (hY : ((z4 = true ∨ ¬ Z r 4 = 0) ∧ Y = setA (setA (setA (setA (setA xs w 0 z0) w 1 z1) w 2 z2) w 3 z3) w 4 (xs w 4 - 1)) ∨ (¬ (z4 = true ∨ ¬ Z r 4 = 0) ∧ Y = setA (setA (setA (setA xs w 0 z0) w 1 z1) w 2 z2) w 3 z3)) :
    FinR n k (finS d k t s w) Y (appA O no (setA (setA (setA (setA (setA zA 0 0 (Z r 0)) 0 1 (Z r 1)) 0 2 (Z r 2)) 0 3 (if (!(decide ((Z r 3) = 0))) = true then (1 : Int) else (0 : Int))) 0 4 (if (!(decide ((Z r 4) = 0))) = true then (1 : Int) else (0 : Int)))) (no + 1) (dr + 1) := by
  obtain ⟨w0, w1, e0, e2, a7, a8, a9, ad⟩ := hz
  have h4 : Y w 4 = if SG (xs w 0) (xs w 1) (xs w 2) (xs w 3) ev dv = true ∨ s.a w 10 = 0 then xs w 4 - 1 else xs w 4 := by
    rw [← y4]
    rcases hY with ⟨hc, hY⟩ | ⟨hc, hY⟩
    · rw [if_pos (hc.imp id ad.2)]; exact (set5 hY).2.2.2.2.2.1
    · rw [if_neg (fun hh => hc (hh.imp id ad.1))]; exact (set4 hY).2.2.2.2.2.1
  have hr : (∀ q g, q ≠ w → Y q g = xs q g) ∧ Y w 0 = z0 ∧ Y w 1 = z1 ∧ Y w 2 = z2 ∧ Y w 3 = z3 ∧ Y w 5 = xs w 5 ∧ Y w 6 = xs w 6 := by
    rcases hY with ⟨hc, hY⟩ | ⟨hc, hY⟩
    · obtain ⟨p, p0, p1, p2, p3, _, p5, p6⟩ := set5 hY; exact ⟨p, p0, p1, p2, p3, p5, p6⟩
    · obtain ⟨p, p0, p1, p2, p3, _, p5, p6⟩ := set4 hY; exact ⟨p, p0, p1, p2, p3, p5, p6⟩
  obtain ⟨p, p0, p1, p2, p3, p5, p6⟩ := hr
  have hu := h.u
  have hdk := h.dk
  refine h.step w0 w1 (by omega) ?_ ?_ kk p (p0.trans y0) (p1.trans y1) (p2.trans y2) (p3.trans y3) h4 p5 p6 (by simp [setA]; exact e0) (by simp [setA]; exact a7.symm) (by simp [setA]; exact a8.symm) ?_ ?_
  · unfold evI
    rw [hev]
    by_cases h0 : s.a w 10 = 0
    · rw [if_pos h0, if_pos (ad.1 h0)]
    · rw [if_neg h0, if_neg (fun hh => h0 (ad.2 hh))]
  · unfold drI
    rw [hdv, hu]
    by_cases hlt : no < k
    · rw [if_pos hlt, if_pos hlt, if_pos (by omega), hdk]
    · rw [if_neg hlt, if_neg (by omega), if_neg (by omega)]
  · rw [a9]
    by_cases h3 : Z r 3 = 0 <;> simp [setA, h3]
  · rw [ad]
    by_cases h3 : Z r 4 = 0 <;> simp [setA, h3]
set_option maxHeartbeats 4000000 in
theorem vc8 : VC8 := by
  intro b n l f m ask T d k hu n0 m0 k0
  refine ⟨trivial, fun v8 h8 n1 m1 k1 => ⟨fun _ => ⟨⟨fun _ => rfl, fun _ => trivial⟩, trivial⟩, fun hc => ?_⟩⟩
  have hk : k ≤ 500 := by omega
  have hg : gcB n l m T 300 = false := by
    rw [← h8]
    cases v8 with
    | false => rfl
    | true => exact absurd (.inl rfl) hc
  have hn : n ≤ 20 ∧ ¬ (300 < T ∧ T ≤ 2000) := by
    unfold gcB at hg
    rw [Bool.or_eq_false_iff] at hg
    have := of_decide_eq_false hg.1
    omega
  clear hc h8 hg
  refine ⟨by omega, fun _ => ⟨by omega, fun _ => ⟨hu, fun o K a N E ho hK ha hN hE hK0 hN0 => ⟨hu, fun cE hcE => ⟨fun he => ?_, fun he => ?_⟩⟩⟩⟩⟩
  · have h8 : ccE b n l f m ask T = 8 := cc_08.resolve_left (by omega)
    have hE8 : crE b n l f m ask T d k = 8 := by unfold crE; rw [if_neg (by omega)]
    have eK : K = 0 := by rw [hK]; unfold crK; rw [if_neg (by omega)]
    have eN : N = 0 := by rw [hN]; unfold crN; rw [if_neg (by omega)]
    have S1 : sbB o K zA 0 = true := by rw [eK]; unfold sbB; rw [decide_eq_true rfl]; rfl
    have S2 : ssB a N zA 0 = true := by rw [eN]; unfold ssB; rw [decide_eq_true rfl]; rfl
    have S3 : E = 8 := hE.trans hE8
    refine ⟨hu, fun c1 q1 => ⟨hu, fun c2 q2 => ⟨fun _ => hu, fun c3 q3 => ⟨fun _ => hu, fun c4 q4 => ⟨fun _ => trivial, fun c5 q5 => ⟨fun _ => trivial, fun c6 q6 => ⟨fun _ => trivial, fun c7 q7 _ _ => ⟨⟨fun _ => rfl, fun _ => ⟨⟨⟨⟨⟨q1.trans q2.symm, ?_⟩, q5.trans S1⟩, q6.trans S2⟩, S3⟩, q7.trans (ssB_self b n)⟩⟩, trivial⟩⟩⟩⟩⟩⟩⟩⟩
    rw [q3, q4]; cases evB b n l f m ask T <;> simp
  have hcc : ccE b n l f m ask T = 0 := by omega
  obtain ⟨cn, cm, cT, cb⟩ := cc_ok hcc
  refine ⟨fun i => 0 ≤ i ∧ i ≤ k ∧ allI (drB d) i = true, fun i => (k - i).toNat, ⟨by omega, by omega, rfl⟩, ?_⟩
  rintro i ⟨i0, i1, hi⟩
  have hdf : fitA (d i 0) = drB d i := by
    unfold fitA oddA drB
    by_cases hh : d i 0 < 0 ∨ 1099511627776 < d i 0
    · rw [decide_eq_true hh, decide_eq_false (by omega)]; rfl
    · rw [decide_eq_false hh, decide_eq_true (by omega)]; rfl
  refine ⟨fun h1 => ⟨i0, fun _ => ⟨trivial, fun v16 h16 => ⟨fun h2 => ?_, fun h2 => ⟨by omega, fun _ => ⟨⟨by omega, by omega, ?_⟩, by dsimp only; omega⟩⟩⟩⟩⟩, fun h1 => ?_⟩
  · have hdr : ¬ allI (drB d) k = true := fun hh => h2 (by rw [h16, hdf]; exact allI_at hh i0 h1)
    have hE8 : crE b n l f m ask T d k = 2 := by unfold crE; rw [if_pos hcc, if_neg hdr]
    have eK : K = 0 := by rw [hK]; unfold crK; rw [if_neg (by omega)]
    have eN : N = 0 := by rw [hN]; unfold crN; rw [if_neg (by omega)]
    have S1 : sbB o K zA 0 = true := by rw [eK]; unfold sbB; rw [decide_eq_true rfl]; rfl
    have S2 : ssB a N zA 0 = true := by rw [eN]; unfold ssB; rw [decide_eq_true rfl]; rfl
    have S3 : E = 2 := hE.trans hE8
    refine ⟨hu, fun c1 q1 => ⟨hu, fun c2 q2 => ⟨fun _ => hu, fun c3 q3 => ⟨fun _ => hu, fun c4 q4 => ⟨fun _ => trivial, fun c5 q5 => ⟨fun _ => trivial, fun c6 q6 => ⟨fun _ => trivial, fun c7 q7 _ _ => ⟨⟨fun _ => rfl, fun _ => ⟨⟨⟨⟨⟨q1.trans q2.symm, ?_⟩, q5.trans S1⟩, q6.trans S2⟩, S3⟩, q7.trans (ssB_self b n)⟩⟩, trivial⟩⟩⟩⟩⟩⟩⟩⟩
    rw [q3, q4]; cases evB b n l f m ask T <;> simp
  · rw [allI_succ i0, hi, Bool.true_and, ← hdf, ← h16]
    exact Classical.byContradiction h2
  have hdr : allI (drB d) k = true := by
    have : i = k := by omega
    rw [← this]; exact hi
  have hE0 : crE b n l f m ask T d k = 0 := by unfold crE; rw [if_pos hcc, if_pos hdr]
  have eK : K = (crF b n f ask T d k).k := by rw [hK]; unfold crK; rw [if_pos hE0]
  have eN : N = n := by rw [hN]; unfold crN; rw [if_pos hE0]
  have eo : o = (crF b n f ask T d k).o := ho
  have ea : a = (crF b n f ask T d k).a := ha
  have hT : T ≤ 300 := by omega
  have hd : ∀ u, 0 ≤ u → u < k → 0 ≤ d u 0 ∧ d u 0 ≤ 1099511627776 := fun u u0 u1 => by
    have := allI_at hdr u0 u1
    unfold drB at this
    exact of_decide_eq_true this
  have hb4 : ∀ q, 0 ≤ q → q < n → b q 4 ≤ 1000 := fun q q0 q1 => by have := cb q q0 q1; omega
  clear hi hdf h1 i0 i1
  refine ⟨by omega, fun _ => ?_⟩
  refine ⟨fun xs nx B nb O no R nr dr t => J1 f n ask d k b T xs nx B nb O no R nr dr t, fun _ _ _ _ _ _ _ _ _ t => (T - t).toNat, j1_zero (by omega) k0, ?_⟩
  rintro xs nx B nb O no R nr dr t ⟨t0, t1, ex, er, fr, br, rv, b0, b1⟩ _ _ nb0 nb1 no0 no1 _ _
  subst ex
  subst er
  refine ⟨fun ht => ?_, fun ht => ?_⟩
  · have hci : CI b n (crS f n ask d k (st0 b n) t.toNat) := ci_run n0 hd (fun q q0 q1 => by have := cb q q0 q1; omega) t.toNat
    have hsk : (crS f n ask d k (st0 b n) t.toNat).k ≤ 16 * ((t.toNat : Nat) : Int) := k_run n0 (by omega) t.toNat
    have hsucc : crS f n ask d k (st0 b n) (t + 1).toNat = slotF f n ask d k t (crS f n ask d k (st0 b n) t.toNat) := crS_succ t0
    generalize crS f n ask d k (st0 b n) t.toNat = s at fr br rv hci hsk hsucc
    have hnk := fr.nk
    refine ⟨by omega, fun _ => ⟨by omega, fun _ => ⟨by omega, fun _ => ⟨by omega, fun _ => ?_⟩⟩⟩⟩
    refine ⟨fun X i B' nb' => J2 s.a f n ask t nb X i B' nb', fun _ i _ _ => (n - i).toNat, ⟨Int.le_refl _, n0, ⟨fr.xr.h⟩, br.start, Int.le_refl _, by omega⟩, ?_⟩
    rintro X i B' nb' h2 nb'0 nb'1
    have i0 := h2.i0
    have i1 := h2.i1
    have b02 := h2.b0
    have b12 := h2.b1
    refine ⟨fun hi => ?_, fun hi => ?_⟩
    · have hkr := hci.rw i i0 hi
      have hcb := cb i i0 hi
      have hfr := hkr.fr
      have hX2 := h2.at hi (g := 2) (by omega)
      have hX4 := h2.at hi (g := 4) (by omega)
      have hX5 := h2.at hi (g := 5) (by omega)
      have hai := hkr.ai
      have hcn := chk_n hkr.ok
      refine ⟨trivial, fun v30 h30 => ⟨.inr i0, fun _ => ⟨.inr i0, fun _ => ⟨.inr i0, fun _ => ⟨.inr hi, fun _ => ⟨.inr i0, fun _ => ⟨.inr hi, fun _ => ?_⟩⟩⟩⟩⟩⟩⟩
      have hon : v30 = sdB s.a t i := by rw [h30]; exact br.on (by omega) (Int.le_refl _) i0 hi
      refine ⟨fun q fb => 0 ≤ q ∧ q ≤ n ∧ (fb = true ↔ (sdB s.a t i = false ∧ 0 < s.a i 4 ∧ s.a i 11 ≤ t ∧ ∀ z, 0 ≤ z → z < q → sdB s.a t z = true → f i z 0 = 0)), fun q _ => (n - q).toNat, ⟨by omega, n0, ?_⟩, ?_⟩
      · rw [hon, hX4, rv i i0 hi]
        constructor
        · intro h
          simp only [Bool.and_eq_true, Bool.not_eq_true', decide_eq_true_eq] at h
          exact ⟨h.1.1, h.1.2, h.2, fun z z0 z1 => by omega⟩
        · rintro ⟨x1, x2, x3, _⟩
          rw [x1, decide_eq_true x2, decide_eq_true x3]; rfl
      rintro q fb ⟨q0, q1, hq⟩
      refine ⟨fun hqn => ⟨.inr i0, fun _ => ⟨.inr (by omega), fun _ => ⟨.inr i0, fun _ => ⟨.inr (by omega), fun _ => ⟨.inr q0, fun _ => ⟨.inr (by omega), fun _ => ⟨.inr i0, fun _ => ⟨.inr (by omega), fun _ => ⟨.inr q0, fun _ => ⟨.inr (by omega), fun _ => ⟨fun _ => trivial, fun v33 h33 => ⟨by omega, fun _ => ⟨⟨by omega, by omega, ?_⟩, by dsimp only; omega⟩⟩⟩⟩⟩⟩⟩⟩⟩⟩⟩⟩⟩, fun hqn => ?_⟩
      · have hv : v33 = sdB s.a t q := by rw [h33]; exact br.on (by omega) (Int.le_refl _) q0 hqn
        rw [show rowA f i q 0 = f i q 0 from rfl, hv, Bool.and_eq_true, hq]
        constructor
        · rintro ⟨⟨x1, x2, x3, x4⟩, x5⟩
          refine ⟨x1, x2, x3, fun z z0 z1 hz => ?_⟩
          by_cases hzq : z = q
          · subst hzq
            by_cases h0 : f i z 0 = 0
            · exact h0
            · rw [hz, decide_eq_false h0] at x5; cases x5
          · exact x4 z z0 (by omega) hz
        · rintro ⟨x1, x2, x3, x4⟩
          refine ⟨⟨x1, x2, x3, fun z z0 z1 => x4 z z0 (by omega)⟩, ?_⟩
          cases hs2 : sdB s.a t q with
          | false => simp
          | true => rw [x4 q q0 (by omega) hs2]; rfl
      · have hqe : q = n := by omega
        rw [hqe] at hq
        have hG : fb = true ↔ Go1 s.a f n t i := hq.trans ⟨fun h => ⟨h.1, h.2.1, h.2.2.1, h.2.2.2⟩, fun h => ⟨h.idle, h.fr, h.rs, h.hr⟩⟩
        refine ⟨.inr i0, fun _ => ⟨.inr i0, fun _ => ⟨fun h3 => ?_, fun h3 => ⟨fun h4 => ?_, fun h4 => ⟨fun h5 => ?_, fun h5 => ?_⟩⟩⟩⟩⟩
        · exact ⟨i0, fun _ => ⟨by omega, fun _ => ⟨by omega, fun _ => ⟨h2.step hi hkr.ok (hG.1 h3.1) (by rw [← hX2]; exact h3.2), by dsimp only; omega⟩⟩⟩⟩
        · exact ⟨by omega, fun _ => ⟨by omega, fun _ => ⟨by omega, fun _ => ⟨by omega, fun _ => ⟨h2.send hi t0 nb'0 (by omega) (hG.1 h4.1) (fun hh => h3 ⟨h4.1, by rw [hX2]; exact hh⟩) (by simp [setA]) (by simp [setA]) (by rw [if_pos h4.2]; simp [setA]) (by simp [setA]) (by simp [setA, h4.2]), by dsimp only; omega⟩⟩⟩⟩⟩
        · have hna : ¬ ask = true := fun hh => h4 ⟨h5, hh⟩
          exact ⟨i0, fun _ => ⟨by omega, fun _ => ⟨by omega, fun _ => ⟨by omega, fun _ => fun _ => ⟨by omega, fun _ => ⟨h2.send hi t0 nb'0 (by omega) (hG.1 h5) (fun hh => h3 ⟨h5, by rw [hX2]; exact hh⟩) (by simp [setA]) (by simp [setA]) (by rw [if_neg hna, hX5]; simp [setA]) (by simp [setA]) (by simp [setA, hna]), by dsimp only; omega⟩⟩⟩⟩⟩⟩
        · exact ⟨by omega, fun _ => ⟨h2.same hi hfr.1 (fun g => h5 (hG.2 g)), by dsimp only; omega⟩⟩
    · have hin : i = n := by omega
      rw [hin] at h2
      obtain ⟨_, _, xr2, br2, _, _⟩ := h2
      have hkr : ∀ q, 0 ≤ q → q < n → KR b q (airA f n ask t (begN s.a f n ask t n.toNat) q) := fun q q0 q1 => (kr_air q0 q1 t0 (hci.rw q q0 q1)).1
      have hmid : CI b n { s with a := airA f n ask t (begN s.a f n ask t n.toNat) } := ci_mid t0 hci
      have c11 : ∀ q, 0 ≤ q → q < n → begN s.a f n ask t n.toNat q 11 = s.a q 11 := fun q q0 q1 => by
        rcases beg_hi (beg_row s.a f ask t q0 q1) with h | ⟨_, _, h⟩
        · exact h 11 (by omega)
        · exact h.ot 11 (by omega) (by omega) (by omega) (by omega)
      have hsl : crS f n ask d k (st0 b n) (t + 1).toNat = finN d k t { s with a := airA f n ask t (begN s.a f n ask t n.toNat) } n.toNat := hsucc
      generalize begN s.a f n ask t n.toNat = c at xr2 br2 hkr hmid c11 hsl
      have hy : ∀ q, 0 ≤ q → q < n → Air f n ask t c (airA f n ask t c) q := fun q q0 q1 => air_row f ask t c q0 q1
      have c5 : ∀ q, 0 ≤ q → q < n → c q 5 = b q 5 := fun q q0 q1 => by rw [← (hkr q q0 q1).ai, (hy q q0 q1).ot 5 (by omega) (by omega) (by omega) (by omega)]
      have c6 : ∀ q, 0 ≤ q → q < n → c q 6 = b q 6 := fun q q0 q1 => by rw [← (hkr q q0 q1).to, (hy q q0 q1).ot 6 (by omega) (by omega) (by omega) (by omega)]
      refine ⟨by omega, fun _ => ⟨by omega, fun _ => ⟨by omega, fun _ => ⟨by omega, fun _ => ?_⟩⟩⟩⟩
      refine ⟨fun e Z => 0 ≤ e ∧ e ≤ nb' ∧ Snn t (airA f n ask t c) B' Z e, fun e _ => (nb' - e).toNat, ⟨by omega, by omega, ⟨fun r r0 r1 => by omega, fun r _ => rfl, fun r => ⟨rfl, rfl, Iff.rfl⟩⟩⟩, ?_⟩
      rintro e Z ⟨e0, e1, hZ⟩
      refine ⟨fun he => ⟨e0, fun _ => ⟨fun h3 => ⟨by omega, fun _ => ⟨⟨by omega, by omega, hZ.skip ?_⟩, by dsimp only; omega⟩⟩, fun h3 => ?_⟩⟩, fun he => ?_⟩
      · intro h
        have hw := br2.who e e0 he
        have := (hZ.kp e).2.1
        omega
      · have hze : Z e = B' e := hZ.up e (Int.le_refl _)
        rw [hze] at h3
        rw [hze]
        have hlive : t < B' e 2 := by omega
        have hw := br2.who e e0 he
        have al := br2.al e e0 he hlive
        have xw6 : X (B' e 0) 6 = c (B' e 0) 6 := xr2.h _ 6 hw.1 hw.2.1 (by omega)
        have xw5 : X (B' e 0) 5 = c (B' e 0) 5 := xr2.h _ 5 hw.1 hw.2.1 (by omega)
        have w5 := c5 _ hw.1 hw.2.1
        have w6 := c6 _ hw.1 hw.2.1
        have hcb := cb _ hw.1 hw.2.1
        have hsd : sdB c t (B' e 0) = true := sd_iff.2 ⟨by omega, by omega⟩
        rw [xw6, xw5]
        have hR : R (c (B' e 0) 6) 0 = c (c (B' e 0) 6) 11 := by rw [rv _ (by omega) (by omega), c11 _ (by omega) (by omega)]
        refine ⟨⟨hw.1, hw.2.1, cm.symm, by omega, by omega, fun q q0 q1 => (cb q q0 (by omega)).1, t0, by omega⟩, fun v32 h32 => ?_⟩
        have hds : v32 = dsB c f n t (B' e 0) := by rw [h32]; exact br2.dis (by omega) (by omega)
        refine ⟨hw.1, fun _ => ⟨hw.2.1, fun _ => ⟨fun h4 => ?_, fun h4 => ⟨fun h5 => ?_, fun h5 => ?_⟩⟩⟩⟩
        · have hrq : rqB c ask t (B' e 0) = true := by unfold rqB; rw [h4.1, decide_eq_true (by rw [al.1]; exact h4.2)]; rfl
          refine ⟨.inr (by omega), fun _ => ⟨.inr (by omega), fun _ => ⟨.inr (by omega), fun _ => ⟨.inr (by omega), fun _ => ⟨fun h5 => ?_, fun h5 => ?_⟩⟩⟩⟩⟩
          · have hans : ansB c f n ask t (B' e 0) = true := by
              unfold ansB
              rw [hsd, hrq, ← hds, decide_eq_false (by rw [← hR]; omega)]
              cases v32 with
              | false => rfl
              | true => exact absurd rfl h5.1
            refine ⟨by omega, fun _ => ⟨by omega, fun _ => ⟨by omega, fun _ => ⟨⟨by omega, by omega, hZ.put (fun r hr => by rw [row_ne hr, row_ne hr, row_ne hr]) (by simp [row_at, hze]) (by simp [row_at, hze]) ?_ ?_⟩, by dsimp only; omega⟩⟩⟩⟩
            · rw [row_at, if_pos rfl]; omega
            · refine Ent.ans br2 hy e0 he hans hlive ?_ ?_ ?_ ?_ ?_
              · simp [row_at, hze]
              · simp [row_at, hze]
              · simp [row_at]
              · simp [row_at]
              · simp [row_at]
          · have hbad : badB c f n ask t (B' e 0) = true := by
              unfold badB
              rw [hsd, hrq, ← hds]
              cases v32 with
              | true => rfl
              | false => rw [decide_eq_true (by rw [← hR]; have h9 : ¬ R (c (B' e 0) 6) 0 ≤ t := fun hh => h5 ⟨Bool.false_ne_true, hh⟩; omega)]; rfl
            have hans : ¬ ansB c f n ask t (B' e 0) = true := fun hh => by
              have h6 := ans_req hh
              rw [← hds] at h6
              exact h5 ⟨by rw [h6.2.2.2.1]; exact Bool.false_ne_true, by rw [hR]; exact h6.2.2.2.2⟩
            have hx := br2.xx e e0 he hlive h4.2
            exact ⟨by omega, fun _ => ⟨⟨by omega, by omega, hZ.skip (Ent.not br2 hy e0 he hans hlive (by rw [hze]) (by rw [hze]) (by rw [hze]) (by rw [hze]) (.inl ⟨hbad, by rw [hze]; exact hx.2.2.2 h4.1⟩))⟩, by dsimp only; omega⟩⟩
        · have hans : ¬ ansB c f n ask t (B' e 0) = true := fun hh => by
            have h6 := ans_req hh
            exact h4 ⟨h6.1, by rw [← al.1]; exact h6.2.1⟩
          have hbad : badB c f n ask t (B' e 0) = true := by
            unfold badB
            rw [hsd, ← hds, h5]; rfl
          refine ⟨by omega, fun _ => ⟨⟨by omega, by omega, hZ.put (fun r hr => by rw [row_ne hr]) (by simp [row_at, hze]) (by simp [row_at, hze]) (by simp [row_at, hze]) (Ent.not br2 hy e0 he hans hlive ?_ ?_ ?_ ?_ (.inl ⟨hbad, ?_⟩))⟩, by dsimp only; omega⟩⟩
          · simp [row_at, hze]
          · simp [row_at, hze]
          · simp [row_at, hze]
          · simp [row_at, hze]
          · simp [row_at]
        · have hans : ¬ ansB c f n ask t (B' e 0) = true := fun hh => by
            have h6 := ans_req hh
            exact h4 ⟨h6.1, by rw [← al.1]; exact h6.2.1⟩
          have hbad : ¬ badB c f n ask t (B' e 0) = true := fun hh => by
            unfold badB rqB at hh
            rw [← hds] at hh
            simp only [Bool.and_eq_true, Bool.or_eq_true, decide_eq_true_eq] at hh
            rcases hh.2 with h6 | h6
            · exact h5 h6
            · exact h4 ⟨h6.1.1, by rw [← al.1]; exact h6.1.2⟩
          exact ⟨by omega, fun _ => ⟨⟨by omega, by omega, hZ.skip (Ent.not br2 hy e0 he hans hlive (by rw [hze]) (by rw [hze]) (by rw [hze]) (by rw [hze]) (.inr ⟨hbad, by rw [hze], h4⟩))⟩, by dsimp only; omega⟩⟩
      · have hen : e = nb' := by omega
        rw [hen] at hZ
        clear hen he e0 e1
        refine ⟨fun r S => 0 ≤ r ∧ r ≤ nb' ∧ J4 f n t c (airA f n ask t c) Z S r, fun r _ => (nb' - r).toNat, ⟨by omega, by omega, ⟨fun q q0 q1 => by rw [rv q q0 q1, c11 q q0 q1]; exact Int.le_refl _, fun q q0 q1 => by rw [rv q q0 q1, ← c11 q q0 q1]; exact (hy q q0 q1).rs, fun p p0 p1 => by omega⟩⟩, ?_⟩
        rintro r S ⟨r0, r1, h4⟩
        refine ⟨fun hr => ⟨r0, fun _ => ⟨fun h5 => ⟨by omega, fun _ => ⟨⟨by omega, by omega, h4.skip (fun hh => h5.elim (fun g => g hh.1) hh.2)⟩, by dsimp only; omega⟩⟩, fun h5 => ?_⟩⟩, fun hr => ?_⟩
        · have hz1 : Z r 1 = t := Classical.byContradiction fun hh => h5 (.inl hh)
          have hz3 : Z r 3 ≠ 0 := fun hh => h5 (.inr hh)
          have hw := br2.who r r0 hr
          rw [← (hZ.kp r).1] at hw
          have xw6 : X (Z r 0) 6 = c (Z r 0) 6 := xr2.h _ 6 hw.1 hw.2.1 (by omega)
          have w6 := c6 _ hw.1 hw.2.1
          have hcb := cb _ hw.1 hw.2.1
          rw [xw6]
          refine ⟨fun S' q => J5 f n t c (airA f n ask t c) Z S' r q, fun _ q => (n - q).toNat, ⟨Int.le_refl _, n0, h4, fun p p0 p1 => by omega⟩, ?_⟩
          rintro S' q h6
          have q0 := h6.q0
          refine ⟨fun hq => ?_, fun hq => ⟨by omega, fun _ => ⟨⟨by omega, by omega, h6.done hq⟩, by dsimp only; omega⟩⟩⟩
          have lq := (cb q q0 hq).1
          refine ⟨.inr q0, fun _ => ⟨.inr (by omega), fun _ => ⟨.inr q0, fun _ => ⟨.inr (by omega), fun _ => ⟨.inr hw.1, fun _ => ⟨.inr hw.2.1, fun _ => ⟨.inr hw.1, fun _ => ⟨.inr hw.2.1, fun _ => ⟨.inr (by omega), fun _ => ⟨.inr (by omega), fun _ => ⟨.inr q0, fun _ => ⟨.inr (by omega), fun _ => ⟨.inr (by omega), fun _ => ⟨.inr (by omega), fun _ => ⟨fun h7 => ?_, fun h7 => ?_⟩⟩⟩⟩⟩⟩⟩⟩⟩⟩⟩⟩⟩⟩⟩
          · exact ⟨q0, fun _ => ⟨by omega, fun _ => ⟨h6.put hq (due br2 hy hZ r0 hr hz1 hz3 q0 hq h7.1 h7.2), by dsimp only; omega⟩⟩⟩
          · exact ⟨by omega, fun _ => ⟨h6.skip hq h7, by dsimp only; omega⟩⟩
        · have hrn : r = nb' := by omega
          rw [hrn] at h4
          have hS : ∀ q, 0 ≤ q → q < n → S q 0 = airA f n ask t c q 11 := fun q q0 q1 => h4.fin br2 hZ q0 q1
          have brZ := hZ.fin br2 hy
          have xrY : XR n X (airA f n ask t c) := ⟨fun q g q0 q1 hg => by rw [(hy q q0 q1).ot g (by omega) (by omega) (by omega) (by omega)]; exact xr2.h q g q0 q1 hg⟩
          clear h4 hrn hr r0 r1 hZ br2 xr2
          generalize airA f n ask t c = y at hkr hmid hsl hy hS brZ xrY
          refine ⟨by omega, fun _ => ⟨by omega, fun _ => ?_⟩⟩
          refine ⟨fun X' O' no' dr' w => 0 ≤ w ∧ w ≤ n ∧ FinR n k (finN d k t { s with a := y } w.toNat) X' O' no' dr', fun _ _ _ _ w => (n - w).toNat, ⟨by omega, n0, ⟨xrY, fr.nk, fr.dk, fr.u, fr.ob, fr.k0⟩⟩, ?_⟩
          rintro X' O' no' dr' w ⟨w0, w1, h6⟩ no'0 no'1
          have hkat : (finN d k t { s with a := y } w.toNat).k ≤ s.k + ((w.toNat : Nat) : Int) := k_at (s := { s with a := y }) w.toNat
          have hnk' := h6.nk
          refine ⟨fun hw => ?_, fun hw => ?_⟩
          · have hci2 : CI b n (finN d k t { s with a := y } w.toNat) := ci_at hd hb4 t0 hmid w.toNat (by omega)
            have hfr : FR n t w y (finN d k t { s with a := y } w.toNat).a := by
              have := fr_at (n := n) (t := t) (d := d) (m := k) (s := { s with a := y }) w.toNat (by omega)
              rw [show ((w.toNat : Nat) : Int) = w by omega] at this
              exact this
            have hnx : finN d k t { s with a := y } (w + 1).toNat = finS d k t (finN d k t { s with a := y } w.toNat) w := finN_succ w0
            have hrow : (finN d k t { s with a := y } w.toNat).a w = y w := hfr.kp w w0 hw (.inl (Int.le_refl _))
            clear hfr
            generalize finN d k t { s with a := y } w.toNat = s2 at h6 hci2 hrow hkat hnk' hnx
            refine ⟨fun r X'' O'' no'' dr'' => 0 ≤ r ∧ r ≤ nb' ∧ ((FinR n k s2 X'' O'' no'' dr'' ∧ ∀ p, 0 ≤ p → p < r → ¬ (Z p 0 = w ∧ Z p 2 = t + 1)) ∨ (FinR n k (finS d k t s2 w) X'' O'' no'' dr'' ∧ ∃ p, 0 ≤ p ∧ p < r ∧ Z p 0 = w ∧ Z p 2 = t + 1)), fun r _ _ _ _ => (nb' - r).toNat, ⟨by omega, by omega, .inl ⟨h6, fun p p0 p1 => by omega⟩⟩, ?_⟩
            rintro r X'' O'' no'' dr'' ⟨r0, r1, h7⟩ no''0 no''1
            refine ⟨fun hr => ⟨r0, fun _ => ⟨.inr (by omega), fun _ => ⟨fun h8 => ⟨by omega, fun _ => ⟨⟨by omega, by omega, ?_⟩, by dsimp only; omega⟩⟩, fun h8 => ?_⟩⟩⟩, fun hr => ⟨by omega, fun _ => ⟨⟨by omega, by omega, ?_⟩, by dsimp only; omega⟩⟩⟩
            · rcases h7 with ⟨h7, hp⟩ | ⟨h7, p, p0, p1, hp⟩
              · refine .inl ⟨h7, fun p p0 p1 hh => ?_⟩
                by_cases hpr : p = r
                · subst hpr
                  exact h8.elim (fun g => g hh.1) (fun g => g hh.2)
                · exact hp p p0 (by omega) hh
              · exact .inr ⟨h7, p, p0, by omega, hp⟩
            · have hz0 : Z r 0 = w := Classical.byContradiction fun hh => h8 (.inl hh)
              have hz2 : Z r 2 = t + 1 := Classical.byContradiction fun hh => h8 (.inr hh)
              have h7 : FinR n k s2 X'' O'' no'' dr'' := by
                rcases h7 with ⟨h7, _⟩ | ⟨_, p, p0, p1, hp0, hp2⟩
                · exact h7
                · exact absurd (hp0.trans hz0.symm) (brZ.un p r p0 p1 hr (by omega) (by omega))
              have al := brZ.al r r0 hr (by omega)
              have gd := brZ.gd r r0 hr (by omega) (fun hh => hh)
              rw [hz0, ← hrow] at al gd
              have hz : Z1 n t s2 Z r w := ⟨w0, hw, hz0, hz2, al.1, al.2.1, al.2.2, gd⟩
              have hkr2 := hci2.rw w w0 hw
              have x4 := h7.xr.h w 4 w0 hw (by omega)
              have x0 := h7.xr.h w 0 w0 hw (by omega)
              have hca := hkr2.ca
              have hf4 := hkr2.fr
              have hcb := cb w w0 hw
              have hu0 := hu.h w w0 hw
              have dr0 : 0 ≤ dr'' := by rw [h7.dk]; exact h7.k0
              have hdd := h7.dk
              have hnk2 := h7.nk
              have q1 : 0 ≤ r + 1 := by omega
              have q2 : r + 1 ≤ nb' := by omega
              have q3 : r < r + 1 := by omega
              have q4 : (nb' - (r + 1)).toNat < (nb' - r).toNat := by omega
              have q5 : -9223372036854775808 ≤ X'' w 4 - 1 ∧ X'' w 4 - 1 ≤ 9223372036854775807 := by omega
              have q7 : no'' + 1 ≤ 140737488355328 := by omega
              have q6 : (no'' + 1) * 32 ≤ 140737488355328 := by omega
              have q8 : -9223372036854775808 ≤ r + 1 ∧ r + 1 ≤ 9223372036854775807 := by omega
              have q9 : 0 ≤ X'' w 0 ∧ X'' w 0 ≤ 255 := by omega
              have qa : -9223372036854775808 ≤ dr'' + 1 ∧ dr'' + 1 ≤ 9223372036854775807 := by omega
              refine ⟨fun h9 => ⟨dr0, fun _ => ⟨qa, fun _ => ⟨fun h10 => ?_, fun h10 => ?_⟩⟩⟩, fun h9 => ⟨qa, fun _ => ⟨fun h10 => ?_, fun h10 => ?_⟩⟩⟩
              · refine ⟨w0, fun _ => ⟨⟨q9.1, q9.2, by decide, by decide⟩, fun z0 z1 z2 z3 z4 z5 y0 y1 y2 y3 y4 y5 => ?_⟩⟩
                have hev : (2 : Int) = if ¬ Z r 4 = 0 then 2 else 3 := by rw [if_pos h10]
                have hdv : (d dr'' 0 : Int) = if dr'' < k then d dr'' 0 else 0 := by rw [if_pos h9]
                exact ⟨fun h11 => ⟨q5, fun _ => ⟨q6, fun _ => ⟨q7, fun _ => ⟨q8, fun _ => ⟨⟨q1, q2, .inr ⟨fin_one h7 hz k0 hev hdv y0 y1 y2 y3 y4 (.inl ⟨h11, rfl⟩), r, r0, q3, hz.z0, hz.z2⟩⟩, q4⟩⟩⟩⟩⟩, fun h11 => ⟨q6, fun _ => ⟨q7, fun _ => ⟨q8, fun _ => ⟨⟨q1, q2, .inr ⟨fin_one h7 hz k0 hev hdv y0 y1 y2 y3 y4 (.inr ⟨h11, rfl⟩), r, r0, q3, hz.z0, hz.z2⟩⟩, q4⟩⟩⟩⟩⟩
              · refine ⟨w0, fun _ => ⟨⟨q9.1, q9.2, by decide, by decide⟩, fun z0 z1 z2 z3 z4 z5 y0 y1 y2 y3 y4 y5 => ?_⟩⟩
                have hev : (3 : Int) = if ¬ Z r 4 = 0 then 2 else 3 := by rw [if_neg h10]
                have hdv : (d dr'' 0 : Int) = if dr'' < k then d dr'' 0 else 0 := by rw [if_pos h9]
                exact ⟨fun h11 => ⟨q5, fun _ => ⟨q6, fun _ => ⟨q7, fun _ => ⟨q8, fun _ => ⟨⟨q1, q2, .inr ⟨fin_one h7 hz k0 hev hdv y0 y1 y2 y3 y4 (.inl ⟨h11, rfl⟩), r, r0, q3, hz.z0, hz.z2⟩⟩, q4⟩⟩⟩⟩⟩, fun h11 => ⟨q6, fun _ => ⟨q7, fun _ => ⟨q8, fun _ => ⟨⟨q1, q2, .inr ⟨fin_one h7 hz k0 hev hdv y0 y1 y2 y3 y4 (.inr ⟨h11, rfl⟩), r, r0, q3, hz.z0, hz.z2⟩⟩, q4⟩⟩⟩⟩⟩
              · refine ⟨w0, fun _ => ⟨⟨q9.1, q9.2, by decide, by decide⟩, fun z0 z1 z2 z3 z4 z5 y0 y1 y2 y3 y4 y5 => ?_⟩⟩
                have hev : (2 : Int) = if ¬ Z r 4 = 0 then 2 else 3 := by rw [if_pos h10]
                have hdv : (0 : Int) = if dr'' < k then d dr'' 0 else 0 := by rw [if_neg h9]
                exact ⟨fun h11 => ⟨q5, fun _ => ⟨q6, fun _ => ⟨q7, fun _ => ⟨q8, fun _ => ⟨⟨q1, q2, .inr ⟨fin_one h7 hz k0 hev hdv y0 y1 y2 y3 y4 (.inl ⟨h11, rfl⟩), r, r0, q3, hz.z0, hz.z2⟩⟩, q4⟩⟩⟩⟩⟩, fun h11 => ⟨q6, fun _ => ⟨q7, fun _ => ⟨q8, fun _ => ⟨⟨q1, q2, .inr ⟨fin_one h7 hz k0 hev hdv y0 y1 y2 y3 y4 (.inr ⟨h11, rfl⟩), r, r0, q3, hz.z0, hz.z2⟩⟩, q4⟩⟩⟩⟩⟩
              · refine ⟨w0, fun _ => ⟨⟨q9.1, q9.2, by decide, by decide⟩, fun z0 z1 z2 z3 z4 z5 y0 y1 y2 y3 y4 y5 => ?_⟩⟩
                have hev : (3 : Int) = if ¬ Z r 4 = 0 then 2 else 3 := by rw [if_neg h10]
                have hdv : (0 : Int) = if dr'' < k then d dr'' 0 else 0 := by rw [if_neg h9]
                exact ⟨fun h11 => ⟨q5, fun _ => ⟨q6, fun _ => ⟨q7, fun _ => ⟨q8, fun _ => ⟨⟨q1, q2, .inr ⟨fin_one h7 hz k0 hev hdv y0 y1 y2 y3 y4 (.inl ⟨h11, rfl⟩), r, r0, q3, hz.z0, hz.z2⟩⟩, q4⟩⟩⟩⟩⟩, fun h11 => ⟨q6, fun _ => ⟨q7, fun _ => ⟨q8, fun _ => ⟨⟨q1, q2, .inr ⟨fin_one h7 hz k0 hev hdv y0 y1 y2 y3 y4 (.inr ⟨h11, rfl⟩), r, r0, q3, hz.z0, hz.z2⟩⟩, q4⟩⟩⟩⟩⟩
            · show FinR n k (finN d k t { s with a := y } (w + 1).toNat) X'' O'' no'' dr''
              rw [hnx]
              rcases h7 with ⟨h7, hp⟩ | ⟨h7, _⟩
              · have h8 : ¬ s2.a w 8 = t + 1 := fun hh => by
                  rw [hrow] at hh
                  obtain ⟨p, p0, p1, hp0, hp2⟩ := brZ.ex w w0 hw (by omega)
                  have al := brZ.al p p0 p1 hp2
                  rw [hp0] at al
                  exact hp p p0 (by omega) ⟨hp0, by omega⟩
                unfold finS
                rw [if_neg h8]
                exact h7
              · exact h7
          · have hwn : w = n := by omega
            rw [hwn] at h6
            have hfr : FR n t n y (finN d k t { s with a := y } n.toNat).a := by
              have := fr_at (n := n) (t := t) (d := d) (m := k) (s := { s with a := y }) n.toNat (by omega)
              rw [show ((n.toNat : Nat) : Int) = n by omega] at this
              exact this
            have brF := brZ.finish t0 hfr
            have rvF : ∀ q, 0 ≤ q → q < n → S q 0 = (finN d k t { s with a := y } n.toNat).a q 11 := fun q q0 q1 => by
              rw [hS q q0 q1]
              by_cases h8 : y q 8 = t + 1
              · exact ((hfr.dn q q0 q1 q1 h8).2 11 (by omega) (by omega)).symm
              · rw [hfr.kp q q0 q1 (.inr h8)]
            rw [← hsl] at h6 brF rvF
            refine ⟨fun h9 => ?_, fun h9 => ⟨by omega, fun _ => ⟨⟨by omega, by omega, rfl, rfl, h6, brF, rvF, by omega, by omega⟩, by dsimp only; omega⟩⟩⟩
            refine ⟨fun L p r => 0 ≤ r ∧ r ≤ nb' ∧ p ≤ r ∧ KE (t + 1) Z L r p, fun _ _ r => (nb' - r).toNat, ⟨by omega, by omega, by omega, ⟨Int.le_refl _, fun q q0 q1 => by omega, fun r r0 r1 => by omega, fun q q' q0 hq q1 => by omega⟩⟩, ?_⟩
            rintro L p r ⟨r0, r1, pr, h10⟩ p0 p1
            refine ⟨fun hr => ⟨r0, fun _ => ⟨by omega, fun _ => ⟨fun h11 => ⟨by omega, fun _ => ⟨by omega, fun _ => ⟨by omega, fun _ => ⟨⟨by omega, by omega, by omega, h10.put r0 h11 (fun q q0 q1 hq => brF.un q r q0 q1 hr hq h11) (by simp [setA]) (by simp [setA]) (by simp [setA]) ?_ ?_⟩, by dsimp only; omega⟩⟩⟩⟩, fun h11 => ⟨by omega, fun _ => ⟨⟨by omega, by omega, by omega, h10.skip h11⟩, by dsimp only; omega⟩⟩⟩⟩⟩, fun hr => ⟨by omega, fun _ => ⟨⟨by omega, by omega, rfl, rfl, h6, ?_, rvF, by omega, by omega⟩, by dsimp only; omega⟩⟩⟩
            · by_cases h3 : Z r 3 = 0 <;> simp [setA, h3]
            · by_cases h3 : Z r 4 = 0 <;> simp [setA, h3]
            · have hrn : r = nb' := by omega
              rw [hrn] at h10
              exact brF.keep h10
  · have hTt : t = T := by omega
    have hF : crS f n ask d k (st0 b n) t.toNat = crF b n f ask T d k := by rw [hTt]; rfl
    rw [hF] at fr
    have S1 : sbB o K O no = true := by
      unfold sbB
      rw [eK, ← fr.nk, decide_eq_true rfl, Bool.true_and, eo]
      exact allI_of fun r r0 r1 => fr.ob r r0 r1
    have S2 : ssB a N xs n = true := by
      unfold ssB
      rw [eN, decide_eq_true rfl, Bool.true_and, ea]
      refine allI_of fun r r0 r1 => ?_
      have hx := fun g hg => (fr.xr.h r g r0 r1 hg).symm
      unfold ssR
      exact decide_eq_true ⟨hx 0 (by omega), hx 1 (by omega), hx 2 (by omega), hx 3 (by omega), hx 4 (by omega), hx 5 (by omega), hx 6 (by omega)⟩
    have S3 : E = 0 := hE.trans hE0
    refine ⟨hu, fun c1 q1 => ⟨hu, fun c2 q2 => ⟨fun _ => hu, fun c3 q3 => ⟨fun _ => hu, fun c4 q4 => ⟨fun _ => trivial, fun c5 q5 => ⟨fun _ => trivial, fun c6 q6 => ⟨fun _ => trivial, fun c7 q7 _ _ => ⟨⟨fun _ => rfl, fun _ => ⟨⟨⟨⟨⟨q1.trans q2.symm, ?_⟩, q5.trans S1⟩, q6.trans S2⟩, S3⟩, q7.trans (ssB_self b n)⟩⟩, trivial⟩⟩⟩⟩⟩⟩⟩⟩
    rw [q3, q4]; cases evB b n l f m ask T <;> simp
end Go.Proofs.YtkagcjibneigdaaDoor
