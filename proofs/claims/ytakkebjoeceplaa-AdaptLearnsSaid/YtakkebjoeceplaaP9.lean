/- AdaptLearns: what is left to show. -/
import Derived.Test.YtakkebjoeceplaaP7
import Derived.Test.YtakkebjoeceplaaC9
namespace Go.Proofs.Ytakkebjoeceplaa
open Go Go.RowKit Go.Proofs.Ytakkebjoeceplaa.Vc
def lowN : Nat → Int
  | 0 => 0
  | k + 1 => (3 * lowN k + 1000) / 4
def lowL (t : Int) : Int := lowN t.toNat
theorem lowL_succ {t : Int} (h : 0 ≤ t) : lowL (t + 1) = (3 * lowL t + 1000) / 4 := by
  unfold lowL
  obtain ⟨k, rfl⟩ := Int.eq_ofNat_of_zero_le h
  rw [show ((k : Int) + 1).toNat = k + 1 by omega, show ((k : Int)).toNat = k by omega]
  rfl
theorem lowL_22 : lowL 22 = 997 := by decide
theorem okR_tg {a b : Int → Nat → Int} {j : Int} (h : okR a j = true) (h0 : b j 0 = a j 0) (h3 : b j 3 = a j 3) (h4 : b j 4 = a j 4) (t0 : 0 ≤ b j 2) (t1 : b j 2 ≤ b j 1) (t2 : b j 1 ≤ 10000) : okR b j = true := by
  have k : knB b j = knB a j := by unfold knB; rw [h4]
  have h1 := okZ_iff.1 (show okZ (a j 0) (a j 1) (a j 2) (a j 3) (knB a j) = true from h)
  show okZ (b j 0) (b j 1) (b j 2) (b j 3) (knB b j) = true
  rw [okZ_iff, k, h0, h3]
  exact ⟨h1.1, h1.2.1, by omega, t2, t0, t1, h1.2.2.2.2.2.2.1, h1.2.2.2.2.2.2.2.1, h1.2.2.2.2.2.2.2.2⟩
theorem rdC_full {x c : Int} {kn : Bool} (hx : 0 < x) (hc : 0 ≤ c) : rdC x x c kn = if kn = true then (3 * c + 1000) / 4 else 1000 := by
  have e : Int.tdiv (1000 * x) x = 1000 := Int.mul_tdiv_cancel _ (by omega)
  unfold rdC
  rw [if_neg (by omega), e, Int.tdiv_eq_ediv_of_nonneg (by omega)]
structure L0 (a b : Int → Nat → Int) (n i : Int) : Prop where
  lo : 0 ≤ i
  hi : i ≤ n
  s : ∀ (j : Int) (g : Nat), b j g = if 0 ≤ j ∧ j < i ∧ (g = 1 ∨ g = 2) then 0 else a j g
theorem L0.step {a b : Int → Nat → Int} {n i : Int} (h : L0 a b n i) (hi : i < n) : L0 a (setA (setA b i 1 0) i 2 0) n (i + 1) := by
  have lo := h.lo
  refine ⟨by omega, by omega, fun j g => ?_⟩
  rw [set_row, set_row, h.s j g]
  grind
structure L1 (b : Int → Nat → Int) (n r who : Int) (a : Int → Nat → Int) (m R q t : Int) : Prop where
  em : m = n
  eR : R = r + t
  t0 : 0 ≤ t
  t1 : t ≤ 22
  q0 : 0 ≤ q
  ck : ckA a n R = 0
  z : ∀ j, 0 ≤ j → j < n → a j 1 = 0 ∧ a j 2 = 0
  un : b who 4 = 0 → (t = 0 → a who 4 = 0) ∧ (0 < t → a who 3 = 1000 ∧ a who 4 ≠ 0)
  kn : b who 4 ≠ 0 → a who 4 ≠ 0 ∧ lowL t ≤ a who 3
structure L2 (a : Int → Nat → Int) (n R who x : Int) (b : Int → Nat → Int) (m R' q i : Int) : Prop where
  em : m = n
  eR : R' = R
  i0 : 0 ≤ i
  i1 : i ≤ n
  q0 : 0 ≤ q
  ck : ckA b n R = 0
  s : ∀ j, 0 ≤ j → j < n → b j 0 = a j 0 ∧ b j 3 = a j 3 ∧ b j 4 = a j 4
  z : ∀ j, i ≤ j → j < n → b j 1 = 0 ∧ b j 2 = 0
  w : who < i → b who 1 = x ∧ b who 2 = x
theorem L2.step {a : Int → Nat → Int} {n R who x : Int} {b : Int → Nat → Int} {q i q' T G : Int} (h : L2 a n R who x b n R q i) (hi : i < n) (hT : T ≤ 10000) (hG : 0 ≤ G) (hGT : G ≤ T) (hw : i = who → T = x ∧ G = x) (hq : 0 ≤ q') :
    rpE b n R i T G = 0 ∧ rpN b n R i T G = n ∧ L2 a n R who x (rpA b i T G) (rpN b n R i T G) (rpR b n R i T G) q' (i + 1) := by
  have i0 := h.i0
  have hz := h.z i (by omega) hi
  have e := rp_e0 (t := T) (go := G) (rate := i) h.ck ⟨h.i0, hi, by omega, hT, hG, hGT⟩ (by omega)
  have rw' : ∀ (j : Int) (g : Nat), rpA b i T G j g = if j = i ∧ g = 2 then b j g + G else if j = i ∧ g = 1 then b j g + T else b j g := fun j g => rfl
  have r0 : ∀ j : Int, rpA b i T G j 0 = b j 0 := fun j => by rw [rw']; simp
  have r3 : ∀ j : Int, rpA b i T G j 3 = b j 3 := fun j => by rw [rw']; simp
  have r4 : ∀ j : Int, rpA b i T G j 4 = b j 4 := fun j => by rw [rw']; simp
  have r1 : rpA b i T G i 1 = T := by rw [rw']; simp; omega
  have r2 : rpA b i T G i 2 = G := by rw [rw']; simp; omega
  have rj : ∀ (j : Int) (g : Nat), j ≠ i → rpA b i T G j g = b j g := fun j g hj => by rw [rw']; simp [hj]
  refine ⟨e.1, e.2.1, e.2.1, e.2.2, by omega, by omega, hq, ?_, fun j j0 j1 => ?_, fun j j0 j1 => ?_, fun hlt => ?_⟩
  · obtain ⟨p1, p2, p3, p4, p5⟩ := ck_ok.1 h.ck
    refine ck_ok.2 ⟨p1, p2, p3, p4, fun j j0 j1 => ?_⟩
    have hr := ck_row h.ck j j0 j1
    refine okR_tg (p5 j j0 j1) (r0 j) (r3 j) (r4 j) ?_ ?_ ?_
    · by_cases hj : j = i
      · rw [hj, r2]; exact hG
      · rw [rj j 2 hj]; omega
    · by_cases hj : j = i
      · rw [hj, r2, r1]; exact hGT
      · rw [rj j 2 hj, rj j 1 hj]; omega
    · by_cases hj : j = i
      · rw [hj, r1]; exact hT
      · rw [rj j 1 hj]; omega
  · rw [r0, r3, r4]; exact h.s j j0 j1
  · rw [rj j 1 (by omega), rj j 2 (by omega)]; exact h.z j (by omega) j1
  · by_cases hj : who = i
    · rw [hj, r1, r2]; exact hw hj.symm
    · rw [rj who 1 hj, rj who 2 hj]; exact h.w (by omega)
theorem good_le {x k : Int} (h0 : 0 ≤ x) (h1 : x ≤ 255) (hk : 0 ≤ k) : 0 ≤ x * Int.tmod k 5 ∧ x * Int.tmod k 5 ≤ 1020 ∧ 0 ≤ Int.tdiv (x * Int.tmod k 5) 5 ∧ Int.tdiv (x * Int.tmod k 5) 5 ≤ x := by
  rw [Int.tmod_eq_emod_of_nonneg hk]
  have m0 : 0 ≤ k % 5 := Int.emod_nonneg _ (by omega)
  have m1 : k % 5 ≤ 4 := by omega
  have p0 := Int.mul_nonneg h0 m0
  have p1 := Int.mul_le_mul_of_nonneg_left m1 h0
  rw [Int.tdiv_eq_ediv_of_nonneg p0]
  omega
set_option maxHeartbeats 1000000 in
theorem vc6 : VC6 := by
  intro a n r who tr nt ot no ⟨hT, hO⟩
  refine fun n0 nt0 no0 => ⟨trivial, fun v8 h8 n1 nt1 no1 => ⟨fun _ => trivial, fun v9 h9 => ⟨fun _ => ⟨by simp [h8], trivial⟩, fun hg => ?_⟩⟩⟩
  have hg' : n ≤ 16 ∧ 0 ≤ who ∧ who < n ∧ nt = 22 ∧ ckA a n r = 0 ∧ r ≤ 1000000 := by grind
  clear hg h9 v9
  obtain ⟨g1, g2, g3, g4, hck, g5⟩ := hg'
  have hn := ck_n hck
  refine ⟨by omega, fun v10 v11 v12 h10 h11 h12 => ?_⟩
  rw [h10, h11, h12]
  clear h10 h11 h12
  intro _
  refine ⟨fun b i => L0 a b n i, fun _ i => (n - i).toNat, ⟨by omega, by omega, fun j g => by rw [if_neg (by omega)]⟩, ?_⟩
  intro b i hI _
  refine ⟨fun hlt => ⟨hI.lo, fun _ => ⟨by omega, fun _ => ⟨hI.step hlt, ?_⟩⟩⟩, fun hge => ?_⟩
  · show (n - (i + 1)).toNat < (n - i).toNat
    omega
  have hz : ∀ j, 0 ≤ j → j < n → b j 1 = 0 ∧ b j 2 = 0 ∧ b j 0 = a j 0 ∧ b j 3 = a j 3 ∧ b j 4 = a j 4 := fun j j0 j1 => by
    refine ⟨?_, ?_, ?_, ?_, ?_⟩
    · rw [hI.s j 1, if_pos ⟨j0, by omega, .inl rfl⟩]
    · rw [hI.s j 2, if_pos ⟨j0, by omega, .inr rfl⟩]
    · rw [hI.s j 0, if_neg (by omega)]
    · rw [hI.s j 3, if_neg (by omega)]
    · rw [hI.s j 4, if_neg (by omega)]
  clear hI
  have hcb : ckA b n r = 0 := by
    obtain ⟨p1, p2, p3, p4, p5⟩ := ck_ok.1 hck
    refine ck_ok.2 ⟨p1, p2, p3, p4, fun j j0 j1 => ?_⟩
    have h := hz j j0 j1
    exact okR_tg (p5 j j0 j1) h.2.2.1 h.2.2.2.1 h.2.2.2.2 (by omega) (by omega) (by omega)
  refine ⟨g2, fun _ => ⟨g3, fun _ => ?_⟩⟩
  refine ⟨fun a1 m R q t => L1 b n r who a1 m R q t, fun _ _ _ _ t => (22 - t).toNat, ⟨rfl, by omega, by omega, by omega, by omega, hcb, fun j j0 j1 => ⟨(hz j j0 j1).1, (hz j j0 j1).2.1⟩, fun h => ⟨fun _ => h, fun h => by omega⟩, fun h => ⟨h, (ck_row hcb who g2 g3).2.2.2.2.2.2.1⟩⟩, ?_⟩
  intro a1 m R q t hI1
  have em := hI1.em
  have eR := hI1.eR
  have t0 := hI1.t0
  have t1 := hI1.t1
  rw [em] at hI1 ⊢
  clear em
  intro _ _
  have hrow := ck_row hI1.ck who g2 g3
  refine ⟨fun hlt => ?_, fun hge => ?_⟩
  · have hx := hT t t0 (by omega)
    refine ⟨fun a2 m R' q i => L2 a1 n R who (1 + tr t 0) a2 m R' q i, fun _ _ _ _ i => (n - i).toNat, ⟨rfl, rfl, by omega, by omega, hI1.q0, hI1.ck, fun j _ _ => ⟨rfl, rfl, rfl⟩, fun j j0 j1 => hI1.z j j0 j1, fun h => by omega⟩, ?_⟩
    intro a2 m2 R2 q2 i hI2
    have em := hI2.em
    have eR2 := hI2.eR
    rw [em, eR2] at hI2 ⊢
    clear em eR2
    have i0 := hI2.i0
    have q0 := hI2.q0
    intro _ _
    refine ⟨fun hi => ?_, fun hi => ?_⟩
    · refine ⟨t0, fun _ => ⟨by omega, fun _ => ⟨by omega, fun _ => ⟨by omega, fun _ => ⟨fun hne => ⟨fun hq => ?_, fun hq => ?_⟩, fun heq => ?_⟩⟩⟩⟩⟩
      · have ho := hO q2 q0 hq
        have hgd := @good_le (ot q2 0) q2 ho.1 ho.2 q0
        refine ⟨q0, fun _ => ⟨by omega, fun _ => ⟨by omega, fun _ => ⟨by omega, fun _ => ⟨by omega, fun _ => ⟨trivial, fun x1 x2 x3 x4 h1 h2 h3 h4 _ _ => ?_⟩⟩⟩⟩⟩⟩
        have st := hI2.step (q' := q2 + 1) (T := ot q2 0) (G := Int.tdiv (ot q2 0 * Int.tmod q2 5) 5) hi (by omega) hgd.2.2.1 hgd.2.2.2 (fun h => absurd h hne) (by omega)
        refine ⟨fun hb => ?_, fun _ => ⟨by omega, fun _ => ⟨?_, ?_⟩⟩⟩
        · rw [h4, h2, st.1, st.2.1] at hb; simp at hb
        · rw [h1, h2, h3]; exact st.2.2
        · show (n - (i + 1)).toNat < (n - i).toNat
          omega
      · refine ⟨trivial, fun x1 x2 x3 x4 h1 h2 h3 h4 _ _ => ?_⟩
        have st := hI2.step (q' := q2) (T := 0) (G := 0) hi (by omega) (by omega) (by omega) (fun h => absurd h hne) q0
        refine ⟨fun hb => ?_, fun _ => ⟨by omega, fun _ => ⟨?_, ?_⟩⟩⟩
        · rw [h4, h2, st.1, st.2.1] at hb; simp at hb
        · rw [h1, h2, h3]; exact st.2.2
        · show (n - (i + 1)).toNat < (n - i).toNat
          omega
      · refine ⟨trivial, fun x1 x2 x3 x4 h1 h2 h3 h4 _ _ => ?_⟩
        have st := hI2.step (q' := q2) (T := 1 + tr t 0) (G := 1 + tr t 0) hi (by omega) (by omega) (by omega) (fun h => ⟨rfl, rfl⟩) q0
        refine ⟨fun hb => ?_, fun _ => ⟨by omega, fun _ => ⟨?_, ?_⟩⟩⟩
        · rw [h4, h2, st.1, st.2.1] at hb; simp at hb
        · rw [h1, h2, h3]; exact st.2.2
        · show (n - (i + 1)).toNat < (n - i).toNat
          omega
    · have rd := rd_e0 hI2.ck (show R < 1099511627776 by omega)
      have hs := hI2.s who g2 g3
      have hw := hI2.w (by omega)
      have ec : rdP a2 who 3 = if knB a2 who = true then (3 * a1 who 3 + 1000) / 4 else 1000 := by
        show rdC (a2 who 1) (a2 who 2) (a2 who 3) (knB a2 who) = _
        rw [hw.1, hw.2, hs.2.1, rdC_full (by omega) (by omega)]
      have ek : rdP a2 who 4 = 1 := by
        show (if rdK (a2 who 1) (knB a2 who) = true then (1 : Int) else 0) = 1
        have : rdK (a2 who 1) (knB a2 who) = true := by unfold rdK; rw [hw.1]; simp; omega
        rw [if_pos this]
      have kb : knB a2 who = !(decide (a1 who 4 = 0)) := by unfold knB; rw [hs.2.2]
      have F1 : a1 who 3 ≤ rdP a2 who 3 := by rw [ec]; split <;> omega
      have F2 : b who 4 = 0 → rdP a2 who 3 = 1000 := fun hb => by
        have hu := hI1.un hb
        rw [ec, kb]
        by_cases ht : t = 0
        · rw [hu.1 ht]; rfl
        · have := hu.2 (by omega)
          rw [this.1]; split <;> omega
      have F3 : b who 4 ≠ 0 → lowL (t + 1) ≤ rdP a2 who 3 := fun hb => by
        have hk := hI1.kn hb
        rw [ec, kb, lowL_succ t0, if_pos (by simp [hk.1])]
        omega
      refine ⟨trivial, fun x1 x2 x3 x4 h1 h2 h3 h4 => ?_⟩
      rw [rd.2.1] at h2
      rw [rd.2.2] at h3
      rw [rd.1] at h4
      rw [h1, h2, h3, h4]
      intro _
      refine ⟨.inr g3, fun _ => ⟨.inr g3, fun _ => ⟨.inr g3, fun _ => ⟨.inr g3, fun _ => ⟨.inr g3, fun _ => ⟨.inr g3, fun _ => ⟨.inr g3, fun _ => ⟨.inr g3, fun _ _ => ⟨fun hbad => ?_, fun _ => ⟨by omega, fun _ => ⟨?_, ?_⟩⟩⟩⟩⟩⟩⟩⟩⟩⟩⟩
      · exfalso
        rw [hs.2.1] at hbad
        rcases hbad with ((((h | h) | h) | h) | h)
        · exact h rfl
        · exact h rfl
        · omega
        · have := F2 h.1; omega
        · exact h.2 (F2 h.1.2)
      · refine ⟨rfl, by omega, by omega, by omega, q0, ck_round hI2.ck (by omega), fun j _ _ => ⟨rfl, rfl⟩, fun hb => ⟨fun h => by omega, fun _ => ⟨F2 hb, by rw [ek]; omega⟩⟩, fun hb => ⟨by rw [ek]; omega, F3 hb⟩⟩
      · show (22 - (t + 1)).toNat < (22 - t).toNat
        omega
  · have et : t = 22 := by omega
    have hc := hI1.ck
    have hch := ch0_spec hc
    have c997 : 997 ≤ a1 who 3 := by
      by_cases hb : b who 4 = 0
      · have := (hI1.un hb).2 (by omega); omega
      · have := (hI1.kn hb).2; rw [et, lowL_22] at this; exact this
    have vE : ∀ k : Int, 0 ≤ k → k < n → vuE a1 n R k = 0 := fun k k0 k1 => by unfold vuE; rw [if_pos hc, if_pos ⟨k0, k1⟩]
    have vV : ∀ k : Int, 0 ≤ k → k < n → vuV a1 n R k = vlR a1 k := fun k k0 k1 => by unfold vuV; rw [if_pos (vE k k0 k1)]
    have hbest := (hch.2.2 who g2 g3).1
    have hv : Int.tdiv 99700000 (a1 who 0) ≤ vlR a1 who := by
      show _ ≤ vlA (a1 who 0) (a1 who 3)
      unfold vlA
      rw [if_neg (by omega), Int.tdiv_eq_ediv_of_nonneg (by omega), Int.tdiv_eq_ediv_of_nonneg (by omega)]
      exact Int.ediv_le_ediv (by omega) (by omega)
    have htd := @tdiv_bd 99700000 (a1 who 0) (by omega) (by omega)
    refine ⟨g3, fun _ => ⟨fun h => by omega, fun _ => ⟨trivial, fun x0 x1 x2 x3 x4 h0 h1 h2 h3 h4 => ⟨trivial, fun x5 x6 h5 h6 => ⟨trivial, fun x7 x8 h7 h8' => ⟨.inr (by omega), fun _ => ⟨.inr (by omega), fun _ => ⟨⟨fun _ => rfl, fun _ => ?_⟩, trivial⟩⟩⟩⟩⟩⟩⟩⟩
    rw [h4, h5, h6, h7, h8', h0, vE who g2 g3, vV who g2 g3, vE _ hch.1 hch.2.1, vV _ hch.1 hch.2.1]
    exact ⟨⟨⟨⟨⟨⟨⟨h8, c997⟩, hrow.2.2.2.2.2.2.2.1⟩, hc⟩, rfl⟩, rfl⟩, hbest⟩, hv⟩
end Go.Proofs.Ytakkebjoeceplaa
