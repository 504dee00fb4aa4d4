/- The reference's contests against those of the program: one slot, step by step. -/
import Derived.Test.YtkagcjibneigdaaDoorE4
namespace Go.Proofs.YtkagcjibneigdaaDoor
open Go Go.RowKit Go.Proofs.YtkagcjibneigdaaDoor.Vc
theorem ssB_self (a : Int → Nat → Int) (n : Int) : ssB a n a n = true := by
  unfold ssB
  rw [decide_eq_true rfl, Bool.true_and]
  exact allI_of fun i _ _ => by unfold ssR; exact decide_eq_true ⟨rfl, rfl, rfl, rfl, rfl, rfl, rfl⟩
/-- a station that begins to send, or counts down -/
structure Go1 (a : Int → Nat → Int) (f : Int → Int → Nat → Int) (n t i : Int) : Prop where
  idle : sdB a t i = false
  fr : 0 < a i 4
  rs : a i 11 ≤ t
  hr : ∀ k, 0 ≤ k → k < n → sdB a t k = true → f i k 0 = 0
section
variable {a c : Int → Nat → Int} {f : Int → Int → Nat → Int} {n t i : Int} {ask : Bool}
theorem beg_no (hc : c i = a i) (h4 : 0 ≤ a i 4) (h : ¬ Go1 a f n t i) : begS a f n ask t c i = c := by
  unfold begS
  rw [if_pos]
  apply Classical.byContradiction
  intro hn
  apply h
  rw [hc] at hn
  refine ⟨?_, ?_, ?_, fun k k0 k1 hk => ?_⟩
  · cases hs : sdB a t i with
    | false => rfl
    | true => exact absurd (.inl (.inl (.inl hs))) hn
  · have : a i 4 ≠ 0 := fun hh => hn (.inl (.inl (.inr hh)))
    omega
  · rcases Int.lt_or_le t (a i 11) with hh | hh
    · exact absurd (.inl (.inr hh)) hn
    · exact hh
  · have ha : allI (okHr a f t i) n = true := by
      cases hh : allI (okHr a f t i) n with
      | true => rfl
      | false => exact absurd (.inr (by rw [hh]; simp)) hn
    have := allI_at ha k0 k1
    unfold okHr hrB at this
    rw [hk] at this
    by_cases h0 : f i k 0 = 0
    · exact h0
    · simp [h0] at this
theorem beg_yes (hc : c i = a i) (h : Go1 a f n t i) : begS a f n ask t c i = if 0 < a i 2 then stpA c i 0 0 else sndA c ask t i := by
  have ha : allI (okHr a f t i) n = true := allI_of fun k k0 k1 => by
    unfold okHr hrB
    cases hs : sdB a t k with
    | false => rfl
    | true => rw [h.hr k k0 k1 hs]; rfl
  unfold begS
  rw [hc, if_neg]
  rintro (((hh | hh) | hh) | hh)
  · rw [h.idle] at hh; cases hh
  · have := h.fr; omega
  · have := h.rs; omega
  · exact hh ha
/-- the beginning of a slot, before station i -/
structure J2 (a : Int → Nat → Int) (f : Int → Int → Nat → Int) (n : Int) (ask : Bool) (t nb0 : Int) (X : Int → Nat → Int) (i : Int) (B : Int → Nat → Int) (nb : Int) : Prop where
  i0 : 0 ≤ i
  i1 : i ≤ n
  xr : XR n X (begN a f n ask t i.toNat)
  br : BR n (t + 1) t (fun s => s = t) ask (begN a f n ask t i.toNat) B nb
  b0 : nb0 ≤ nb
  b1 : nb ≤ nb0 + i
variable {nb0 nb : Int} {X B : Int → Nat → Int}
theorem J2.now (h : J2 a f n ask t nb0 X i B nb) : begN a f n ask t i.toNat i = a i := (begN_row a f n ask t (by have := h.i0; have := h.i1; omega) i.toNat i h.i0).2 (by have := h.i0; omega)
theorem J2.at (h : J2 a f n ask t nb0 X i B nb) (hi : i < n) {g : Nat} (hg : g < 7) : X i g = a i g := by
  rw [h.xr.h i g h.i0 hi hg, h.now]
theorem J2.same (h : J2 a f n ask t nb0 X i B nb) (hi : i < n) (h4 : 0 ≤ a i 4) (hg : ¬ Go1 a f n t i) : J2 a f n ask t nb0 X (i + 1) B nb := by
  have e : begN a f n ask t (i + 1).toNat = begN a f n ask t i.toNat := by rw [begN_succ h.i0, beg_no h.now h4 hg]
  exact ⟨by have := h.i0; omega, by omega, by rw [e]; exact h.xr, by rw [e]; exact h.br, h.b0, by have := h.b1; omega⟩
theorem J2.step (h : J2 a f n ask t nb0 X i B nb) (hi : i < n) (hk : chkE (a i 0) (a i 1) (a i 2) (a i 3) = 0) (hg : Go1 a f n t i) (hp : 0 < a i 2) : J2 a f n ask t nb0 (setA X i 2 (X i 2 - 1)) (i + 1) B nb := by
  have e : begN a f n ask t (i + 1).toNat = stpA (begN a f n ask t i.toNat) i 0 0 := by rw [begN_succ h.i0, beg_yes h.now hg, if_pos hp]
  have hs := se_0 (e := 0) (d := 0) hk (by omega) (by omega) (by omega) (.inl (by omega))
  obtain ⟨l0, l1, l2, l3⟩ := stp_lo (c := begN a f n ask t i.toNat) (i := i) (ev := 0) (d := 0)
  rw [h.now] at l0 l1 l2 l3
  have s0 : SC (a i 0) (a i 1) (a i 2) (a i 3) 0 0 = a i 0 := by unfold SC; rw [if_pos hs]
  have s1 : SW (a i 0) (a i 1) (a i 2) (a i 3) 0 0 = a i 1 := by unfold SW; rw [if_pos hs]; unfold stW; rw [if_neg (by omega)]
  have s2 : SN (a i 0) (a i 1) (a i 2) (a i 3) 0 0 = a i 2 - 1 := by unfold SN; rw [if_pos hs]; unfold stN; rw [if_neg (by omega), if_pos rfl]; omega
  have s3 : SR (a i 0) (a i 1) (a i 2) (a i 3) 0 0 = a i 3 := by unfold SR; rw [if_pos hs]; unfold stT; rw [if_neg (by omega), if_neg (by omega)]
  refine ⟨by have := h.i0; omega, by omega, ⟨fun q g q0 q1 hg7 => ?_⟩, ?_, h.b0, by have := h.b1; omega⟩
  · rw [e]
    by_cases hq : q = i
    · subst hq
      rw [row_at]
      have hgc : g = 0 ∨ g = 1 ∨ g = 2 ∨ g = 3 ∨ 4 ≤ g := by omega
      rcases hgc with rfl | rfl | rfl | rfl | h4
      · rw [if_neg (by omega), l0, s0, h.at hi (by omega)]
      · rw [if_neg (by omega), l1, s1, h.at hi (by omega)]
      · rw [if_pos rfl, l2, s2, h.at hi (by omega)]
      · rw [if_neg (by omega), l3, s3, h.at hi (by omega)]
      · rw [if_neg (by omega), stp_hi h4, h.now, h.at hi hg7]
    · rw [row_ne hq, stp_ne hq]
      exact h.xr.h q g q0 q1 hg7
  · rw [e]
    refine h.br.row fun q g q0 q1 g7 g10 => ?_
    by_cases hq : q = i
    · subst hq; exact stp_hi (by omega)
    · rw [stp_ne hq]
theorem J2.send (h : J2 a f n ask t nb0 X i B nb) (hi : i < n) (t0 : 0 ≤ t) (nbp : 0 ≤ nb) (h5 : 1 ≤ a i 5) (hg : Go1 a f n t i) (hp : ¬ 0 < a i 2) {E : Int → Nat → Int} (e0 : E 0 0 = i) (e1 : E 0 1 = t) (e2 : E 0 2 = if ask = true then t + 1 else t + a i 5) (e3 : E 0 3 = 0) (e4 : E 0 4 = 0 ↔ ask = true) : J2 a f n ask t nb0 X (i + 1) (appA B nb E) (nb + 1) := by
  have e : begN a f n ask t (i + 1).toNat = sndA (begN a f n ask t i.toNat) ask t i := by rw [begN_succ h.i0, beg_yes h.now hg, if_neg hp]
  have sr := snd_row (begN a f n ask t i.toNat) ask t i
  rw [h.now] at sr
  refine ⟨by have := h.i0; omega, by omega, ⟨fun q g q0 q1 hg7 => ?_⟩, ?_, by have := h.b0; omega, by have := h.b1; omega⟩
  · rw [e]
    by_cases hq : q = i
    · subst hq
      rw [sr.ot g (by omega) (by omega) (by omega) (by omega)]
      exact h.at hi hg7
    · rw [snd_ne hq]
      exact h.xr.h q g q0 q1 hg7
  · rw [e]
    have hid : sdB (begN a f n ask t i.toNat) t i = false := by
      have := hg.idle
      unfold sdB at this ⊢
      rw [h.now]; exact this
    refine h.br.push nbp h.i0 hi hid (fun q hq => snd_ne hq) sr.st ?_ sr.aw sr.sp e0 e1 (by rw [e2, sr.en]) e3 e4
    rw [sr.en]
    split <;> omega
end
section
variable {f : Int → Int → Nat → Int} {n t nb : Int} {ask : Bool} {c y B Z : Int → Nat → Int} {e : Int}
/-- what is found out about a transmission -/
theorem Ent.ans (hB : BR n (t + 1) t (fun s => s = t) ask c B nb) (hy : ∀ i, 0 ≤ i → i < n → Air f n ask t c y i) (r0 : 0 ≤ e) (r1 : e < nb) (ha : ansB c f n ask t (B e 0) = true) (hr : t < B e 2)
    (z0 : Z e 0 = B e 0) (z1 : Z e 1 = B e 1) (z2 : Z e 2 = t + 1 + c (B e 0) 5) (z3 : Z e 3 ≠ 0) (z4 : Z e 4 ≠ 0) : Ent t y Z e := by
  intro _
  have hw := hB.who e r0 r1
  have A := hy _ hw.1 hw.2.1
  have al := hB.al e r0 r1 hr
  have rq := ans_req ha
  have x := hB.xx e r0 r1 hr (by rw [← al.1]; exact rq.2.1)
  rw [z0, z1, z2]
  refine ⟨by rw [A.ot 7 (by omega) (by omega) (by omega) (by omega)]; exact al.1, by rw [A.en, if_pos ha], ?_, ?_⟩
  · rw [A.aw, if_pos ha]
    exact ⟨fun h => by omega, fun h => absurd h z3⟩
  · have hb : ¬ badB c f n ask t (B e 0) = true := fun hb => by
      unfold badB at hb
      rw [rq.2.2.2.1, decide_eq_false (by have := rq.2.2.2.2; omega)] at hb
      simp at hb
    rw [A.sp, if_neg hb, x.2.1]
    exact ⟨fun _ => z4, fun _ => rfl⟩
theorem Ent.not (hB : BR n (t + 1) t (fun s => s = t) ask c B nb) (hy : ∀ i, 0 ≤ i → i < n → Air f n ask t c y i) (r0 : 0 ≤ e) (r1 : e < nb) (ha : ¬ ansB c f n ask t (B e 0) = true) (hr : t < B e 2)
    (z0 : Z e 0 = B e 0) (z1 : Z e 1 = B e 1) (z2 : Z e 2 = B e 2) (z3 : Z e 3 = B e 3)
    (z4 : (badB c f n ask t (B e 0) = true ∧ Z e 4 = 0) ∨ (¬ badB c f n ask t (B e 0) = true ∧ Z e 4 = B e 4 ∧ ¬ (ask = true ∧ B e 1 = t))) : Ent t y Z e := by
  intro _
  have hw := hB.who e r0 r1
  have A := hy _ hw.1 hw.2.1
  have al := hB.al e r0 r1 hr
  rw [z0, z1, z2]
  refine ⟨by rw [A.ot 7 (by omega) (by omega) (by omega) (by omega)]; exact al.1, by rw [A.en, if_neg ha]; exact al.2.1, ?_, ?_⟩
  · rw [A.aw, if_neg ha, z3]; exact al.2.2
  · rcases z4 with ⟨hb, z4⟩ | ⟨hb, z4, hn⟩
    · rw [A.sp, if_pos hb, z4]
      exact ⟨fun h => by omega, fun h => absurd rfl h⟩
    · rw [A.sp, if_neg hb, z4]
      by_cases hx : B e 1 = t
      · have x := hB.xx e r0 r1 hr hx
        have : ¬ B e 4 = 0 := fun hh => hn ⟨x.2.2.1 hh, hx⟩
        exact ⟨fun _ => this, fun _ => x.2.1⟩
      · exact hB.gd e r0 r1 hr hx
/-- the reservations while the transmissions before r have been looked at -/
structure J4 (f : Int → Int → Nat → Int) (n t : Int) (c y Z S : Int → Nat → Int) (r : Int) : Prop where
  lo : ∀ q, 0 ≤ q → q < n → c q 11 ≤ S q 0
  up : ∀ q, 0 ≤ q → q < n → S q 0 ≤ y q 11
  cv : ∀ p, 0 ≤ p → p < r → Z p 1 = t → Z p 3 ≠ 0 → ∀ q, 0 ≤ q → q < n → q ≠ Z p 0 → f q (c (Z p 0) 6) 0 ≠ 0 → Z p 2 ≤ S q 0
theorem J4.skip {S : Int → Nat → Int} {r : Int} (h : J4 f n t c y Z S r) (hn : ¬ (Z r 1 = t ∧ Z r 3 ≠ 0)) : J4 f n t c y Z S (r + 1) :=
  ⟨h.lo, h.up, fun p p0 p1 h1 h3 => by
    by_cases hp : p = r
    · subst hp; exact absurd ⟨h1, h3⟩ hn
    · exact h.cv p p0 (by omega) h1 h3⟩
/-- the same while station q is reached -/
structure J5 (f : Int → Int → Nat → Int) (n t : Int) (c y Z S : Int → Nat → Int) (r q : Int) : Prop where
  q0 : 0 ≤ q
  q1 : q ≤ n
  j : J4 f n t c y Z S r
  cv : ∀ p, 0 ≤ p → p < q → p ≠ Z r 0 → f p (c (Z r 0) 6) 0 ≠ 0 → Z r 2 ≤ S p 0
theorem J5.skip {S : Int → Nat → Int} {r q : Int} (h : J5 f n t c y Z S r q) (hq : q < n) (hn : ¬ (q ≠ Z r 0 ∧ f q (c (Z r 0) 6) 0 ≠ 0)) : J5 f n t c y Z S r (q + 1) :=
  ⟨by have := h.q0; omega, by omega, h.j, fun p p0 p1 h1 h2 => by
    by_cases hp : p = q
    · subst hp; exact absurd ⟨h1, h2⟩ hn
    · exact h.cv p p0 (by omega) h1 h2⟩
theorem J5.put {S : Int → Nat → Int} {r q : Int} (h : J5 f n t c y Z S r q) (hq : q < n) (hu : Z r 2 ≤ y q 11) : J5 f n t c y Z (setA S q 0 (max (S q 0) (Z r 2))) r (q + 1) := by
  have mono : ∀ p, S p 0 ≤ setA S q 0 (max (S q 0) (Z r 2)) p 0 := fun p => by
    by_cases hp : p = q
    · subst hp; rw [row_at, if_pos rfl]; omega
    · rw [row_ne hp]; omega
  refine ⟨by have := h.q0; omega, by omega, ⟨fun p p0 p1 => Int.le_trans (h.j.lo p p0 p1) (mono p), fun p p0 p1 => ?_, fun p p0 p1 h1 h3 z z0 z1 h4 h5 => Int.le_trans (h.j.cv p p0 p1 h1 h3 z z0 z1 h4 h5) (mono z)⟩, fun p p0 p1 h1 h2 => ?_⟩
  · have := h.j.up p p0 p1
    by_cases hp : p = q
    · subst hp; rw [row_at, if_pos rfl]; omega
    · rw [row_ne hp]; omega
  · by_cases hp : p = q
    · subst hp; rw [row_at, if_pos rfl]; omega
    · exact Int.le_trans (h.cv p p0 (by omega) h1 h2) (mono p)
theorem J5.done {S : Int → Nat → Int} {r q : Int} (h : J5 f n t c y Z S r q) (hq : ¬ q < n) : J4 f n t c y Z S (r + 1) :=
  ⟨h.j.lo, h.j.up, fun p p0 p1 h1 h3 z z0 z1 => by
    by_cases hp : p = r
    · subst hp; exact h.cv z z0 (by have := h.q1; omega)
    · exact h.j.cv p p0 (by omega) h1 h3 z z0 z1⟩
/-- a reservation by an answered request is due -/
theorem due (hB : BR n (t + 1) t (fun s => s = t) ask c B nb) (hy : ∀ i, 0 ≤ i → i < n → Air f n ask t c y i) (hZ : Snn t y B Z nb) {r q : Int} (r0 : 0 ≤ r) (r1 : r < nb) (h1 : Z r 1 = t) (h3 : Z r 3 ≠ 0) (q0 : 0 ≤ q) (q1 : q < n) (hq : q ≠ Z r 0) (hf : f q (c (Z r 0) 6) 0 ≠ 0) : Z r 2 ≤ y q 11 := by
  have k := hZ.kp r
  have hb1 : B r 1 = t := by rw [← k.2.1]; exact h1
  have hr := hB.nw r r0 r1 hb1
  have hw := hB.who r r0 r1
  have A := hy _ hw.1 hw.2.1
  have al := hB.al r r0 r1 hr
  have x := hB.xx r r0 r1 hr hb1
  have en := hZ.dn r r0 r1 (k.2.2.2 hr)
  rw [k.1] at en hf hq
  have ha : ansB c f n ask t (B r 0) = true := Classical.byContradiction fun hn => by
    have := A.aw
    rw [if_neg hn, al.2.2.2 x.1] at this
    exact h3 (en.2.2.1.1 this)
  have := (hy q q0 q1).rv (B r 0) hw.1 hw.2.1 (fun hh => hq hh.symm) ha hf
  rw [← en.2.1, A.en, if_pos ha]
  exact this
theorem J4.fin {S : Int → Nat → Int} (h : J4 f n t c (airA f n ask t c) Z S nb) (hB : BR n (t + 1) t (fun s => s = t) ask c B nb) (hZ : Snn t (airA f n ask t c) B Z nb) {q : Int} (q0 : 0 ≤ q) (q1 : q < n) : S q 0 = airA f n ask t c q 11 := by
  have hup := h.up q q0 q1
  have hlo : airA f n ask t c q 11 ≤ S q 0 := by
    refine air_le q0 q1 (h.lo q q0 q1) fun i i0 i1 ha hq hf => ?_
    have A := air_row f ask t c i0 i1
    have rq := ans_req ha
    obtain ⟨r, r0, r1, hr0, hr2⟩ := hB.ex i i0 i1 (sd_iff.1 rq.2.2.1).2
    have al := hB.al r r0 r1 hr2
    have k := hZ.kp r
    have en := hZ.dn r r0 r1 (k.2.2.2 hr2)
    rw [hr0] at al
    rw [k.1, hr0] at en
    have h1 : Z r 1 = t := by rw [k.2.1, ← al.1]; exact rq.2.1
    have h3 : Z r 3 ≠ 0 := fun hh => by
      have := en.2.2.1.2 hh
      rw [A.aw, if_pos ha] at this
      omega
    have := h.cv r r0 r1 h1 h3 q q0 q1 (by rw [k.1, hr0]; exact hq) (by rw [k.1, hr0]; exact hf)
    rw [← en.2.1, A.en, if_pos ha] at this
    exact this
  omega
end
end Go.Proofs.YtkagcjibneigdaaDoor
