/- Contests: answered requests protect frames. -/
import Derived.Test.YtkagcjibneigdaaDoorP3
import Derived.Test.YtkagcjibneigdaaDoorC7
import Derived.Test.YtkagcjibneigdaaDoorE3
namespace Go.Proofs.YtkagcjibneigdaaDoor
open Go Go.RowKit Go.Proofs.YtkagcjibneigdaaDoor.Vc
/-- nobody can disturb the frame of station i -/
structure Prot (b : Int → Nat → Int) (f : Int → Int → Nat → Int) (n : Int) (a : Int → Nat → Int) (i : Int) : Prop where
  hr : f (b i 6) i 0 ≠ 0
  to : a (b i 6) 8 = 0
  ot : ∀ k, 0 ≤ k → k < n → k ≠ i → f (b i 6) k 0 ≠ 0 → a k 8 = 0 ∧ a i 8 ≤ a k 11
structure ARow (b : Int → Nat → Int) (f : Int → Int → Nat → Int) (n t : Int) (a : Int → Nat → Int) (i : Int) : Prop where
  to : a i 6 = b i 6
  ai : a i 5 = b i 5
  st : a i 8 = 0 ∨ (0 ≤ a i 7 ∧ a i 7 < t ∧ t < a i 8 ∧ a i 9 ≠ 0 ∧ a i 10 = 0 ∧ Prot b f n a i)
structure BRow (b : Int → Nat → Int) (f : Int → Int → Nat → Int) (n t : Int) (x : Int → Nat → Int) (i : Int) : Prop where
  to : x i 6 = b i 6
  ai : x i 5 = b i 5
  st : x i 8 = 0 ∨ (0 ≤ x i 7 ∧ x i 7 ≤ t ∧ t < x i 8 ∧ ((x i 9 ≠ 0 ∧ x i 10 = 0 ∧ Prot b f n x i) ∨ (x i 9 = 0 ∧ x i 10 ≠ 0 ∧ x i 7 = t ∧ x i 8 = t + 1)))
structure Rules (b : Int → Nat → Int) (f : Int → Int → Nat → Int) (n : Int) : Prop where
  to : ∀ i, 0 ≤ i → i < n → 0 ≤ b i 6 ∧ b i 6 < n ∧ b i 6 ≠ i
  ai : ∀ i, 0 ≤ i → i < n → 1 ≤ b i 5
  se : ∀ i, 0 ≤ i → i < n → f i i 0 = 0
  ev : ∀ i k, 0 ≤ i → i < n → 0 ≤ k → k < n → f i k 0 ≠ 0 → f k i 0 ≠ 0
theorem arow_air {b a : Int → Nat → Int} {f : Int → Int → Nat → Int} {n t : Int} (R : Rules b f n) (t0 : 0 ≤ t) (h : ∀ i, 0 ≤ i → i < n → ARow b f n t a i) : ∀ i, 0 ≤ i → i < n → BRow b f n t (airA f n true t (begN a f n true t n.toNat)) i := by
  have hA := fun i i0 i1 => air_row f (n := n) true t (begN a f n true t n.toNat) (i := i) i0 i1
  have hB := fun i i0 i1 => beg_hi (beg_row a f (n := n) true t (i := i) i0 i1)
  generalize begN a f n true t n.toNat = c at *
  generalize airA f n true t c = x at *
  -- behind the beginning
  have c6 : ∀ i, 0 ≤ i → i < n → c i 6 = b i 6 ∧ c i 5 = b i 5 := fun i i0 i1 => by
    rcases hB i i0 i1 with hh | ⟨_, _, s⟩
    · exact ⟨(hh 6 (by omega)).trans (h i i0 i1).to, (hh 5 (by omega)).trans (h i i0 i1).ai⟩
    · exact ⟨(s.ot 6 (by omega) (by omega) (by omega) (by omega)).trans (h i i0 i1).to, (s.ot 5 (by omega) (by omega) (by omega) (by omega)).trans (h i i0 i1).ai⟩
  have cs : ∀ i, 0 ≤ i → i < n → c i 8 = 0 ∨ (0 ≤ c i 7 ∧ c i 7 ≤ t ∧ t < c i 8) := fun i i0 i1 => by
    rcases hB i i0 i1 with hh | ⟨_, _, s⟩
    · rw [hh 7 (by omega), hh 8 (by omega)]
      rcases (h i i0 i1).st with hs | hs
      · exact .inl hs
      · exact .inr ⟨hs.1, by omega, hs.2.2.1⟩
    · refine .inr ?_
      rw [s.st, s.en, if_pos rfl]; omega
  have coff : ∀ i, 0 ≤ i → i < n → sdB c t i = false → c i 8 = 0 := fun i i0 i1 hs => by
    rcases cs i i0 i1 with hh | hh
    · exact hh
    · have : sdB c t i = true := sd_iff.2 ⟨hh.2.1, hh.2.2⟩
      rw [this] at hs; cases hs
  have xoff : ∀ i, 0 ≤ i → i < n → c i 8 = 0 → x i 8 = 0 := fun i i0 i1 hc => by
    rw [(hA i i0 i1).en, if_neg (fun hh => by have := (ans_req hh).2.2.1; rw [sd_no t0 hc] at this; cases this)]
    exact hc
  intro i i0 i1
  have A := hA i i0 i1
  have H := h i i0 i1
  obtain ⟨tl, th, tn⟩ := R.to i i0 i1
  refine ⟨by rw [A.ot 6 (by omega) (by omega) (by omega) (by omega)]; exact (c6 i i0 i1).1, by rw [A.ot 5 (by omega) (by omega) (by omega) (by omega)]; exact (c6 i i0 i1).2, ?_⟩
  rw [A.ot 7 (by omega) (by omega) (by omega) (by omega)]
  rcases hB i i0 i1 with hh | ⟨hf, _, s⟩
  · rcases H.st with hs | ⟨s1, s2, s3, s4, s5, s6⟩
    · exact .inl (xoff i i0 i1 (by rw [hh 8 (by omega)]; exact hs))
    · -- going on
      have hsd : sdB a t i = true := sd_iff.2 ⟨by omega, s3⟩
      have hto : c (b i 6) 8 = 0 := by
        rcases hB _ tl th with hq | ⟨hq, _⟩
        · rw [hq 8 (by omega)]; exact s6.to
        · exact absurd (hq.hr i i0 i1 hsd) s6.hr
      have hot : ∀ k, 0 ≤ k → k < n → k ≠ i → f (b i 6) k 0 ≠ 0 → c k 8 = 0 ∧ c k 11 = a k 11 := fun k k0 k1 hk hf => by
        have := s6.ot k k0 k1 hk hf
        rcases hB k k0 k1 with hq | ⟨hq, _⟩
        · exact ⟨by rw [hq 8 (by omega)]; exact this.1, hq 11 (by omega)⟩
        · have := hq.rs; omega
      have hds : dsB c f n t i = false := ds_of (by rw [(c6 i i0 i1).1]; exact s6.hr) (by rw [(c6 i i0 i1).1]; exact sd_no t0 hto) fun k k0 k1 hk hf => sd_no t0 (hot k k0 k1 hk (by rw [← (c6 i i0 i1).1]; exact hf)).1
      have hrq : rqB c true t i = false := by
        unfold rqB
        rw [hh 7 (by omega)]
        simp; omega
      have hbad : badB c f n true t i = false := by unfold badB; rw [hds, hrq]; simp
      have hans : ansB c f n true t i = false := by unfold ansB; rw [hrq]; simp
      have x8 : x i 8 = a i 8 := by rw [A.en, hans, if_neg (by simp), hh 8 (by omega)]
      refine .inr ⟨by rw [hh 7 (by omega)]; exact s1, by rw [hh 7 (by omega)]; omega, by rw [x8]; exact s3, .inl ⟨?_, ?_, s6.hr, xoff _ tl th hto, fun k k0 k1 hk hf => ?_⟩⟩
      · rw [A.aw, hans, if_neg (by simp), hh 9 (by omega)]; exact s4
      · rw [A.sp, hbad, if_neg (by simp), hh 10 (by omega)]; exact s5
      · obtain ⟨p1, p2⟩ := hot k k0 k1 hk hf
        refine ⟨xoff k k0 k1 p1, ?_⟩
        have := (hA k k0 k1).rs
        have := (s6.ot k k0 k1 hk hf).2
        rw [x8]; omega
  · -- begins
    have c7 : c i 7 = t := s.st
    have c8 : c i 8 = t + 1 := by rw [s.en, if_pos rfl]
    have hsd : sdB c t i = true := sd_iff.2 ⟨by omega, by omega⟩
    have hrq : rqB c true t i = true := by unfold rqB; rw [c7]; simp
    by_cases hans : ansB c f n true t i = true
    · obtain ⟨_, _, _, hds, hrs⟩ := ans_req hans
      obtain ⟨d1, d2, d3⟩ := ds_no hds
      have e6 := (c6 i i0 i1).1
      rw [e6] at d1 d2 d3 hrs
      have hbad : badB c f n true t i = false := by
        unfold badB
        rw [hds, e6]
        have : decide (t < c (b i 6) 11) = false := decide_eq_false (by omega)
        rw [this]; simp
      have x8 : x i 8 = t + 1 + b i 5 := by rw [A.en, if_pos hans, (c6 i i0 i1).2]
      have hai := R.ai i i0 i1
      refine .inr ⟨by omega, by omega, by omega, .inl ⟨?_, ?_, d1, xoff _ tl th (coff _ tl th d2), fun k k0 k1 hk hf => ⟨xoff k k0 k1 (coff k k0 k1 (d3 k k0 k1 hk hf)), ?_⟩⟩⟩
      · rw [A.aw, if_pos hans]; omega
      · rw [A.sp, hbad, if_neg (by simp)]; exact s.sp
      · have := (hA k k0 k1).rv i i0 i1 (fun e => hk e.symm) hans (by rw [e6]; exact R.ev _ _ tl th k0 k1 hf)
        rw [x8, ← (c6 i i0 i1).2]; exact this
    · have hbad : badB c f n true t i = true := by
        unfold ansB at hans
        unfold badB
        rw [hsd, hrq] at hans ⊢
        cases h1 : dsB c f n t i with
        | true => simp
        | false =>
          rw [h1] at hans
          simp at hans
          simp; omega
      have x8 : x i 8 = t + 1 := by rw [A.en, if_neg hans, c8]
      refine .inr ⟨by omega, by omega, by omega, .inr ⟨?_, ?_, c7, x8⟩⟩
      · rw [A.aw, if_neg hans]; exact s.aw
      · rw [A.sp, if_pos hbad]; omega
structure AL (o : Int → Nat → Int) (k : Int) : Prop where
  eq : ∀ j, 0 ≤ j → j < k → (o j 4 = 0 ↔ o j 3 = 0)
  ln : ∀ j, 0 ≤ j → j < k → o j 4 = 0 → o j 2 = o j 1 + 1
  nn : ∀ j, 0 ≤ j → j < k → 0 ≤ o j 1
structure AS (b : Int → Nat → Int) (f : Int → Int → Nat → Int) (n t : Int) (s : FS) : Prop where
  rw : ∀ i, 0 ≤ i → i < n → ARow b f n t s.a i
  ll : AL s.o s.k
theorem as_slot {b : Int → Nat → Int} {f : Int → Int → Nat → Int} {n t : Int} {d : Int → Nat → Int} {m : Int} {s : FS} (n0 : 0 ≤ n) (R : Rules b f n) (t0 : 0 ≤ t) (h : AS b f n t s) : AS b f n (t + 1) (slotF f n true d m t s) := by
  have hx := arow_air R t0 h.rw
  obtain ⟨hf, hl⟩ := fin_ind (t := t) (d := d) (m := m) (s := { s with a := airA f n true t (begN s.a f n true t n.toNat) }) n0 (fun _ s => AL s.o s.k) h.ll fun i s' i0 i1 hfr hp => by
    have hi := hfr.kp i i0 i1 (.inl (Int.le_refl _))
    have hb := hx i i0 i1
    unfold finS
    split
    · rename_i he
      rw [hi] at he
      have he : airA f n true t (begN s.a f n true t n.toNat) i 8 = t + 1 := he
      have hst := hb.st.resolve_left (by omega)
      refine ⟨fun j j0 j1 => ?_, fun j j0 j1 => ?_, fun j j0 j1 => ?_⟩
      · show appA s'.o s'.k (buA s'.a i) j 4 = 0 ↔ appA s'.o s'.k (buA s'.a i) j 3 = 0
        have j1 : j < s'.k + 1 := j1
        by_cases hj : j < s'.k
        · rw [app_lo hj]; exact hp.eq j j0 hj
        · obtain rfl : j = s'.k := by omega
          rw [app_hi, app_hi, bu_3, bu_4, hi]
          rcases hst.2.2.2 with h1 | h1
          · have h9 := h1.1
            have h10 := h1.2.1
            show (if airA f n true t (begN s.a f n true t n.toNat) i 10 = 0 then (1 : Int) else 0) = 0 ↔ (if airA f n true t (begN s.a f n true t n.toNat) i 9 = 0 then (0 : Int) else 1) = 0
            rw [if_pos h10, if_neg h9]
          · have h9 := h1.1
            have h10 := h1.2.1
            show (if airA f n true t (begN s.a f n true t n.toNat) i 10 = 0 then (1 : Int) else 0) = 0 ↔ (if airA f n true t (begN s.a f n true t n.toNat) i 9 = 0 then (0 : Int) else 1) = 0
            rw [if_neg h10, if_pos h9]
      · show appA s'.o s'.k (buA s'.a i) j 4 = 0 → appA s'.o s'.k (buA s'.a i) j 2 = appA s'.o s'.k (buA s'.a i) j 1 + 1
        have j1 : j < s'.k + 1 := j1
        by_cases hj : j < s'.k
        · rw [app_lo hj]; exact hp.ln j j0 hj
        · obtain rfl : j = s'.k := by omega
          rw [app_hi, app_hi, app_hi, bu_4, bu_1, bu_2, hi]
          intro h4
          have h4 : (if airA f n true t (begN s.a f n true t n.toNat) i 10 = 0 then (1 : Int) else 0) = 0 := h4
          show airA f n true t (begN s.a f n true t n.toNat) i 8 = airA f n true t (begN s.a f n true t n.toNat) i 7 + 1
          rcases hst.2.2.2 with h1 | h1
          · rw [if_pos h1.2.1] at h4; cases h4
          · rw [h1.2.2.1]; exact h1.2.2.2
      · show 0 ≤ appA s'.o s'.k (buA s'.a i) j 1
        have j1 : j < s'.k + 1 := j1
        by_cases hj : j < s'.k
        · rw [app_lo hj]; exact hp.nn j j0 hj
        · obtain rfl : j = s'.k := by omega
          rw [app_hi, bu_1, hi]
          exact hst.1
    · exact hp
  refine ⟨fun i i0 i1 => ?_, hl⟩
  have hb := hx i i0 i1
  have row : ∀ q, 0 ≤ q → q < n → (finN d m t { s with a := airA f n true t (begN s.a f n true t n.toNat) } n.toNat).a q 11 = airA f n true t (begN s.a f n true t n.toNat) q 11 ∧ (airA f n true t (begN s.a f n true t n.toNat) q 8 = 0 → (finN d m t { s with a := airA f n true t (begN s.a f n true t n.toNat) } n.toNat).a q 8 = 0) := fun q q0 q1 => by
    by_cases hq : airA f n true t (begN s.a f n true t n.toNat) q 8 = t + 1
    · have := hf.dn q q0 q1 q1 hq
      exact ⟨this.2 11 (by omega) (by omega), fun _ => this.1⟩
    · have := hf.kp q q0 q1 (.inr hq)
      rw [this]; exact ⟨rfl, fun h => h⟩
  show ARow b f n (t + 1) (finN d m t { s with a := airA f n true t (begN s.a f n true t n.toNat) } n.toNat).a i
  by_cases he : airA f n true t (begN s.a f n true t n.toNat) i 8 = t + 1
  · obtain ⟨h8, ho⟩ := hf.dn i i0 i1 i1 he
    exact ⟨(ho 6 (by omega) (by omega)).trans hb.to, (ho 5 (by omega) (by omega)).trans hb.ai, .inl h8⟩
  · have hk := hf.kp i i0 i1 (.inr he)
    refine ⟨by rw [hk]; exact hb.to, by rw [hk]; exact hb.ai, ?_⟩
    rw [hk]
    rcases hb.st with h1 | ⟨s1, s2, s3, h1 | h1⟩
    · exact .inl h1
    · refine .inr ⟨s1, by show airA f n true t (begN s.a f n true t n.toNat) i 7 < t + 1; omega, by show t + 1 < airA f n true t (begN s.a f n true t n.toNat) i 8; omega, h1.1, h1.2.1, h1.2.2.hr, (row _ (R.to i i0 i1).1 (R.to i i0 i1).2.1).2 h1.2.2.to, fun k k0 k1 hkk hff => ?_⟩
      have := h1.2.2.ot k k0 k1 hkk hff
      refine ⟨(row k k0 k1).2 this.1, ?_⟩
      rw [hk, (row k k0 k1).1]; exact this.2
    · exact absurd h1.2.2.2 he
theorem as_run {b : Int → Nat → Int} {f : Int → Int → Nat → Int} {n : Int} {d : Int → Nat → Int} {m : Int} (n0 : 0 ≤ n) (R : Rules b f n) (T : Nat) : AS b f n T (crS f n true d m (st0 b n) T) :=
  crS_ind (fun t s => AS b f n t s) ⟨fun i i0 i1 => ⟨by show (if 0 ≤ i ∧ i < n ∧ 6 < 7 then b i 6 else 0) = _; rw [if_pos ⟨i0, i1, by omega⟩], by show (if 0 ≤ i ∧ i < n ∧ 5 < 7 then b i 5 else 0) = _; rw [if_pos ⟨i0, i1, by omega⟩], .inl (by show (if 0 ≤ i ∧ i < n ∧ 8 < 7 then b i 8 else 0) = 0; rw [if_neg (by omega)])⟩,
    ⟨fun j j0 j1 => absurd j1 (by show ¬ j < 0; omega), fun j j0 j1 => absurd j1 (by show ¬ j < 0; omega), fun j j0 j1 => absurd j1 (by show ¬ j < 0; omega)⟩⟩ T fun t s' _ hp => by
      have := as_slot (f := f) (d := d) (m := m) n0 R (show (0 : Int) ≤ t by omega) hp
      exact this
theorem vc9 : VC9 := by
  intro b n l f m ask T d k hu n0 m0 k0
  refine ⟨trivial, fun v8 h8 _ _ k1 => ⟨trivial, fun v9 h9 => ⟨fun _ => hu, fun v10 h10 => ⟨fun _ => by simp [h8], fun hc => ⟨hu, fun o K a N E ho hK ha hN hE hK0 hN0 hK1 hN1 => ⟨fun he => ?_, fun he => ?_⟩⟩⟩⟩⟩⟩
  · have : K = 0 := by rw [hK]; unfold crK; rw [if_neg (by rw [← hE]; exact he)]
    simp [h8, this]
  have he : crE b n l f m ask T d k = 0 := by rw [← hE]; omega
  have hcc : ccE b n l f m ask T = 0 := by unfold crE at he; grind
  obtain ⟨cn, cm, cT, cb⟩ := cc_ok hcc
  have hask : ask = true := by grind
  have hev : evB b n l f m ask T = true := by grind
  subst hask
  have eK : K = (crF b n f true T d k).k := by rw [hK]; unfold crK; rw [if_pos he]
  have eo : o = (crF b n f true T d k).o := ho
  have R : Rules b f n := by
    refine ⟨fun i i0 i1 => by have := cb i i0 i1; omega, fun i i0 i1 => by have := cb i i0 i1; omega, fun i i0 i1 => (cb i i0 i1).2.1, fun i j i0 i1 j0 j1 hf => ?_⟩
    unfold evB at hev
    rw [Bool.and_eq_true] at hev
    have h1 := allI_at hev.2 i0 (by omega)
    unfold evO at h1
    have h2 := allI_at h1 j0 (by have := (cb i i0 i1).1; omega)
    unfold evR at h2
    have h3 := of_decide_eq_true h2
    exact fun h4 => hf (h3.2 h4)
  have hs := as_run (f := f) (d := d) (m := k) (by omega) R T.toNat
  have hp := past_run (f := f) (n := n) (ask := true) (d := d) (m := k) (b := b) T.toNat
  have eT : ((T.toNat : Nat) : Int) = T := by omega
  rw [eT] at hs hp
  have hl : AL o K := by rw [eK, eo]; exact hs.ll
  have hp : ∀ j, j < K → o j 2 ≤ T := by rw [eK, eo]; exact hp
  have hst : ∀ j, 0 ≤ j → j < K → o j 4 = 0 → -9223372036854775808 ≤ o j 1 + 1 ∧ o j 1 + 1 ≤ 9223372036854775807 := fun j j0 j1 h4 => by
    have h1 := hl.ln j j0 j1 h4
    have h2 := hl.nn j j0 j1
    have h3 := hp j j1
    omega
  refine ⟨fun i => 0 ≤ i ∧ i ≤ K, fun i => (K - i).toNat, ⟨by omega, by omega⟩, ?_⟩
  rintro i ⟨i0, i1⟩
  refine ⟨fun h => ?_, fun _ => by simp [h8]⟩
  have e1 := hl.eq i i0 h
  have e2 := hl.ln i i0 h
  have e3 := hst i i0 h
  refine ⟨i0, fun _ => ⟨?_, fun _ => ⟨fun hh => ?_, fun hh => ⟨by omega, fun _ => ⟨⟨by omega, by omega⟩, by dsimp only; omega⟩⟩⟩⟩⟩
  · grind
  · exfalso; grind
end Go.Proofs.YtkagcjibneigdaaDoor
