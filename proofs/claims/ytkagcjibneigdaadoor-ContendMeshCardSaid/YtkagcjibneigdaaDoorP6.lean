/- Contests: where all hear each other, one success at a time. -/
import Derived.Test.YtkagcjibneigdaaDoorP3
import Derived.Test.YtkagcjibneigdaaDoorC6
import Derived.Test.YtkagcjibneigdaaDoorE3
namespace Go.Proofs.YtkagcjibneigdaaDoor
open Go Go.RowKit Go.Proofs.YtkagcjibneigdaaDoor.Vc
structure MeshR (b : Int → Nat → Int) (f : Int → Int → Nat → Int) (n : Int) : Prop where
  to : ∀ i, 0 ≤ i → i < n → 0 ≤ b i 6 ∧ b i 6 < n ∧ b i 6 ≠ i
  ai : ∀ i, 0 ≤ i → i < n → 1 ≤ b i 5
  hr : ∀ i k, 0 ≤ i → i < n → 0 ≤ k → k < n → i ≠ k → f i k 0 ≠ 0
/-- the rows, at time t (e: 1 between two slots, 0 within) -/
structure MW (b : Int → Nat → Int) (n t e : Int) (a : Int → Nat → Int) : Prop where
  to : ∀ i, 0 ≤ i → i < n → a i 6 = b i 6 ∧ a i 5 = b i 5
  st : ∀ i, 0 ≤ i → i < n → a i 8 = 0 ∨ (a i 7 + e ≤ t ∧ t < a i 8)
  tw : ∀ i q, 0 ≤ i → i < n → 0 ≤ q → q < n → i ≠ q → a i 8 ≠ 0 → a q 8 ≠ 0 → a i 7 = a q 7 ∧ a i 10 ≠ 0 ∧ a q 10 ≠ 0
structure ML (n : Int) (a o : Int → Nat → Int) (k : Int) : Prop where
  pr : ∀ p j, 0 ≤ p → p < j → j < k → o p 1 < o j 2 → o j 1 < o p 2 → o p 1 = o j 1 ∧ o p 4 = 0 ∧ o j 4 = 0
  cu : ∀ j q, 0 ≤ j → j < k → 0 ≤ q → q < n → a q 8 ≠ 0 → o j 2 ≤ a q 7 ∨ (o j 1 = a q 7 ∧ o j 4 = 0 ∧ a q 10 ≠ 0)
theorem mw_air {b a : Int → Nat → Int} {f : Int → Int → Nat → Int} {n t : Int} {ask : Bool} (R : MeshR b f n) (t0 : 0 ≤ t) (h : MW b n t 1 a) :
    MW b n t 0 (airA f n ask t (begN a f n ask t n.toNat)) ∧ ∀ q, 0 ≤ q → q < n → airA f n ask t (begN a f n ask t n.toNat) q 8 ≠ 0 → airA f n ask t (begN a f n ask t n.toNat) q 7 = t ∨ (a q 8 ≠ 0 ∧ airA f n ask t (begN a f n ask t n.toNat) q 7 = a q 7 ∧ (a q 10 ≠ 0 → airA f n ask t (begN a f n ask t n.toNat) q 10 ≠ 0)) := by
  have hA := fun i i0 i1 => air_row f (n := n) ask t (begN a f n ask t n.toNat) (i := i) i0 i1
  have hB := fun i i0 i1 => beg_hi (beg_row a f (n := n) ask t (i := i) i0 i1)
  generalize begN a f n ask t n.toNat = c at *
  generalize airA f n ask t c = x at *
  have c6 : ∀ i, 0 ≤ i → i < n → c i 6 = b i 6 ∧ c i 5 = b i 5 := fun i i0 i1 => by
    rcases hB i i0 i1 with hh | ⟨_, _, s⟩
    · exact ⟨(hh 6 (by omega)).trans (h.to i i0 i1).1, (hh 5 (by omega)).trans (h.to i i0 i1).2⟩
    · exact ⟨(s.ot 6 (by omega) (by omega) (by omega) (by omega)).trans (h.to i i0 i1).1, (s.ot 5 (by omega) (by omega) (by omega) (by omega)).trans (h.to i i0 i1).2⟩
  have cs : ∀ i, 0 ≤ i → i < n → c i 8 = 0 ∨ (c i 7 ≤ t ∧ t < c i 8 ∧ (c i 7 = t ∨ (a i 8 ≠ 0 ∧ ∀ g, 4 ≤ g → c i g = a i g))) := fun i i0 i1 => by
    rcases hB i i0 i1 with hh | ⟨_, _, s⟩
    · rcases h.st i i0 i1 with hs | hs
      · exact .inl (by rw [hh 8 (by omega)]; exact hs)
      · exact .inr ⟨by rw [hh 7 (by omega)]; omega, by rw [hh 8 (by omega)]; omega, .inr ⟨by omega, hh⟩⟩
    · refine .inr ⟨by rw [s.st]; omega, ?_, .inl s.st⟩
      have h5 := (h.to i i0 i1).2
      have := R.ai i i0 i1
      rw [s.en, h5]
      split <;> omega
  -- who is on the air in an earlier slot lets no other begin
  have only : ∀ i q, 0 ≤ i → i < n → 0 ≤ q → q < n → a q 8 ≠ 0 → c i 8 ≠ 0 → c i 7 = t → False := fun i q i0 i1 q0 q1 hq hi h7 => by
    have hq2 := (h.st q q0 q1).resolve_left hq
    rcases hB i i0 i1 with hh | ⟨hf, _, s⟩
    · rw [hh 8 (by omega)] at hi
      rw [hh 7 (by omega)] at h7
      have := (h.st i i0 i1).resolve_left hi
      omega
    · have hsq : sdB a t q = true := sd_iff.2 ⟨by omega, hq2.2⟩
      by_cases hiq : i = q
      · subst hiq; rw [hf.idle] at hsq; cases hsq
      · exact R.hr i q i0 i1 q0 q1 hiq (hf.hr q q0 q1 hsq)
  have two : ∀ i q, 0 ≤ i → i < n → 0 ≤ q → q < n → i ≠ q → c i 8 ≠ 0 → c q 8 ≠ 0 → c i 7 = c q 7 ∧ dsB c f n t i = true := fun i q i0 i1 q0 q1 hiq hi hq => by
    obtain ⟨i2, i3, i4⟩ := (cs i i0 i1).resolve_left hi
    obtain ⟨q2, q3, q4⟩ := (cs q q0 q1).resolve_left hq
    refine ⟨?_, ?_⟩
    · rcases i4 with i4 | ⟨i4, i5⟩
      · rcases q4 with q4 | ⟨q4, q5⟩
        · omega
        · exact (only i q i0 i1 q0 q1 q4 hi i4).elim
      · rcases q4 with q4 | ⟨q4, q5⟩
        · exact (only q i q0 q1 i0 i1 i4 hq q4).elim
        · rw [i5 7 (by omega), q5 7 (by omega)]
          exact (h.tw i q i0 i1 q0 q1 hiq i4 q4).1
    · cases hd : dsB c f n t i with
      | true => rfl
      | false =>
        obtain ⟨d1, d2, d3⟩ := ds_no hd
        rw [(c6 i i0 i1).1] at d1 d2 d3
        obtain ⟨tl, th, tn⟩ := R.to i i0 i1
        have hsq : sdB c t q = true := sd_iff.2 ⟨q2, q3⟩
        by_cases hq : q = b i 6
        · rw [← hq, hsq] at d2; cases d2
        · have := d3 q q0 q1 (fun e => hiq e.symm) (R.hr _ _ tl th q0 q1 (fun e => hq e.symm))
          rw [hsq] at this; cases this
  have x8 : ∀ i, 0 ≤ i → i < n → x i 8 ≠ 0 → c i 8 ≠ 0 := fun i i0 i1 hx hc => by
    rw [(hA i i0 i1).en, if_neg (fun hh => by have := (ans_req hh).2.2.1; rw [sd_no t0 hc] at this; cases this)] at hx
    exact hx hc
  have x7 : ∀ i, 0 ≤ i → i < n → x i 7 = c i 7 := fun i i0 i1 => (hA i i0 i1).ot 7 (by omega) (by omega) (by omega) (by omega)
  refine ⟨⟨fun i i0 i1 => ?_, fun i i0 i1 => ?_, fun i q i0 i1 q0 q1 hiq hi hq => ?_⟩, fun q q0 q1 hq => ?_⟩
  · rw [(hA i i0 i1).ot 6 (by omega) (by omega) (by omega) (by omega), (hA i i0 i1).ot 5 (by omega) (by omega) (by omega) (by omega)]
    exact c6 i i0 i1
  · rw [x7 i i0 i1]
    by_cases hans : ansB c f n ask t i = true
    · have e8 := (hA i i0 i1).en
      rw [if_pos hans, (c6 i i0 i1).2] at e8
      have := R.ai i i0 i1
      have := (ans_req hans).2.1
      exact .inr ⟨by omega, by omega⟩
    · have e8 := (hA i i0 i1).en
      rw [if_neg hans] at e8
      rw [e8]
      rcases cs i i0 i1 with hh | hh
      · exact .inl hh
      · exact .inr ⟨by omega, hh.2.1⟩
  · have ci := x8 i i0 i1 hi
    have cq := x8 q q0 q1 hq
    obtain ⟨h1, h2⟩ := two i q i0 i1 q0 q1 hiq ci cq
    obtain ⟨_, h3⟩ := two q i q0 q1 i0 i1 (fun e => hiq e.symm) cq ci
    have bad : ∀ z, 0 ≤ z → z < n → c z 8 ≠ 0 → dsB c f n t z = true → x z 10 ≠ 0 := fun z z0 z1 hz hd => by
      have hz2 := (cs z z0 z1).resolve_left hz
      have hb : badB c f n ask t z = true := by
        unfold badB
        rw [hd, sd_iff.2 ⟨hz2.1, hz2.2.1⟩]
        rfl
      rw [(hA z z0 z1).sp, if_pos hb]; omega
    exact ⟨by rw [x7 i i0 i1, x7 q q0 q1]; exact h1, bad i i0 i1 ci h2, bad q q0 q1 cq h3⟩
  · rw [x7 q q0 q1]
    obtain ⟨_, _, q4⟩ := (cs q q0 q1).resolve_left (x8 q q0 q1 hq)
    rcases q4 with q4 | ⟨q4, q5⟩
    · exact .inl q4
    · refine .inr ⟨q4, q5 7 (by omega), fun h10 => ?_⟩
      rw [(hA q q0 q1).sp]
      split
      · omega
      · rw [q5 10 (by omega)]; exact h10
structure MS (b : Int → Nat → Int) (n t : Int) (s : FS) : Prop where
  rw : MW b n t 1 s.a
  ps : Past t s
  ll : ML n s.a s.o s.k
theorem ms_slot {b : Int → Nat → Int} {f : Int → Int → Nat → Int} {n t : Int} {ask : Bool} {d : Int → Nat → Int} {m : Int} {s : FS} (n0 : 0 ≤ n) (R : MeshR b f n) (t0 : 0 ≤ t) (hps : Past (t + 1) (slotF f n ask d m t s)) (h : MS b n t s) : MS b n (t + 1) (slotF f n ask d m t s) := by
  obtain ⟨hx, hy⟩ := mw_air (f := f) (ask := ask) R t0 h.rw
  have hl0 : ML n (airA f n ask t (begN s.a f n ask t n.toNat)) s.o s.k := by
    refine ⟨h.ll.pr, fun j q j0 j1 q0 q1 hq => ?_⟩
    rcases hy q q0 q1 hq with h7 | ⟨h8, h7, h10⟩
    · rw [h7]; exact .inl (h.ps j j1)
    · rw [h7]
      rcases h.ll.cu j q j0 j1 q0 q1 h8 with hh | ⟨h1, h2, h3⟩
      · exact .inl hh
      · exact .inr ⟨h1, h2, h10 h3⟩
  obtain ⟨hf, hl⟩ := fin_ind (t := t) (d := d) (m := m) (s := { s with a := airA f n ask t (begN s.a f n ask t n.toNat) }) n0 (fun _ s => ML n s.a s.o s.k) hl0 fun i s' i0 i1 hfr hp => by
    have hi := hfr.kp i i0 i1 (.inl (Int.le_refl _))
    have old : ∀ q, 0 ≤ q → q < n → s'.a q 8 ≠ 0 → s'.a q = airA f n ask t (begN s.a f n ask t n.toNat) q := fun q q0 q1 hq => by
      by_cases hc : q < i ∧ airA f n ask t (begN s.a f n ask t n.toNat) q 8 = t + 1
      · exact absurd (hfr.dn q q0 q1 hc.1 hc.2).1 hq
      · exact hfr.kp q q0 q1 (by rcases Int.lt_or_le q i with h1 | h1; exact .inr fun h2 => hc ⟨h1, h2⟩; exact .inl h1)
    unfold finS
    split
    · rename_i he
      have hi8 : s'.a i 8 ≠ 0 := by omega
      refine ⟨fun p j p0 pj j1 => ?_, fun j q j0 j1 q0 q1 => ?_⟩
      · show appA s'.o s'.k (buA s'.a i) p 1 < appA s'.o s'.k (buA s'.a i) j 2 → appA s'.o s'.k (buA s'.a i) j 1 < appA s'.o s'.k (buA s'.a i) p 2 → appA s'.o s'.k (buA s'.a i) p 1 = appA s'.o s'.k (buA s'.a i) j 1 ∧ appA s'.o s'.k (buA s'.a i) p 4 = 0 ∧ appA s'.o s'.k (buA s'.a i) j 4 = 0
        have j1 : j < s'.k + 1 := j1
        by_cases hj : j < s'.k
        · rw [app_lo hj, app_lo (show p < s'.k by omega)]; exact hp.pr p j p0 pj hj
        · obtain rfl : j = s'.k := by omega
          rw [app_lo pj, app_hi, app_hi, app_hi, bu_1, bu_2, bu_4]
          intro h1 h2
          rcases hp.cu p i p0 pj i0 i1 hi8 with h3 | ⟨h3, h4, h5⟩
          · omega
          · exact ⟨h3, h4, by rw [if_neg h5]⟩
      · show finA s'.a i (drI d m s'.u) q 8 ≠ 0 → appA s'.o s'.k (buA s'.a i) j 2 ≤ finA s'.a i (drI d m s'.u) q 7 ∨ (appA s'.o s'.k (buA s'.a i) j 1 = finA s'.a i (drI d m s'.u) q 7 ∧ appA s'.o s'.k (buA s'.a i) j 4 = 0 ∧ finA s'.a i (drI d m s'.u) q 10 ≠ 0)
        have j1 : j < s'.k + 1 := j1
        by_cases hqi : q = i
        · subst hqi
          intro hh; exact absurd fin_hi.1 hh
        · rw [fin_ne hqi]
          intro hq
          by_cases hj : j < s'.k
          · rw [app_lo hj]; exact hp.cu j q j0 hj q0 q1 hq
          · obtain rfl : j = s'.k := by omega
            rw [app_hi, app_hi, app_hi, bu_1, bu_4]
            have e1 := old q q0 q1 hq
            rw [e1] at hq ⊢
            rw [hi] at hi8 ⊢
            obtain ⟨h1, h2, h3⟩ := hx.tw i q i0 i1 q0 q1 (fun e => hqi e.symm) hi8 hq
            refine .inr ⟨h1, ?_, h3⟩
            show (if airA f n ask t (begN s.a f n ask t n.toNat) i 10 = 0 then (1 : Int) else 0) = 0
            rw [if_neg h2]
    · exact hp
  have hr : MW b n (t + 1) 1 (finN d m t { s with a := airA f n ask t (begN s.a f n ask t n.toNat) } n.toNat).a := by
    have old : ∀ q, 0 ≤ q → q < n → (finN d m t { s with a := airA f n ask t (begN s.a f n ask t n.toNat) } n.toNat).a q 8 ≠ 0 → (finN d m t { s with a := airA f n ask t (begN s.a f n ask t n.toNat) } n.toNat).a q = airA f n ask t (begN s.a f n ask t n.toNat) q ∧ airA f n ask t (begN s.a f n ask t n.toNat) q 8 ≠ t + 1 := fun q q0 q1 hq => by
      by_cases hc : airA f n ask t (begN s.a f n ask t n.toNat) q 8 = t + 1
      · exact absurd (hf.dn q q0 q1 q1 hc).1 hq
      · exact ⟨hf.kp q q0 q1 (.inr hc), hc⟩
    refine ⟨fun i i0 i1 => ?_, fun i i0 i1 => ?_, fun i q i0 i1 q0 q1 hiq hi hq => ?_⟩
    · by_cases hc : airA f n ask t (begN s.a f n ask t n.toNat) i 8 = t + 1
      · have := (hf.dn i i0 i1 i1 hc).2
        rw [this 6 (by omega) (by omega), this 5 (by omega) (by omega)]; exact hx.to i i0 i1
      · rw [hf.kp i i0 i1 (.inr hc)]; exact hx.to i i0 i1
    · by_cases h8 : (finN d m t { s with a := airA f n ask t (begN s.a f n ask t n.toNat) } n.toNat).a i 8 = 0
      · exact .inl h8
      · obtain ⟨e1, e2⟩ := old i i0 i1 h8
        rw [e1] at h8 ⊢
        have := (hx.st i i0 i1).resolve_left h8
        exact .inr ⟨by omega, by omega⟩
    · obtain ⟨e1, _⟩ := old i i0 i1 hi
      obtain ⟨e2, _⟩ := old q q0 q1 hq
      rw [e1] at hi ⊢
      rw [e2] at hq ⊢
      exact hx.tw i q i0 i1 q0 q1 hiq hi hq
  exact ⟨hr, hps, hl⟩
theorem ms_run {b : Int → Nat → Int} {f : Int → Int → Nat → Int} {n : Int} {ask : Bool} {d : Int → Nat → Int} {m : Int} (n0 : 0 ≤ n) (R : MeshR b f n) : ∀ T : Nat, MS b n T (crS f n ask d m (st0 b n) T)
  | 0 => ⟨⟨fun i i0 i1 => ⟨by show (if 0 ≤ i ∧ i < n ∧ 6 < 7 then b i 6 else 0) = _; rw [if_pos ⟨i0, i1, by omega⟩], by show (if 0 ≤ i ∧ i < n ∧ 5 < 7 then b i 5 else 0) = _; rw [if_pos ⟨i0, i1, by omega⟩]⟩, fun i i0 i1 => .inl (by show (if 0 ≤ i ∧ i < n ∧ 8 < 7 then b i 8 else 0) = 0; rw [if_neg (by omega)]),
      fun i q i0 i1 q0 q1 hiq hi hq => absurd (by show (if 0 ≤ i ∧ i < n ∧ 8 < 7 then b i 8 else 0) = 0; rw [if_neg (by omega)]) hi⟩, past_run 0, ⟨fun p j p0 pj j1 => absurd j1 (by show ¬ j < 0; omega), fun j q j0 j1 => absurd j1 (by show ¬ j < 0; omega)⟩⟩
  | T + 1 => by
    have hp := past_run (f := f) (n := n) (ask := ask) (d := d) (m := m) (b := b) (T + 1)
    have := ms_slot (f := f) (ask := ask) (d := d) (m := m) n0 R (show (0 : Int) ≤ T by omega) hp (ms_run n0 R T)
    exact this
theorem vc3 : VC3 := by
  intro b n l f m ask T d k hu n0 m0 k0
  refine ⟨trivial, fun v8 h8 _ _ k1 => ⟨trivial, fun v9 h9 => ⟨fun _ => trivial, fun v10 h10 => ⟨fun _ => by simp [h8], fun hc => ⟨hu, fun o K a N E ho hK ha hN hE hK0 hN0 hK1 hN1 => ⟨fun he => ?_, fun he => ?_⟩⟩⟩⟩⟩⟩
  · have : K = 0 := by rw [hK]; unfold crK; rw [if_neg (by rw [← hE]; exact he)]
    simp [h8, this]
  have he : crE b n l f m ask T d k = 0 := by rw [← hE]; omega
  have hcc : ccE b n l f m ask T = 0 := by unfold crE at he; grind
  obtain ⟨cn, cm, cT, cb⟩ := cc_ok hcc
  have hme : meB l f m = true := by grind
  have R : MeshR b f n := by
    refine ⟨fun i i0 i1 => by have := cb i i0 i1; omega, fun i i0 i1 => by have := cb i i0 i1; omega, fun i j i0 i1 j0 j1 hij => ?_⟩
    unfold meB at hme
    have h1 := allI_at hme i0 (by omega)
    unfold meO at h1
    have h2 := allI_at h1 j0 (by have := (cb i i0 i1).1; omega)
    unfold meR at h2
    have h3 := of_decide_eq_true h2
    exact h3.resolve_left hij
  have eK : K = (crF b n f ask T d k).k := by rw [hK]; unfold crK; rw [if_pos he]
  have eo : o = (crF b n f ask T d k).o := ho
  have hs := ms_run (f := f) (ask := ask) (d := d) (m := k) (by omega) R T.toNat
  have hl : ∀ p j, 0 ≤ p → p < j → j < K → o p 1 < o j 2 → o j 1 < o p 2 → o p 1 = o j 1 ∧ o p 4 = 0 ∧ o j 4 = 0 := by rw [eK, eo]; exact hs.ll.pr
  refine ⟨fun i => 0 ≤ i ∧ i ≤ K, fun i => (K - i).toNat, ⟨by omega, by omega⟩, ?_⟩
  rintro i ⟨i0, i1⟩
  refine ⟨fun h => ?_, fun _ => by simp [h8]⟩
  refine ⟨fun j => 0 ≤ j ∧ j ≤ i, fun j => (i - j).toNat, ⟨by omega, by omega⟩, ?_⟩
  rintro j ⟨j0, j1⟩
  refine ⟨fun h2 => ⟨i0, fun _ => ⟨j0, fun _ => ⟨by omega, fun _ => ⟨fun hh => ?_, fun hh => ⟨by omega, fun _ => ⟨⟨by omega, by omega⟩, by dsimp only; omega⟩⟩⟩⟩⟩⟩, fun h2 => ⟨by omega, fun _ => ⟨⟨by omega, by omega⟩, by dsimp only; omega⟩⟩⟩
  have := hl j i j0 h2 h hh.1.2 hh.1.1
  exfalso
  rcases hh.2 with (h3 | h3) | h3
  · exact h3 this.1.symm
  · exact h3 this.2.2
  · exact h3 this.2.1
end Go.Proofs.YtkagcjibneigdaaDoor
