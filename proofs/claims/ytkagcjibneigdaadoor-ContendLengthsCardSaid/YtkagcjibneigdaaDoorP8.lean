/- Contests: lengths and order of transmissions. -/
import Derived.Test.YtkagcjibneigdaaDoorP3
import Derived.Test.YtkagcjibneigdaaDoorC8
import Derived.Test.YtkagcjibneigdaaDoorE3
namespace Go.Proofs.YtkagcjibneigdaaDoor
open Go Go.RowKit Go.Proofs.YtkagcjibneigdaaDoor.Vc
/-- a station between two slots -/
structure LRow (b : Int → Nat → Int) (ask : Bool) (t i : Int) (r : Nat → Int) : Prop where
  air : r 5 = b i 5
  st : r 8 = 0 ∨ (0 ≤ r 7 ∧ r 7 < t ∧ t < r 8 ∧ (ask = true → r 9 ≠ 0 ∧ r 8 = r 7 + 1 + b i 5) ∧ (ask = false → r 9 = 0 ∧ r 8 = r 7 + b i 5))
/-- a station behind the air of a slot -/
structure MRow (b : Int → Nat → Int) (ask : Bool) (t i : Int) (r : Nat → Int) : Prop where
  air : r 5 = b i 5
  st : r 8 = 0 ∨ (0 ≤ r 7 ∧ r 7 ≤ t ∧ t < r 8 ∧ (ask = true → (r 9 ≠ 0 ∧ r 8 = r 7 + 1 + b i 5) ∨ (r 9 = 0 ∧ r 7 = t ∧ r 8 = t + 1)) ∧ (ask = false → r 9 = 0 ∧ r 8 = r 7 + b i 5))
theorem lrow_air {b a : Int → Nat → Int} {f : Int → Int → Nat → Int} {n : Int} {ask : Bool} {t i : Int} (i0 : 0 ≤ i) (i1 : i < n) (t0 : 0 ≤ t) (hb : 1 ≤ b i 5) (h : LRow b ask t i (a i)) :
    MRow b ask t i (airA f n ask t (begN a f n ask t n.toNat) i) ∧ (airA f n ask t (begN a f n ask t n.toNat) i 8 ≠ 0 → (airA f n ask t (begN a f n ask t n.toNat) i 7 = t ∨ (a i 8 ≠ 0 ∧ airA f n ask t (begN a f n ask t n.toNat) i 7 = a i 7))) := by
  have hA := air_row f ask t (begN a f n ask t n.toNat) i0 i1
  have hB := beg_row a f ask t i0 i1
  generalize begN a f n ask t n.toNat = c at *
  have x5 := hA.ot 5 (by omega) (by omega) (by omega) (by omega)
  have x7 := hA.ot 7 (by omega) (by omega) (by omega) (by omega)
  have x8 := hA.en
  have x9 := hA.aw
  generalize airA f n ask t c i = x at *
  obtain ⟨h5, hs⟩ := h
  have keep : (∀ g, 4 ≤ g → c i g = a i g) → MRow b ask t i x ∧ (x 8 ≠ 0 → (x 7 = t ∨ (a i 8 ≠ 0 ∧ x 7 = a i 7))) := fun hk => by
    have hna : ¬ ansB c f n ask t i = true := fun hh => by
      obtain ⟨_, h1, h2, _⟩ := ans_req hh
      rw [sd_iff] at h2
      rw [hk 7 (by omega)] at h1
      rw [hk 7 (by omega), hk 8 (by omega)] at h2
      rcases hs with hs | hs <;> omega
    rw [if_neg hna] at x8 x9
    rw [hk 5 (by omega)] at x5
    rw [hk 7 (by omega)] at x7
    rw [hk 8 (by omega)] at x8
    rw [hk 9 (by omega)] at x9
    refine ⟨⟨by rw [x5]; exact h5, ?_⟩, fun hh => .inr ⟨by rw [← x8]; exact hh, x7⟩⟩
    rw [x7, x8, x9]
    rcases hs with hs | ⟨s1, s2, s3, s4, s5⟩
    · exact .inl hs
    · exact .inr ⟨s1, by omega, s3, fun ha => .inl (s4 ha), s5⟩
  cases hB with
  | same hh => exact keep fun g _ => hh g
  | step _ _ hi => exact keep hi
  | send _ _ hsnd =>
    have c5 := hsnd.ot 5 (by omega) (by omega) (by omega) (by omega)
    rw [c5] at x5 x8
    rw [hsnd.st] at x7
    rw [hsnd.en, h5] at x8
    rw [hsnd.aw] at x9
    rw [h5] at x5
    refine ⟨⟨x5, .inr ?_⟩, fun _ => .inl x7⟩
    cases hask : ask with
    | false =>
      have hna : ¬ ansB c f n ask t i = true := fun hh => by have := (ans_req hh).1; rw [hask] at this; cases this
      rw [if_neg hna, if_neg (by rw [hask]; simp)] at x8
      rw [if_neg hna] at x9
      exact ⟨by omega, by omega, by omega, fun h => (by cases h), fun _ => ⟨x9, by omega⟩⟩
    | true =>
      rw [if_pos hask] at x8
      by_cases hna : ansB c f n ask t i = true
      · rw [if_pos hna] at x8 x9
        exact ⟨by omega, by omega, by omega, fun _ => .inl ⟨by omega, by omega⟩, fun h => (by cases h)⟩
      · rw [if_neg hna] at x8 x9
        exact ⟨by omega, by omega, by omega, fun _ => .inr ⟨x9, x7, x8⟩, fun h => (by cases h)⟩
/-- the list of bursts, while the stations before w have ended slot t -/
structure LL (b : Int → Nat → Int) (n : Int) (ask : Bool) (t w : Int) (a o : Int → Nat → Int) (k : Int) : Prop where
  kn : 0 ≤ k
  wh : ∀ j, 0 ≤ j → j < k → 0 ≤ o j 0 ∧ o j 0 < n
  st : ∀ j, 0 ≤ j → j < k → 0 ≤ o j 1
  aw : ∀ j, 0 ≤ j → j < k → o j 3 ≠ 0 → ask = true
  ln : ∀ j, 0 ≤ j → j < k → o j 2 - o j 1 = (if ask = true then (if o j 3 = 0 then 1 else 1 + b (o j 0) 5) else b (o j 0) 5)
  bd : ∀ j, 0 ≤ j → j < k → o j 2 ≤ t ∨ (o j 2 = t + 1 ∧ o j 0 < w)
  od : ∀ j, 0 ≤ j → j + 1 < k → o j 2 < o (j + 1) 2 ∨ (o j 2 = o (j + 1) 2 ∧ o j 0 < o (j + 1) 0)
  sq : ∀ p j, 0 ≤ p → p < j → j < k → o p 0 = o j 0 → o p 2 ≤ o j 1
  cu : ∀ j, 0 ≤ j → j < k → a (o j 0) 8 ≠ 0 → o j 2 ≤ a (o j 0) 7
structure LI (b : Int → Nat → Int) (n : Int) (ask : Bool) (t w : Int) (s : FS) : Prop where
  dn : ∀ q, 0 ≤ q → q < n → q < w → LRow b ask (t + 1) q (s.a q)
  nx : ∀ q, 0 ≤ q → q < n → w ≤ q → MRow b ask t q (s.a q)
  ll : LL b n ask t w s.a s.o s.k
theorem li_fin {b : Int → Nat → Int} {n : Int} {ask : Bool} {d : Int → Nat → Int} {m t i : Int} {s : FS} (i0 : 0 ≤ i) (i1 : i < n) (t0 : 0 ≤ t) (h : LI b n ask t i s) : LI b n ask t (i + 1) (finS d m t s i) := by
  obtain ⟨hd, hn, hl⟩ := h
  obtain ⟨m5, ms⟩ := hn i i0 i1 (by omega)
  have kn := hl.kn
  unfold finS
  split
  · rename_i he
    have he8 : s.a i 8 ≠ 0 := by omega
    have ms := ms.resolve_left he8
    obtain ⟨f8, fo⟩ := fin_hi (c := s.a) (i := i) (d := drI d m s.u)
    have ro : ∀ j, j < s.k → appA s.o s.k (buA s.a i) j = s.o j := fun j hj => app_lo hj
    have n0 : appA s.o s.k (buA s.a i) s.k 0 = i := by rw [app_hi, bu_0]
    have n1 : appA s.o s.k (buA s.a i) s.k 1 = s.a i 7 := by rw [app_hi, bu_1]
    have n2 : appA s.o s.k (buA s.a i) s.k 2 = t + 1 := by rw [app_hi, bu_2, he]
    have n3 : appA s.o s.k (buA s.a i) s.k 3 = if s.a i 9 = 0 then 0 else 1 := by rw [app_hi, bu_3]
    refine ⟨fun q q0 q1 qw => ?_, fun q q0 q1 qw => ?_, ?_⟩
    · by_cases hq : q = i
      · subst hq
        exact ⟨by show finA s.a q _ q 5 = _; rw [fo 5 (by omega) (by omega)]; exact m5, .inl f8⟩
      · show LRow b ask (t + 1) q (finA s.a i _ q)
        rw [fin_ne hq]; exact hd q q0 q1 (by omega)
    · show MRow b ask t q (finA s.a i _ q)
      rw [fin_ne (by omega)]; exact hn q q0 q1 (by omega)
    · refine ⟨by show 0 ≤ s.k + 1; omega, fun j j0 j1 => ?_, fun j j0 j1 => ?_, fun j j0 j1 => ?_, fun j j0 j1 => ?_, fun j j0 j1 => ?_, fun j j0 j1 => ?_, fun p j p0 pj j1 => ?_, fun j j0 j1 => ?_⟩
      · show 0 ≤ appA s.o s.k (buA s.a i) j 0 ∧ appA s.o s.k (buA s.a i) j 0 < n
        have j1 : j < s.k + 1 := j1
        by_cases hj : j < s.k
        · rw [ro j hj]; exact hl.wh j j0 hj
        · obtain rfl : j = s.k := by omega
          rw [n0]; omega
      · show 0 ≤ appA s.o s.k (buA s.a i) j 1
        have j1 : j < s.k + 1 := j1
        by_cases hj : j < s.k
        · rw [ro j hj]; exact hl.st j j0 hj
        · obtain rfl : j = s.k := by omega
          rw [n1]; exact ms.1
      · show appA s.o s.k (buA s.a i) j 3 ≠ 0 → ask = true
        have j1 : j < s.k + 1 := j1
        by_cases hj : j < s.k
        · rw [ro j hj]; exact hl.aw j j0 hj
        · obtain rfl : j = s.k := by omega
          rw [n3]
          intro h3
          cases hask : ask with
          | true => rfl
          | false => rw [if_pos (ms.2.2.2.2 hask).1] at h3; exact absurd rfl h3
      · show appA s.o s.k (buA s.a i) j 2 - appA s.o s.k (buA s.a i) j 1 = (if ask = true then (if appA s.o s.k (buA s.a i) j 3 = 0 then 1 else 1 + b (appA s.o s.k (buA s.a i) j 0) 5) else b (appA s.o s.k (buA s.a i) j 0) 5)
        have j1 : j < s.k + 1 := j1
        by_cases hj : j < s.k
        · rw [ro j hj]; exact hl.ln j j0 hj
        · obtain rfl : j = s.k := by omega
          rw [n0, n1, n2, n3]
          cases hask : ask with
          | true =>
            have h1 := ms.2.2.2.1 hask
            simp only [if_true]
            by_cases h9 : s.a i 9 = 0
            · simp only [h9, if_true]
              rcases h1 with h1 | h1
              · exact absurd h9 h1.1
              · omega
            · simp only [h9, if_false]
              rcases h1 with h1 | h1
              · simp; omega
              · exact absurd h1.1 h9
          | false =>
            have h1 := ms.2.2.2.2 hask
            simp only [Bool.false_eq_true, if_false]
            omega
      · show appA s.o s.k (buA s.a i) j 2 ≤ t ∨ (appA s.o s.k (buA s.a i) j 2 = t + 1 ∧ appA s.o s.k (buA s.a i) j 0 < i + 1)
        have j1 : j < s.k + 1 := j1
        by_cases hj : j < s.k
        · rw [ro j hj]
          rcases hl.bd j j0 hj with h | h
          · exact .inl h
          · exact .inr ⟨h.1, by omega⟩
        · obtain rfl : j = s.k := by omega
          rw [n0, n2]; exact .inr ⟨rfl, by omega⟩
      · have j1 : j + 1 < s.k + 1 := j1
        show appA s.o s.k (buA s.a i) j 2 < appA s.o s.k (buA s.a i) (j + 1) 2 ∨ (appA s.o s.k (buA s.a i) j 2 = appA s.o s.k (buA s.a i) (j + 1) 2 ∧ appA s.o s.k (buA s.a i) j 0 < appA s.o s.k (buA s.a i) (j + 1) 0)
        by_cases hj : j + 1 < s.k
        · rw [ro j (by omega), ro (j + 1) hj]; exact hl.od j j0 hj
        · have e : j + 1 = s.k := by omega
          rw [e, n2, n0, ro j (by omega)]
          rcases hl.bd j j0 (by omega) with h | h
          · exact .inl (by omega)
          · exact .inr ⟨h.1, h.2⟩
      · have j1 : j < s.k + 1 := j1
        show appA s.o s.k (buA s.a i) p 0 = appA s.o s.k (buA s.a i) j 0 → appA s.o s.k (buA s.a i) p 2 ≤ appA s.o s.k (buA s.a i) j 1
        by_cases hj : j < s.k
        · rw [ro j hj, ro p (by omega)]; exact hl.sq p j p0 pj hj
        · obtain rfl : j = s.k := by omega
          rw [n0, n1, ro p pj]
          intro hw
          have := hl.cu p p0 pj (by rw [hw]; exact he8)
          rw [hw] at this; exact this
      · have j1 : j < s.k + 1 := j1
        show finA s.a i (drI d m s.u) (appA s.o s.k (buA s.a i) j 0) 8 ≠ 0 → appA s.o s.k (buA s.a i) j 2 ≤ finA s.a i (drI d m s.u) (appA s.o s.k (buA s.a i) j 0) 7
        by_cases hj : j < s.k
        · rw [ro j hj]
          by_cases hq : s.o j 0 = i
          · rw [hq]; intro hh; exact absurd f8 hh
          · rw [fin_ne hq]; exact hl.cu j j0 hj
        · obtain rfl : j = s.k := by omega
          rw [n0]; intro hh; exact absurd f8 hh
  · rename_i he
    refine ⟨fun q q0 q1 qw => ?_, fun q q0 q1 qw => hn q q0 q1 (by omega), hl.kn, hl.wh, hl.st, hl.aw, hl.ln, fun j j0 j1 => ?_, hl.od, hl.sq, hl.cu⟩
    · by_cases hq : q = i
      · subst hq
        refine ⟨m5, ?_⟩
        rcases ms with h | ⟨s1, s2, s3, s4, s5⟩
        · exact .inl h
        · refine .inr ⟨s1, by omega, by omega, fun ha => ?_, s5⟩
          rcases s4 ha with h | h
          · exact h
          · exact absurd h.2.2 he
      · exact hd q q0 q1 (by omega)
    · rcases hl.bd j j0 j1 with h | h
      · exact .inl h
      · exact .inr ⟨h.1, by omega⟩
/-- between two slots -/
structure LS (b : Int → Nat → Int) (n : Int) (ask : Bool) (t : Int) (s : FS) : Prop where
  rw : ∀ q, 0 ≤ q → q < n → LRow b ask t q (s.a q)
  ll : LL b n ask t 0 s.a s.o s.k
theorem ls_slot {b : Int → Nat → Int} {f : Int → Int → Nat → Int} {n : Int} {ask : Bool} {d : Int → Nat → Int} {m t : Int} {s : FS} (n0 : 0 ≤ n) (t0 : 0 ≤ t) (hb : ∀ q, 0 ≤ q → q < n → 1 ≤ b q 5) (h : LS b n ask t s) : LS b n ask (t + 1) (slotF f n ask d m t s) := by
  obtain ⟨hr, hl⟩ := h
  have h0 : LI b n ask t ((0 : Nat) : Int) { s with a := airA f n ask t (begN s.a f n ask t n.toNat) } := by
    refine ⟨fun q q0 q1 qw => by omega, fun q q0 q1 _ => (lrow_air q0 q1 t0 (hb q q0 q1) (hr q q0 q1)).1, hl.kn, hl.wh, hl.st, hl.aw, hl.ln, hl.bd, hl.od, hl.sq, fun j j0 j1 hc => ?_⟩
    have hw := hl.wh j j0 j1
    have hbd := hl.bd j j0 j1
    have := (lrow_air (f := f) hw.1 hw.2 t0 (hb _ hw.1 hw.2) (hr _ hw.1 hw.2)).2 hc
    rcases this with h | ⟨h1, h2⟩
    · show s.o j 2 ≤ airA f n ask t (begN s.a f n ask t n.toNat) (s.o j 0) 7
      rw [h]; omega
    · show s.o j 2 ≤ airA f n ask t (begN s.a f n ask t n.toNat) (s.o j 0) 7
      rw [h2]; exact hl.cu j j0 j1 h1
  have h1 : LI b n ask t (n.toNat : Int) (slotF f n ask d m t s) :=
    finN_ind (d := d) (m := m) (t := t) (s := { s with a := airA f n ask t (begN s.a f n ask t n.toNat) }) (fun i s => LI b n ask t i s) h0 n.toNat fun i s' hi hp => by
      have := li_fin (d := d) (m := m) (i := (i : Int)) (by omega) (by omega) t0 hp
      exact this
  obtain ⟨hd, hn, hl'⟩ := h1
  exact ⟨fun q q0 q1 => hd q q0 q1 (by omega), hl'.kn, hl'.wh, hl'.st, hl'.aw, hl'.ln, fun j j0 j1 => .inl (by rcases hl'.bd j j0 j1 with h | h <;> omega), hl'.od, hl'.sq, hl'.cu⟩
theorem ls_run {b : Int → Nat → Int} {f : Int → Int → Nat → Int} {n : Int} {ask : Bool} {d : Int → Nat → Int} {m : Int} (n0 : 0 ≤ n) (hb : ∀ q, 0 ≤ q → q < n → 1 ≤ b q 5) (T : Nat) : LS b n ask T (crS f n ask d m (st0 b n) T) :=
  crS_ind (fun t s => LS b n ask t s) ⟨fun q q0 q1 => ⟨by show (if 0 ≤ q ∧ q < n ∧ 5 < 7 then b q 5 else 0) = _; rw [if_pos ⟨q0, q1, by omega⟩], .inl (by show (if 0 ≤ q ∧ q < n ∧ 8 < 7 then b q 8 else 0) = 0; rw [if_neg (by omega)])⟩,
    ⟨Int.le_refl _, fun j j0 j1 => absurd j1 (by show ¬ j < 0; omega), fun j j0 j1 => absurd j1 (by show ¬ j < 0; omega), fun j j0 j1 => absurd j1 (by show ¬ j < 0; omega), fun j j0 j1 => absurd j1 (by show ¬ j < 0; omega), fun j j0 j1 => absurd j1 (by show ¬ j < 0; omega), fun j j0 j1 => absurd j1 (by show ¬ j + 1 < 0; omega), fun p j p0 pj j1 => absurd j1 (by show ¬ j < 0; omega), fun j j0 j1 => absurd j1 (by show ¬ j < 0; omega)⟩⟩ T fun t s' _ hp => by
      have := ls_slot (f := f) (d := d) (m := m) n0 (show (0 : Int) ≤ t by omega) hb hp
      exact this
/-- the loop over the bursts: what is free from when -/
structure FI (n : Int) (o : Int → Nat → Int) (K i : Int) (v : Int → Nat → Int) : Prop where
  i0 : 0 ≤ i
  iK : i ≤ K
  fr : ∀ q, 0 ≤ q → q < n → v q 0 = 0 ∨ ∃ j, 0 ≤ j ∧ j < i ∧ o j 0 = q ∧ v q 0 = o j 2
theorem fi_next {n : Int} {o : Int → Nat → Int} {K i : Int} {v : Int → Nat → Int} (h : FI n o K i v) (hi : i < K) : FI n o K (i + 1) (setA v (o i 0) 0 (o i 2)) := by
  refine ⟨by have := h.i0; omega, by omega, fun q q0 q1 => ?_⟩
  by_cases hq : q = o i 0
  · subst hq
    exact .inr ⟨i, h.i0, by omega, rfl, by rw [row_at, if_pos rfl]⟩
  · rw [row_ne hq]
    rcases h.fr q q0 q1 with h1 | ⟨j, j0, j1, j2, j3⟩
    · exact .inl h1
    · exact .inr ⟨j, j0, by omega, j2, j3⟩
theorem vc4 : VC4 := by
  intro b n l f m ask T d k hu n0 m0 k0
  refine ⟨trivial, fun v8 h8 _ _ k1 => ⟨trivial, fun v9 h9 => ⟨fun _ => by simp [h8], fun hc => ⟨hu, fun o K a N E ho hK ha hN hE hK0 hN0 hK1 hN1 => ⟨fun he => ?_, fun he => ?_⟩⟩⟩⟩⟩
  · have : K = 0 := by rw [hK]; unfold crK; rw [if_neg (by rw [← hE]; exact he)]
    simp [h8, this]
  have he : crE b n l f m ask T d k = 0 := by rw [← hE]; omega
  have hcc : ccE b n l f m ask T = 0 := by unfold crE at he; grind
  obtain ⟨cn, cm, cT, cb⟩ := cc_ok hcc
  have eK : K = (crF b n f ask T d k).k := by rw [hK]; unfold crK; rw [if_pos he]
  have eo : o = (crF b n f ask T d k).o := ho
  have hb1 : ∀ q, 0 ≤ q → q < n → 1 ≤ b q 5 ∧ b q 5 ≤ 200 := fun q q0 q1 => by have := cb q q0 q1; omega
  have hls := ls_run (f := f) (ask := ask) (d := d) (m := k) (b := b) (n := n) (by omega) (fun q q0 q1 => (hb1 q q0 q1).1) T.toNat
  have eT : ((T.toNat : Nat) : Int) = T := by omega
  rw [eT] at hls
  have hl : LL b n ask T 0 (crF b n f ask T d k).a o K := by rw [eK, eo]; exact hls.ll
  clear hls
  refine ⟨by omega, fun _ => ⟨fun i _ v => FI n o K i v, fun i _ _ => (K - i).toNat, ⟨by omega, by omega, fun q _ _ => .inl rfl⟩, ?_⟩⟩
  rintro i v16 v hI
  have i0 := hI.i0
  refine ⟨fun hi => ?_, fun _ => by simp [h8]⟩
  have w0 := hl.wh i i0 hi
  have hs := hl.st i i0 hi
  have has := hl.aw i i0 hi
  have hln := hl.ln i i0 hi
  have hbd : o i 2 ≤ T := by rcases hl.bd i i0 hi with h | h <;> omega
  have hb := hb1 _ w0.1 w0.2
  have hfr : v (o i 0) 0 ≤ o i 1 := by
    rcases hI.fr _ w0.1 w0.2 with h | ⟨j, j0, j1, j2, j3⟩
    · omega
    · rw [j3]; exact hl.sq j i j0 j1 hi j2
  have hod : 0 < i → o (i - 1) 2 < o i 2 ∨ (o (i - 1) 2 = o i 2 ∧ o (i - 1) 0 < o i 0) := fun h => by
    have := hl.od (i - 1) (by omega) (by omega)
    rw [show i - 1 + 1 = i by omega] at this
    exact this
  have hN := fi_next hI hi
  have hm : (K - (i + 1)).toNat < (K - i).toNat := by omega
  have hln1 : ask = true → o i 3 = 0 → o i 2 - o i 1 = 1 := fun h1 h2 => by rw [if_pos h1, if_pos h2] at hln; exact hln
  have hln2 : ask = true → o i 3 ≠ 0 → o i 2 - o i 1 = 1 + b (o i 0) 5 := fun h1 h2 => by rw [if_pos h1, if_neg h2] at hln; exact hln
  have hln3 : ¬ ask = true → o i 2 - o i 1 = b (o i 0) 5 := fun h1 => by rw [if_neg h1] at hln; exact hln
  clear hln hI hl cb ho hK ha hE
  (repeat' (first | exact True.intro | exact hN | exact hm | apply And.intro | intro _)) <;> (try grind)
end Go.Proofs.YtkagcjibneigdaaDoor
