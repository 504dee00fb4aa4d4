/- Contests: frames are counted. -/
import Derived.Test.YtkagcjibneigdaaDoorP3
import Derived.Test.YtkagcjibneigdaaDoorC9
import Derived.Test.YtkagcjibneigdaaDoorE3
namespace Go.Proofs.YtkagcjibneigdaaDoor
open Go Go.RowKit Go.Proofs.YtkagcjibneigdaaDoor.Vc
/-- frames left and tries, behind one more burst -/
def rpS (i : Int) (r : Nat → Int) (s : Int × Int) : Int × Int :=
  if r 0 = i then (if ¬ r 4 = 0 ∨ s.2 + 1 = 7 then (s.1 - 1, 0) else (s.1, s.2 + 1)) else s
def rp (b o : Int → Nat → Int) (i : Int) : Nat → Int × Int
  | 0 => (b i 4, b i 3)
  | j + 1 => rpS i (o j) (rp b o i j)
def rpI (b o : Int → Nat → Int) (i j : Int) : Int × Int := rp b o i j.toNat
theorem rp_succ {b o : Int → Nat → Int} {i j : Int} (j0 : 0 ≤ j) : rpI b o i (j + 1) = rpS i (o j) (rpI b o i j) := by
  unfold rpI
  rw [show (j + 1).toNat = j.toNat + 1 by omega]
  show rpS i (o (j.toNat : Int)) _ = _
  rw [show ((j.toNat : Nat) : Int) = j by omega]
theorem rp_congr {b o o' : Int → Nat → Int} {i : Int} : ∀ {j : Nat}, (∀ z : Int, z < j → o' z = o z) → rp b o' i j = rp b o i j
  | 0, _ => rfl
  | j + 1, h => by
    show rpS i (o' j) (rp b o' i j) = rpS i (o j) (rp b o i j)
    rw [h j (by omega), rp_congr fun z hz => h z (by omega)]
theorem rpI_congr {b o o' : Int → Nat → Int} {i j k : Int} (h : ∀ z : Int, z < k → o' z = o z) (hj : j ≤ k) (j0 : 0 ≤ j) : rpI b o' i j = rpI b o i j :=
  rp_congr fun z hz => h z (by omega)
theorem chk_t {c w n t : Int} (h : chkE c w n t = 0) : 0 ≤ t ∧ t ≤ 6 := by unfold chkE at h; grind
theorem se_0 {c w n t e d : Int} (h : chkE c w n t = 0) (he : e ≤ 3) (d0 : 0 ≤ d) (d1 : d ≤ 1099511627776) (hn : e < 2 ∨ n ≤ 0) : SE c w n t e d = 0 := by
  unfold SE
  rw [if_pos h, if_neg (by omega), if_neg (by omega)]
/-- a station's row -/
structure KR (b : Int → Nat → Int) (i : Int) (r : Nat → Int) : Prop where
  ai : r 5 = b i 5
  to : r 6 = b i 6
  ca : r 0 = b i 0
  ok : chkE (r 0) (r 1) (r 2) (r 3) = 0
  fr : 0 ≤ r 4 ∧ r 4 ≤ b i 4
  se : r 8 ≠ 0 → r 4 ≠ 0 ∧ r 2 ≤ 0
theorem kr_air {b a : Int → Nat → Int} {f : Int → Int → Nat → Int} {n t i : Int} {ask : Bool} (i0 : 0 ≤ i) (i1 : i < n) (t0 : 0 ≤ t) (h : KR b i (a i)) :
    KR b i (airA f n ask t (begN a f n ask t n.toNat) i) ∧ airA f n ask t (begN a f n ask t n.toNat) i 4 = a i 4 ∧ airA f n ask t (begN a f n ask t n.toNat) i 3 = a i 3 := by
  have hA := air_row f ask t (begN a f n ask t n.toNat) i0 i1
  have hB := beg_row a f ask t i0 i1
  generalize begN a f n ask t n.toNat = c at *
  have hc : KR b i (c i) ∧ c i 4 = a i 4 ∧ c i 3 = a i 3 := by
    cases hB with
    | same hh => exact ⟨⟨by rw [hh]; exact h.ai, by rw [hh]; exact h.to, by rw [hh]; exact h.ca, by rw [hh, hh, hh, hh]; exact h.ok, by rw [hh]; exact h.fr, by rw [hh, hh, hh]; exact h.se⟩, hh 4, hh 3⟩
    | step hf hp hi e0 e1 e2 e3 =>
      have hs := se_0 (e := 0) (d := 0) h.ok (by omega) (by omega) (by omega) (.inl (by omega))
      have hk := st_chk _ _ _ _ _ _ hs
      have s0 : SC (a i 0) (a i 1) (a i 2) (a i 3) 0 0 = a i 0 := by unfold SC; rw [if_pos hs]
      have s1 : SW (a i 0) (a i 1) (a i 2) (a i 3) 0 0 = stW (a i 0) (a i 1) (a i 2) (a i 3) 0 0 := by unfold SW; rw [if_pos hs]
      have s2 : SN (a i 0) (a i 1) (a i 2) (a i 3) 0 0 = stN (a i 0) (a i 1) (a i 2) (a i 3) 0 0 := by unfold SN; rw [if_pos hs]
      have s3 : SR (a i 0) (a i 1) (a i 2) (a i 3) 0 0 = stT (a i 0) (a i 1) (a i 2) (a i 3) 0 0 := by unfold SR; rw [if_pos hs]
      have s4 : stT (a i 0) (a i 1) (a i 2) (a i 3) 0 0 = a i 3 := by unfold stT; rfl
      rw [s0] at e0
      rw [s1] at e1
      rw [s2] at e2
      rw [s3] at e3
      refine ⟨⟨by rw [hi 5 (by omega)]; exact h.ai, by rw [hi 6 (by omega)]; exact h.to, by rw [e0]; exact h.ca, by rw [e0, e1, e2, e3]; exact hk, by rw [hi 4 (by omega)]; exact h.fr, fun h8 => ?_⟩, hi 4 (by omega), by rw [e3, s4]⟩
      rw [hi 8 (by omega)] at h8
      have := (h.se h8).2
      omega
    | send hf hp s =>
      have o0 := s.ot 0 (by omega) (by omega) (by omega) (by omega)
      have o1 := s.ot 1 (by omega) (by omega) (by omega) (by omega)
      have o2 := s.ot 2 (by omega) (by omega) (by omega) (by omega)
      have o3 := s.ot 3 (by omega) (by omega) (by omega) (by omega)
      have o4 := s.ot 4 (by omega) (by omega) (by omega) (by omega)
      exact ⟨⟨by rw [s.ot 5 (by omega) (by omega) (by omega) (by omega)]; exact h.ai, by rw [s.ot 6 (by omega) (by omega) (by omega) (by omega)]; exact h.to, by rw [o0]; exact h.ca, by rw [o0, o1, o2, o3]; exact h.ok, by rw [o4]; exact h.fr, fun _ => ⟨by rw [o4]; exact hf.fr, by rw [o2]; exact hp⟩⟩, o4, o3⟩
  obtain ⟨hk, h4, h3⟩ := hc
  have x0 := hA.ot 0 (by omega) (by omega) (by omega) (by omega)
  have x1 := hA.ot 1 (by omega) (by omega) (by omega) (by omega)
  have x2 := hA.ot 2 (by omega) (by omega) (by omega) (by omega)
  have x3 := hA.ot 3 (by omega) (by omega) (by omega) (by omega)
  have x4 := hA.ot 4 (by omega) (by omega) (by omega) (by omega)
  refine ⟨⟨by rw [hA.ot 5 (by omega) (by omega) (by omega) (by omega)]; exact hk.ai, by rw [hA.ot 6 (by omega) (by omega) (by omega) (by omega)]; exact hk.to, by rw [x0]; exact hk.ca, by rw [x0, x1, x2, x3]; exact hk.ok, by rw [x4]; exact hk.fr, fun h8 => ?_⟩, by rw [x4]; exact h4, by rw [x3]; exact h3⟩
  rw [x4, x2]
  refine hk.se fun hc => h8 ?_
  rw [hA.en, if_neg (fun hh => by have := (ans_req hh).2.2.1; rw [sd_no t0 hc] at this; cases this)]
  exact hc
/-- an event ends -/
theorem kr_fin {b : Int → Nat → Int} {i dv : Int} {c : Int → Nat → Int} (d0 : 0 ≤ dv) (d1 : dv ≤ 1099511627776) (h8 : c i 8 ≠ 0) (h : KR b i (c i)) :
    KR b i (finA c i dv i) ∧ (finA c i dv i 4, finA c i dv i 3) = rpS i (buA c i 0) (c i 4, c i 3) := by
  obtain ⟨f4, f2⟩ := h.se h8
  have hev : evI (c i) = 2 ∧ c i 10 = 0 ∨ evI (c i) = 3 ∧ c i 10 ≠ 0 := by
    unfold evI
    by_cases h10 : c i 10 = 0
    · rw [if_pos h10]; exact .inl ⟨rfl, h10⟩
    · rw [if_neg h10]; exact .inr ⟨rfl, h10⟩
  have hs : SE (c i 0) (c i 1) (c i 2) (c i 3) (evI (c i)) dv = 0 := se_0 h.ok (by omega) d0 d1 (.inr f2)
  have hk := st_chk _ _ _ _ _ _ hs
  have ht := chk_t h.ok
  obtain ⟨e0, e1, e2, e3⟩ := stp_lo (c := c) (i := i) (ev := evI (c i)) (d := dv)
  have s0 : SC (c i 0) (c i 1) (c i 2) (c i 3) (evI (c i)) dv = c i 0 := by unfold SC; rw [if_pos hs]
  have s1 : SW (c i 0) (c i 1) (c i 2) (c i 3) (evI (c i)) dv = stW (c i 0) (c i 1) (c i 2) (c i 3) (evI (c i)) dv := by unfold SW; rw [if_pos hs]
  have s2 : SN (c i 0) (c i 1) (c i 2) (c i 3) (evI (c i)) dv = stN (c i 0) (c i 1) (c i 2) (c i 3) (evI (c i)) dv := by unfold SN; rw [if_pos hs]
  have s3 : SR (c i 0) (c i 1) (c i 2) (c i 3) (evI (c i)) dv = stT (c i 0) (c i 1) (c i 2) (c i 3) (evI (c i)) dv := by unfold SR; rw [if_pos hs]
  have sg : SG (c i 0) (c i 1) (c i 2) (c i 3) (evI (c i)) dv = true ↔ (evI (c i) = 3 ∧ c i 3 = 6) := by
    unfold SG stG
    rw [hs]
    simp
  rw [s0] at e0
  rw [s1] at e1
  rw [s2] at e2
  rw [s3] at e3
  have lo : ∀ g, g < 4 → finA c i dv i g = stpA c i (evI (c i)) dv i g := fun g hg => by
    unfold finA
    split
    · rw [row_at, if_neg (by omega), row_at, if_neg (by omega)]
    · rw [row_at, if_neg (by omega)]
  have h4 : finA c i dv i 4 = if (evI (c i) = 3 ∧ c i 3 = 6) ∨ c i 10 = 0 then c i 4 - 1 else c i 4 := by
    unfold finA
    by_cases hh : SG (c i 0) (c i 1) (c i 2) (c i 3) (evI (c i)) dv = true ∨ c i 10 = 0
    · rw [if_pos hh, if_pos (by rw [← sg]; exact hh), row_at, if_neg (by omega), row_at, if_pos rfl]
    · rw [if_neg hh, if_neg (by rw [← sg]; exact hh), row_at, if_neg (by omega), stp_hi (by omega)]
  obtain ⟨f8, fo⟩ := fin_hi (c := c) (i := i) (d := dv)
  refine ⟨⟨by rw [fo 5 (by omega) (by omega)]; exact h.ai, by rw [fo 6 (by omega) (by omega)]; exact h.to, by rw [lo 0 (by omega), e0]; exact h.ca, by rw [lo 0 (by omega), lo 1 (by omega), lo 2 (by omega), lo 3 (by omega), e0, e1, e2, e3]; exact hk, ?_, fun hh => absurd f8 hh⟩, ?_⟩
  · have := h.fr
    rw [h4]
    split <;> omega
  · rw [lo 3 (by omega), e3, h4]
    unfold rpS
    rw [bu_0, bu_4, if_pos rfl]
    unfold stT
    rcases hev with ⟨he, h10⟩ | ⟨he, h10⟩
    · rw [he]
      simp [h10]
    · rw [he]
      by_cases h6 : c i 3 = 6
      · simp [h10, h6]
      · simp [h10, h6]
        omega
structure CL (b : Int → Nat → Int) (n : Int) (a o : Int → Nat → Int) (k : Int) : Prop where
  kn : 0 ≤ k
  eq : ∀ i, 0 ≤ i → i < n → rpI b o i k = (a i 4, a i 3)
  ne : ∀ i j, 0 ≤ i → i < n → 0 ≤ j → j < k → o j 0 = i → (rpI b o i j).1 ≠ 0
  bd : ∀ i j, 0 ≤ i → i < n → 0 ≤ j → j ≤ k → 0 ≤ (rpI b o i j).1 ∧ (rpI b o i j).1 ≤ 1000 ∧ 0 ≤ (rpI b o i j).2 ∧ (rpI b o i j).2 ≤ 6
structure CI (b : Int → Nat → Int) (n : Int) (s : FS) : Prop where
  u0 : 0 ≤ s.u
  rw : ∀ i, 0 ≤ i → i < n → KR b i (s.a i)
  ll : CL b n s.a s.o s.k
theorem ci_fin {b : Int → Nat → Int} {n t i : Int} {d : Int → Nat → Int} {m : Int} {s : FS} (hd : ∀ u, 0 ≤ u → u < m → 0 ≤ d u 0 ∧ d u 0 ≤ 1099511627776) (hb : ∀ q, 0 ≤ q → q < n → b q 4 ≤ 1000) (t0 : 0 ≤ t) (i0 : 0 ≤ i) (i1 : i < n) (h : CI b n s) : CI b n (finS d m t s i) := by
  obtain ⟨u0, hr, hl⟩ := h
  have kn := hl.kn
  unfold finS
  split
  · rename_i he
    have h8 : s.a i 8 ≠ 0 := by omega
    have hdv : 0 ≤ drI d m s.u ∧ drI d m s.u ≤ 1099511627776 := by
      unfold drI
      split
      · rename_i hu; exact hd _ u0 hu
      · omega
    obtain ⟨k1, k2⟩ := kr_fin hdv.1 hdv.2 h8 (hr i i0 i1)
    have k3 := (hr i i0 i1).se h8
    have lo : ∀ z, z < s.k → appA s.o s.k (buA s.a i) z = s.o z := fun z hz => app_lo hz
    have hi : ∀ q, rpI b (appA s.o s.k (buA s.a i)) q (s.k + 1) = rpS q (buA s.a i 0) (rpI b s.o q s.k) := fun q => by
      rw [rp_succ kn, rpI_congr lo (Int.le_refl _) kn]
      have : appA s.o s.k (buA s.a i) s.k = buA s.a i 0 := by funext g; exact app_hi g
      rw [this]
    have heq : ∀ q, 0 ≤ q → q < n → rpI b (appA s.o s.k (buA s.a i)) q (s.k + 1) = (finA s.a i (drI d m s.u) q 4, finA s.a i (drI d m s.u) q 3) := fun q q0 q1 => by
      rw [hi, hl.eq q q0 q1]
      by_cases hq : q = i
      · subst hq; exact k2.symm
      · rw [fin_ne hq]
        unfold rpS
        rw [bu_0, if_neg (fun e => hq e.symm)]
    have hrw : ∀ q, 0 ≤ q → q < n → KR b q (finA s.a i (drI d m s.u) q) := fun q q0 q1 => by
      by_cases hq : q = i
      · subst hq; exact k1
      · rw [fin_ne hq]; exact hr q q0 q1
    refine ⟨by show 0 ≤ if s.u < m then s.u + 1 else s.u; split <;> omega, hrw, by show 0 ≤ s.k + 1; omega, heq, fun q j q0 q1 j0 j1 => ?_, fun q j q0 q1 j0 j1 => ?_⟩
    · show appA s.o s.k (buA s.a i) j 0 = q → (rpI b (appA s.o s.k (buA s.a i)) q j).1 ≠ 0
      have j1 : j < s.k + 1 := j1
      by_cases hj : j < s.k
      · rw [app_lo hj, rpI_congr lo (by omega) j0]; exact hl.ne q j q0 q1 j0 hj
      · obtain rfl : j = s.k := by omega
        rw [app_hi, bu_0, rpI_congr lo (Int.le_refl _) j0, hl.eq q q0 q1]
        rintro rfl
        exact k3.1
    · have j1 : j ≤ s.k + 1 := j1
      show 0 ≤ (rpI b (appA s.o s.k (buA s.a i)) q j).1 ∧ (rpI b (appA s.o s.k (buA s.a i)) q j).1 ≤ 1000 ∧ 0 ≤ (rpI b (appA s.o s.k (buA s.a i)) q j).2 ∧ (rpI b (appA s.o s.k (buA s.a i)) q j).2 ≤ 6
      by_cases hj : j ≤ s.k
      · rw [rpI_congr lo hj j0]; exact hl.bd q j q0 q1 j0 hj
      · obtain rfl : j = s.k + 1 := by omega
        rw [heq q q0 q1]
        have h1 := hrw q q0 q1
        have h2 := chk_t h1.ok
        have h3 := h1.fr
        have h4 := hb q q0 q1
        exact ⟨h3.1, by show finA s.a i (drI d m s.u) q 4 ≤ 1000; omega, h2.1, h2.2⟩
  · exact ⟨u0, hr, hl⟩
theorem ci_slot {b : Int → Nat → Int} {f : Int → Int → Nat → Int} {n t : Int} {ask : Bool} {d : Int → Nat → Int} {m : Int} {s : FS} (n0 : 0 ≤ n) (hd : ∀ u, 0 ≤ u → u < m → 0 ≤ d u 0 ∧ d u 0 ≤ 1099511627776) (hb : ∀ q, 0 ≤ q → q < n → b q 4 ≤ 1000) (t0 : 0 ≤ t) (h : CI b n s) : CI b n (slotF f n ask d m t s) := by
  have hx := fun q q0 q1 => kr_air (f := f) (ask := ask) q0 q1 t0 (h.rw q q0 q1)
  have h0 : CI b n { s with a := airA f n ask t (begN s.a f n ask t n.toNat) } :=
    ⟨h.u0, fun q q0 q1 => (hx q q0 q1).1, h.ll.kn, fun q q0 q1 => by
      show _ = (airA f n ask t (begN s.a f n ask t n.toNat) q 4, airA f n ask t (begN s.a f n ask t n.toNat) q 3)
      rw [(hx q q0 q1).2.1, (hx q q0 q1).2.2]; exact h.ll.eq q q0 q1, h.ll.ne, h.ll.bd⟩
  exact finN_ind (d := d) (m := m) (t := t) (s := { s with a := airA f n ask t (begN s.a f n ask t n.toNat) }) (fun _ s => CI b n s) h0 n.toNat fun i s' hi hp => ci_fin hd hb t0 (by omega) (by omega) hp
theorem ci_run {b : Int → Nat → Int} {f : Int → Int → Nat → Int} {n : Int} {ask : Bool} {d : Int → Nat → Int} {m : Int} (n0 : 0 ≤ n) (hd : ∀ u, 0 ≤ u → u < m → 0 ≤ d u 0 ∧ d u 0 ≤ 1099511627776) (hc : ∀ q, 0 ≤ q → q < n → chkE (b q 0) (b q 1) (b q 2) (b q 3) = 0 ∧ 0 ≤ b q 4 ∧ b q 4 ≤ 1000) (T : Nat) : CI b n (crS f n ask d m (st0 b n) T) := by
  have lo : ∀ q g, 0 ≤ q → q < n → g < 7 → (st0 b n).a q g = b q g := fun q g q0 q1 hg => by
    show (if 0 ≤ q ∧ q < n ∧ g < 7 then b q g else 0) = _
    rw [if_pos ⟨q0, q1, hg⟩]
  refine crS_ind (fun _ s => CI b n s) ⟨Int.le_refl _, fun q q0 q1 => ⟨lo q 5 q0 q1 (by omega), lo q 6 q0 q1 (by omega), lo q 0 q0 q1 (by omega), by rw [lo q 0 q0 q1 (by omega), lo q 1 q0 q1 (by omega), lo q 2 q0 q1 (by omega), lo q 3 q0 q1 (by omega)]; exact (hc q q0 q1).1, by rw [lo q 4 q0 q1 (by omega)]; have := hc q q0 q1; omega, fun hh => absurd (by show (if 0 ≤ q ∧ q < n ∧ 8 < 7 then b q 8 else 0) = 0; rw [if_neg (by omega)]) hh⟩, Int.le_refl _, fun q q0 q1 => ?_, fun q j q0 q1 j0 j1 => absurd j1 (by show ¬ j < 0; omega), fun q j q0 q1 j0 j1 => ?_⟩ T fun t s' _ hp => ci_slot n0 hd (fun q q0 q1 => (hc q q0 q1).2.2) (by omega) hp
  · rw [lo q 4 q0 q1 (by omega), lo q 3 q0 q1 (by omega)]; rfl
  · have j1 : j ≤ 0 := j1
    obtain rfl : j = 0 := by omega
    have h1 := hc q q0 q1
    have h2 := chk_t h1.1
    exact ⟨h1.2.1, h1.2.2, h2.1, h2.2⟩
theorem vc5 : VC5 := by
  intro b n l f m ask T d k hu n0 m0 k0
  refine ⟨trivial, fun v8 h8 _ _ k1 => ⟨trivial, fun v9 h9 => ⟨fun _ => by simp [h8], fun hc => ⟨hu, fun o K a N E ho hK ha hN hE hK0 hN0 hK1 hN1 => ⟨fun he => ?_, fun he => ?_⟩⟩⟩⟩⟩
  · have : N = 0 := by rw [hN]; unfold crN; rw [if_neg (by rw [← hE]; exact he)]
    simp [h8, this]
  have he : crE b n l f m ask T d k = 0 := by rw [← hE]; omega
  have hcc : ccE b n l f m ask T = 0 := by unfold crE at he; grind
  have hdr : allI (drB d) k = true := by unfold crE at he; rw [hcc] at he; grind
  obtain ⟨cn, cm, cT, cb⟩ := cc_ok hcc
  have eN : N = n := by rw [hN]; unfold crN; rw [if_pos he]
  have eK : K = (crF b n f ask T d k).k := by rw [hK]; unfold crK; rw [if_pos he]
  have eo : o = (crF b n f ask T d k).o := ho
  have ea : a = (crF b n f ask T d k).a := ha
  have hs := ci_run (f := f) (ask := ask) (d := d) (m := k) (b := b) (n := n) (by omega) (fun u u0 u1 => by have := allI_at hdr u0 u1; unfold drB at this; exact of_decide_eq_true this) (fun q q0 q1 => by have := cb q q0 q1; omega) T.toNat
  have hr : ∀ i, 0 ≤ i → i < n → KR b i (a i) := by rw [ea]; exact hs.rw
  have hl : CL b n a o K := by rw [ea, eo, eK]; exact hs.ll
  clear hs
  refine ⟨fun h => absurd eN h, fun _ => ?_⟩
  refine ⟨fun i => 0 ≤ i ∧ i ≤ n, fun i => (n - i).toNat, ⟨by omega, by omega⟩, ?_⟩
  rintro i ⟨i0, i1⟩
  refine ⟨fun h => ⟨i0, fun _ => ⟨by omega, fun _ => ?_⟩⟩, fun h => ?_⟩
  · have i2 : i < n := by omega
    have ki := hr i i0 i2
    refine ⟨fun L t j => 0 ≤ j ∧ j ≤ K ∧ rpI b o i j = (L, t), fun L t j => (K - j).toNat, ⟨by omega, hK0, rfl⟩, ?_⟩
    rintro L t j ⟨j0, j1, hj⟩
    refine ⟨fun h2 => ⟨j0, fun _ => ⟨fun h3 => ⟨by omega, fun _ => ⟨⟨by omega, by omega, ?_⟩, by dsimp only; omega⟩⟩, fun h3 => ⟨fun h4 => ?_, fun h4 => ?_⟩⟩⟩, fun h2 => ⟨fun h3 => ?_, fun h3 => ⟨by omega, fun _ => ⟨⟨by omega, by omega⟩, by dsimp only; omega⟩⟩⟩⟩
    · rw [rp_succ j0, hj]; unfold rpS; rw [if_neg h3]
    · have := hl.ne i j i0 i2 j0 h2 (by omega)
      rw [hj] at this
      exact absurd h4 this
    · have hb := hl.bd i j i0 i2 j0 j1
      rw [hj] at hb
      have hb : 0 ≤ L ∧ L ≤ 1000 ∧ 0 ≤ t ∧ t ≤ 6 := hb
      have h3 : o j 0 = i := by omega
      refine ⟨by omega, fun _ => ⟨fun h5 => ⟨by omega, fun _ => ⟨by omega, fun _ => ⟨⟨by omega, by omega, ?_⟩, by dsimp only; omega⟩⟩⟩, fun h5 => ⟨by omega, fun _ => ⟨⟨by omega, by omega, ?_⟩, by dsimp only; omega⟩⟩⟩⟩
      · rw [rp_succ j0, hj]; unfold rpS; rw [if_pos h3, if_pos h5]
      · rw [rp_succ j0, hj]; unfold rpS; rw [if_pos h3, if_neg h5]
    · have hj2 : j = K := by omega
      subst hj2
      have := hl.eq i i0 i2
      rw [hj] at this
      have e4 : L = a i 4 := congrArg Prod.fst this
      have e3 : t = a i 3 := congrArg Prod.snd this
      exfalso
      have := ki.ai; have := ki.to; have := ki.ca
      omega
  · refine ⟨fun _ => ⟨fun q q0 q1 => ?_⟩, fun v16 h16 => ?_⟩
    · have := (hr q q0 (by omega)).ca
      have := hu.h q q0 (by omega)
      omega
    · have : v16 = 0 := by
        rw [h16, eN]
        refine cc_0 ⟨cn, cm, cT, allI_of fun q q0 q1 => ?_⟩
        have h1 := hr q q0 q1
        have h2 := cb q q0 q1
        unfold ccS
        refine decide_eq_true ⟨h2.1, h2.2.1, h1.ok, ⟨h1.fr.1, by have := h1.fr.2; omega⟩, by rw [h1.ai]; omega, by rw [h1.to]; omega, by rw [h1.to]; exact h2.2.2.2.2.2.2⟩
      simp [h8, this]
end Go.Proofs.YtkagcjibneigdaaDoor
