/- Contests in plain words: a slot, station by station. -/
import Derived.Test.YtkagcjibneigdaaDoorE
namespace Go.Proofs.YtkagcjibneigdaaDoor
open Go Go.RowKit Go.Proofs.YtkagcjibneigdaaDoor.Vc
theorem row_ne {a : Int → Nat → Int} {t z j : Int} {g : Nat} (h : j ≠ t) : setA a t g z j = a j := by
  funext f
  show (if j = t ∧ f = g then z else a j f) = a j f
  rw [if_neg (fun hh => h hh.1)]
theorem row_at {a : Int → Nat → Int} {t z : Int} {g f : Nat} : setA a t g z t f = if f = g then z else a t f := by
  show (if t = t ∧ f = g then z else a t f) = _
  by_cases h : f = g <;> simp [h]
theorem stp_ne {c : Int → Nat → Int} {i ev d q : Int} (h : q ≠ i) : stpA c i ev d q = c q := by unfold stpA; rw [row_ne h, row_ne h, row_ne h, row_ne h]
theorem stp_hi {c : Int → Nat → Int} {i ev d : Int} {g : Nat} (h : 4 ≤ g) : stpA c i ev d i g = c i g := by
  unfold stpA
  rw [row_at, if_neg (by omega), row_at, if_neg (by omega), row_at, if_neg (by omega), row_at, if_neg (by omega)]
theorem stp_lo {c : Int → Nat → Int} {i ev d : Int} : stpA c i ev d i 0 = SC (c i 0) (c i 1) (c i 2) (c i 3) ev d ∧ stpA c i ev d i 1 = SW (c i 0) (c i 1) (c i 2) (c i 3) ev d ∧ stpA c i ev d i 2 = SN (c i 0) (c i 1) (c i 2) (c i 3) ev d ∧ stpA c i ev d i 3 = SR (c i 0) (c i 1) (c i 2) (c i 3) ev d := by
  unfold stpA
  simp [row_at]
theorem snd_ne {c : Int → Nat → Int} {ask : Bool} {t i q : Int} (h : q ≠ i) : sndA c ask t i q = c q := by
  unfold sndA
  split <;> simp only [row_ne h]
/-- what beginning to send leaves of a row -/
structure Snd (r r' : Nat → Int) (ask : Bool) (t : Int) : Prop where
  st : r' 7 = t
  en : r' 8 = if ask = true then t + 1 else t + r 5
  aw : r' 9 = 0
  sp : r' 10 = 0
  ot : ∀ g, g ≠ 7 → g ≠ 8 → g ≠ 9 → g ≠ 10 → r' g = r g
theorem snd_row (c : Int → Nat → Int) (ask : Bool) (t i : Int) : Snd (c i) (sndA c ask t i i) ask t := by
  unfold sndA
  cases ask
  · refine ⟨by simp [row_at], by simp [row_at], by simp [row_at], by simp [row_at], fun g h7 h8 h9 h10 => ?_⟩
    simp [row_at, h7, h8, h9, h10]
  · refine ⟨by simp [row_at], by simp [row_at], by simp [row_at], by simp [row_at], fun g h7 h8 h9 h10 => ?_⟩
    simp [row_at, h7, h8, h9, h10]
theorem begS_ne {a : Int → Nat → Int} {f : Int → Int → Nat → Int} {n : Int} {ask : Bool} {t : Int} {c : Int → Nat → Int} {i q : Int} (h : q ≠ i) : begS a f n ask t c i q = c q := by
  unfold begS
  split
  · rfl
  · split
    · exact stp_ne h
    · exact snd_ne h
/-- a station that may begin -/
structure Free (a : Int → Nat → Int) (f : Int → Int → Nat → Int) (n t i : Int) : Prop where
  idle : sdB a t i = false
  fr : a i 4 ≠ 0
  rs : a i 11 ≤ t
  hr : ∀ k, 0 ≤ k → k < n → sdB a t k = true → f i k 0 = 0
/-- what the beginning of a slot makes of a row -/
inductive Beg (a : Int → Nat → Int) (f : Int → Int → Nat → Int) (n : Int) (ask : Bool) (t i : Int) (r : Nat → Int) : Prop
  | same (h : ∀ g, r g = a i g)
  | step (h : Free a f n t i) (p : 0 < a i 2) (hi : ∀ g, 4 ≤ g → r g = a i g) (e0 : r 0 = SC (a i 0) (a i 1) (a i 2) (a i 3) 0 0) (e1 : r 1 = SW (a i 0) (a i 1) (a i 2) (a i 3) 0 0) (e2 : r 2 = SN (a i 0) (a i 1) (a i 2) (a i 3) 0 0) (e3 : r 3 = SR (a i 0) (a i 1) (a i 2) (a i 3) 0 0)
  | send (h : Free a f n t i) (p : a i 2 ≤ 0) (s : Snd (a i) r ask t)
theorem begS_row {a : Int → Nat → Int} {f : Int → Int → Nat → Int} {n : Int} {ask : Bool} {t : Int} {c : Int → Nat → Int} {i : Int} (n0 : 0 ≤ n) (h : c i = a i) : Beg a f n ask t i (begS a f n ask t c i i) := by
  unfold begS
  split
  · exact .same fun g => by rw [h]
  · rename_i hc
    have hf : Free a f n t i := by
      refine ⟨?_, ?_, ?_, fun k k0 k1 hk => ?_⟩
      · cases hs : sdB a t i with
        | false => rfl
        | true => exact absurd (.inl (.inl (.inl hs))) hc
      · intro hh; exact hc (.inl (.inl (.inr (by rw [h]; exact hh))))
      · rcases Int.lt_or_le t (a i 11) with hh | hh
        · exact absurd (.inl (.inr (by rw [h]; exact hh))) hc
        · exact hh
      · have ha : allI (okHr a f t i) n = true := by
          cases hh : allI (okHr a f t i) n with
          | true => rfl
          | false => exact absurd (.inr (by rw [hh]; simp)) hc
        have := allI_at ha k0 k1
        unfold okHr hrB at this
        rw [hk] at this
        by_cases h0 : f i k 0 = 0
        · exact h0
        · simp [h0] at this
    split
    · rename_i hp
      obtain ⟨e0, e1, e2, e3⟩ := stp_lo (c := c) (i := i) (ev := 0) (d := 0)
      rw [h] at hp e0 e1 e2 e3
      exact .step hf hp (fun g hg => by rw [stp_hi hg, h]) e0 e1 e2 e3
    · rename_i hp
      rw [h] at hp
      have := snd_row c ask t i
      rw [h] at this
      exact .send hf (by omega) this
theorem begN_row (a : Int → Nat → Int) (f : Int → Int → Nat → Int) (n : Int) (ask : Bool) (t : Int) (n0 : 0 ≤ n) : ∀ (k : Nat) (i : Int), 0 ≤ i → (i < k → Beg a f n ask t i (begN a f n ask t k i)) ∧ ((k : Int) ≤ i → begN a f n ask t k i = a i)
  | 0, i, i0 => ⟨fun h => by omega, fun _ => rfl⟩
  | k + 1, i, i0 => by
    have ih := begN_row a f n ask t n0 k i i0
    show (i < ((k + 1 : Nat) : Int) → Beg a f n ask t i (begS a f n ask t (begN a f n ask t k) k i)) ∧ (((k + 1 : Nat) : Int) ≤ i → begS a f n ask t (begN a f n ask t k) k i = a i)
    refine ⟨fun h => ?_, fun h => ?_⟩
    · by_cases hik : i = k
      · subst hik
        exact begS_row n0 (ih.2 (by omega))
      · rw [begS_ne hik]; exact ih.1 (by omega)
    · rw [begS_ne (by omega)]; exact ih.2 (by omega)
theorem beg_row (a : Int → Nat → Int) (f : Int → Int → Nat → Int) {n : Int} (ask : Bool) (t : Int) {i : Int} (i0 : 0 ≤ i) (i1 : i < n) : Beg a f n ask t i (begN a f n ask t n.toNat i) :=
  (begN_row a f n ask t (by omega) n.toNat i i0).1 (by omega)
/-! the lists of those that something holds of -/
theorem lstN_mem (p : Int → Bool) : ∀ (q : Nat) (i : Int), 0 ≤ i → i < q → p i = true → ∃ r, 0 ≤ r ∧ r < cntN p q ∧ lstN p q r 0 = i
  | 0, i, h0, h1, _ => by omega
  | q + 1, i, h0, h1, hp => by
    have hb := cntN_bd p q
    by_cases hq : p q = true
    · have e1 : cntN p (q + 1) = cntN p q + 1 := by show (if p q = true then cntN p q + 1 else cntN p q) = _; rw [if_pos hq]
      have e2 : lstN p (q + 1) = appA (lstN p q) (cntN p q) (setA zA 0 0 q) := by show (if p q = true then appA (lstN p q) (cntN p q) (setA zA 0 0 q) else lstN p q) = _; rw [if_pos hq]
      by_cases hi : i = q
      · refine ⟨cntN p q, hb.1, by omega, ?_⟩
        rw [e2, app_hi, hi]
        simp [setA]
      · obtain ⟨r, r0, r1, hr⟩ := lstN_mem p q i h0 (by omega) hp
        exact ⟨r, r0, by omega, by rw [e2, app_lo r1]; exact hr⟩
    · have e1 : cntN p (q + 1) = cntN p q := by show (if p q = true then cntN p q + 1 else cntN p q) = _; rw [if_neg hq]
      have e2 : lstN p (q + 1) = lstN p q := by show (if p q = true then appA (lstN p q) (cntN p q) (setA zA 0 0 q) else lstN p q) = _; rw [if_neg hq]
      have hi : i ≠ q := fun h => hq (h ▸ hp)
      obtain ⟨r, r0, r1, hr⟩ := lstN_mem p q i h0 (by omega) hp
      exact ⟨r, r0, by omega, by rw [e2]; exact hr⟩
theorem lstI_mem {p : Int → Bool} {n i : Int} (i0 : 0 ≤ i) (i1 : i < n) (hp : p i = true) : ∃ r, 0 ≤ r ∧ r < cntI p n ∧ lstI p n r 0 = i := lstN_mem p n.toNat i i0 (by omega) hp
theorem lst_nnN (p : Int → Bool) : ∀ (k : Nat) (r : Int), 0 ≤ lstN p k r 0
  | 0, _ => Int.le_refl _
  | k + 1, r => by
    show 0 ≤ (if p k = true then appA (lstN p k) (cntN p k) (setA zA 0 0 k) else lstN p k) r 0
    split
    · show 0 ≤ (if r < cntN p k then lstN p k r 0 else setA zA 0 0 k (r - cntN p k) 0)
      split
      · exact lst_nnN p k r
      · show 0 ≤ (if r - cntN p k = 0 ∧ 0 = 0 then (k : Int) else 0)
        split <;> omega
    · exact lst_nnN p k r
theorem lst_nn (p : Int → Bool) (n r : Int) : 0 ≤ lstI p n r 0 := lst_nnN p n.toNat r
/-- a row among those of a list -/
def inL (L : Int → Nat → Int) (k : Nat) (i : Int) : Prop := ∃ r : Int, 0 ≤ r ∧ r < k ∧ L r 0 = i
theorem inL_succ {L : Int → Nat → Int} {k : Nat} {i : Int} : inL L (k + 1) i ↔ inL L k i ∨ L k 0 = i := by
  constructor
  · rintro ⟨r, r0, r1, h⟩
    by_cases hr : r = k
    · subst hr; exact .inr h
    · exact .inl ⟨r, r0, by omega, h⟩
  · rintro (⟨r, r0, r1, h⟩ | h)
    · exact ⟨r, r0, by omega, h⟩
    · exact ⟨k, by omega, by omega, h⟩
theorem inL_iff {p : Int → Bool} {n i : Int} (i0 : 0 ≤ i) (i1 : i < n) : inL (lstI p n) (cntI p n).toNat i ↔ p i = true := by
  have hb := cntI_bd p (show 0 ≤ n by omega)
  constructor
  · rintro ⟨r, r0, r1, h⟩
    have := lstI_in p (show 0 ≤ n by omega) r0 (show r < cntI p n by omega)
    rw [h] at this
    exact this.2.2
  · intro hp
    obtain ⟨r, r0, r1, h⟩ := lstI_mem i0 i1 hp
    exact ⟨r, r0, by omega, h⟩
theorem sp_row (L : Int → Nat → Int) (c : Int → Nat → Int) (i : Int) : ∀ k : Nat, (∀ g, g ≠ 10 → spN L c k i g = c i g) ∧ (inL L k i → spN L c k i 10 = 1) ∧ (¬ inL L k i → spN L c k i 10 = c i 10)
  | 0 => ⟨fun _ _ => rfl, fun ⟨r, r0, r1, _⟩ => by omega, fun _ => rfl⟩
  | k + 1 => by
    obtain ⟨h1, h2, h3⟩ := sp_row L c i k
    have e : spN L c (k + 1) = setA (spN L c k) (L k 0) 10 1 := rfl
    rw [e, inL_succ]
    by_cases hi : L k 0 = i
    · subst hi
      refine ⟨fun g hg => by rw [row_at, if_neg hg]; exact h1 g hg, fun _ => by rw [row_at, if_pos rfl], fun h => absurd (.inr rfl) h⟩
    · rw [row_ne (fun h => hi h.symm)]
      exact ⟨h1, fun h => h2 (h.resolve_right hi), fun h => h3 fun hh => h (.inl hh)⟩
theorem an_row (t : Int) (L : Int → Nat → Int) (c : Int → Nat → Int) (i : Int) : ∀ k : Nat, (∀ g, g ≠ 8 → g ≠ 9 → anN t L c k i g = c i g) ∧ (inL L k i → anN t L c k i 9 = 1 ∧ anN t L c k i 8 = t + 1 + c i 5) ∧ (¬ inL L k i → anN t L c k i 9 = c i 9 ∧ anN t L c k i 8 = c i 8)
  | 0 => ⟨fun _ _ _ => rfl, fun ⟨r, r0, r1, _⟩ => by omega, fun _ => ⟨rfl, rfl⟩⟩
  | k + 1 => by
    obtain ⟨h1, h2, h3⟩ := an_row t L c i k
    have e : anN t L c (k + 1) = setA (setA (anN t L c k) (L k 0) 9 1) (L k 0) 8 ((t + 1) + anN t L c k (L k 0) 5) := rfl
    rw [e, inL_succ]
    by_cases hi : L k 0 = i
    · subst hi
      refine ⟨fun g h8 h9 => by rw [row_at, if_neg h8, row_at, if_neg h9]; exact h1 g h8 h9, fun _ => ⟨?_, ?_⟩, fun h => absurd (.inr rfl) h⟩
      · rw [row_at, if_neg (by omega), row_at, if_pos rfl]
      · rw [row_at, if_pos rfl, h1 5 (by omega) (by omega)]
    · rw [row_ne (fun h => hi h.symm), row_ne (fun h => hi h.symm)]
      exact ⟨h1, fun h => h2 (h.resolve_right hi), fun h => h3 fun hh => h (.inl hh)⟩
theorem rk_row (f : Int → Int → Nat → Int) (i : Int) (c : Int → Nat → Int) (q : Int) (q0 : 0 ≤ q) : ∀ k : Nat, (∀ g, g ≠ 11 → rkN f i c k q g = c q g) ∧ c q 11 ≤ rkN f i c k q 11 ∧ (q < k → q ≠ i → f q (c i 6) 0 ≠ 0 → c i 8 ≤ rkN f i c k q 11)
  | 0 => ⟨fun _ _ => rfl, Int.le_refl _, fun h => by omega⟩
  | k + 1 => by
    obtain ⟨h1, h2, h3⟩ := rk_row f i c q q0 k
    have e6 : rkN f i c k i 6 = c i 6 := by
      have : ∀ k : Nat, ∀ g, g ≠ 11 → rkN f i c k i g = c i g := fun k => by
        induction k with
        | zero => intro g _; rfl
        | succ k ih =>
          intro g hg
          show (if ¬ (k : Int) = i ∧ ¬ f k (rkN f i c k i 6) 0 = 0 then setA (rkN f i c k) k 11 (max (rkN f i c k k 11) (rkN f i c k i 8)) else rkN f i c k) i g = c i g
          split
          · rename_i hk
            rw [row_ne (fun h => hk.1 h.symm)]; exact ih g hg
          · exact ih g hg
      exact this k 6 (by omega)
    have e8 : rkN f i c k i 8 = c i 8 := by
      have : ∀ k : Nat, ∀ g, g ≠ 11 → rkN f i c k i g = c i g := fun k => by
        induction k with
        | zero => intro g _; rfl
        | succ k ih =>
          intro g hg
          show (if ¬ (k : Int) = i ∧ ¬ f k (rkN f i c k i 6) 0 = 0 then setA (rkN f i c k) k 11 (max (rkN f i c k k 11) (rkN f i c k i 8)) else rkN f i c k) i g = c i g
          split
          · rename_i hk
            rw [row_ne (fun h => hk.1 h.symm)]; exact ih g hg
          · exact ih g hg
      exact this k 8 (by omega)
    show (∀ g, g ≠ 11 → (if ¬ (k : Int) = i ∧ ¬ f k (rkN f i c k i 6) 0 = 0 then setA (rkN f i c k) k 11 (max (rkN f i c k k 11) (rkN f i c k i 8)) else rkN f i c k) q g = c q g) ∧ c q 11 ≤ (if ¬ (k : Int) = i ∧ ¬ f k (rkN f i c k i 6) 0 = 0 then setA (rkN f i c k) k 11 (max (rkN f i c k k 11) (rkN f i c k i 8)) else rkN f i c k) q 11 ∧ (q < ((k + 1 : Nat) : Int) → q ≠ i → f q (c i 6) 0 ≠ 0 → c i 8 ≤ (if ¬ (k : Int) = i ∧ ¬ f k (rkN f i c k i 6) 0 = 0 then setA (rkN f i c k) k 11 (max (rkN f i c k k 11) (rkN f i c k i 8)) else rkN f i c k) q 11)
    rw [e6, e8]
    by_cases hq : q = k
    · subst hq
      split
      · refine ⟨fun g hg => by rw [row_at, if_neg hg]; exact h1 g hg, ?_, fun _ _ _ => ?_⟩
        · rw [row_at, if_pos rfl]; omega
        · rw [row_at, if_pos rfl]; omega
      · rename_i hc
        exact ⟨h1, h2, fun _ hi hf => absurd ⟨hi, hf⟩ hc⟩
    · split
      · rw [row_ne hq]; exact ⟨h1, h2, fun h => h3 (by omega)⟩
      · exact ⟨h1, h2, fun h => h3 (by omega)⟩
theorem rs_row (f : Int → Int → Nat → Int) (n : Int) (L : Int → Nat → Int) (c : Int → Nat → Int) (q : Int) (q0 : 0 ≤ q) (q1 : q < n) (hL : ∀ r : Int, 0 ≤ r → 0 ≤ L r 0) : ∀ k : Nat, (∀ g, g ≠ 11 → rsN f n L c k q g = c q g) ∧ c q 11 ≤ rsN f n L c k q 11 ∧ (∀ r : Int, 0 ≤ r → r < k → q ≠ L r 0 → L r 0 < n → f q (c (L r 0) 6) 0 ≠ 0 → c (L r 0) 8 ≤ rsN f n L c k q 11)
  | 0 => ⟨fun _ _ => rfl, Int.le_refl _, fun r h0 h1 => by omega⟩
  | k + 1 => by
    obtain ⟨h1, h2, h3⟩ := rs_row f n L c q q0 q1 hL k
    have e : rsN f n L c (k + 1) = rkN f (L k 0) (rsN f n L c k) n.toNat := rfl
    obtain ⟨k1, k2, k3⟩ := rk_row f (L k 0) (rsN f n L c k) q q0 n.toNat
    rw [e]
    refine ⟨fun g hg => (k1 g hg).trans (h1 g hg), Int.le_trans h2 k2, fun r r0 r1 hr hn hf => ?_⟩
    by_cases hrk : r = k
    · subst hrk
      by_cases hLn : L k 0 < n
      · obtain ⟨p1, _, _⟩ := rs_row f n L c (L k 0) (hL _ (by omega)) hLn hL k
        have := k3 (by omega) hr (by rw [p1 6 (by omega)]; exact hf)
        rw [p1 8 (by omega)] at this
        exact this
      · exact absurd hn hLn
    · exact Int.le_trans (h3 r r0 (by omega) hr hn hf) k2
/-- what the air makes of a row -/
structure Air (f : Int → Int → Nat → Int) (n : Int) (ask : Bool) (t : Int) (c x : Int → Nat → Int) (i : Int) : Prop where
  ot : ∀ g, g ≠ 8 → g ≠ 9 → g ≠ 10 → g ≠ 11 → x i g = c i g
  sp : x i 10 = if badB c f n ask t i = true then 1 else c i 10
  aw : x i 9 = if ansB c f n ask t i = true then 1 else c i 9
  en : x i 8 = if ansB c f n ask t i = true then t + 1 + c i 5 else c i 8
  rs : c i 11 ≤ x i 11
  rv : ∀ q, 0 ≤ q → q < n → q ≠ i → ansB c f n ask t q = true → f i (c q 6) 0 ≠ 0 → t + 1 + c q 5 ≤ x i 11
theorem air_row (f : Int → Int → Nat → Int) {n : Int} (ask : Bool) (t : Int) (c : Int → Nat → Int) {i : Int} (i0 : 0 ≤ i) (i1 : i < n) : Air f n ask t c (airA f n ask t c) i := by
  have n0 : 0 ≤ n := by omega
  have hbd := cntI_bd (ansB c f n ask t) n0
  have eb := inL_iff (p := badB c f n ask t) i0 i1
  have hL : ∀ r : Int, 0 ≤ r → 0 ≤ lstI (ansB c f n ask t) n r 0 := fun r r0 => by
    rcases Int.lt_or_le r (cntI (ansB c f n ask t) n) with h | h
    · exact (lstI_in _ n0 r0 h).1
    · exact lst_nn _ n r
  have hx : airA f n ask t c = rsN f n (lstI (ansB c f n ask t) n) (anN t (lstI (ansB c f n ask t) n) (spN (lstI (badB c f n ask t) n) c (cntI (badB c f n ask t) n).toNat) (cntI (ansB c f n ask t) n).toNat) (cntI (ansB c f n ask t) n).toNat := rfl
  have all : ∀ q, 0 ≤ q → q < n → (∀ g, g ≠ 8 → g ≠ 9 → g ≠ 10 → anN t (lstI (ansB c f n ask t) n) (spN (lstI (badB c f n ask t) n) c (cntI (badB c f n ask t) n).toNat) (cntI (ansB c f n ask t) n).toNat q g = c q g) ∧
      (anN t (lstI (ansB c f n ask t) n) (spN (lstI (badB c f n ask t) n) c (cntI (badB c f n ask t) n).toNat) (cntI (ansB c f n ask t) n).toNat q 10 = if badB c f n ask t q = true then 1 else c q 10) ∧
      (anN t (lstI (ansB c f n ask t) n) (spN (lstI (badB c f n ask t) n) c (cntI (badB c f n ask t) n).toNat) (cntI (ansB c f n ask t) n).toNat q 9 = if ansB c f n ask t q = true then 1 else c q 9) ∧
      (anN t (lstI (ansB c f n ask t) n) (spN (lstI (badB c f n ask t) n) c (cntI (badB c f n ask t) n).toNat) (cntI (ansB c f n ask t) n).toNat q 8 = if ansB c f n ask t q = true then t + 1 + c q 5 else c q 8) := fun q q0 q1 => by
    obtain ⟨s1, s2, s3⟩ := sp_row (lstI (badB c f n ask t) n) c q (cntI (badB c f n ask t) n).toNat
    obtain ⟨a1, a2, a3⟩ := an_row t (lstI (ansB c f n ask t) n) (spN (lstI (badB c f n ask t) n) c (cntI (badB c f n ask t) n).toNat) q (cntI (ansB c f n ask t) n).toNat
    rw [inL_iff q0 q1] at s2 s3 a2 a3
    refine ⟨fun g h8 h9 h10 => by rw [a1 g h8 h9, s1 g h10], ?_, ?_, ?_⟩
    · rw [a1 10 (by omega) (by omega)]
      split
      · rename_i h; exact s2 h
      · rename_i h; exact s3 h
    · split
      · rename_i h; exact (a2 h).1
      · rename_i h; rw [(a3 h).1, s1 9 (by omega)]
    · split
      · rename_i h; rw [(a2 h).2, s1 5 (by omega)]
      · rename_i h; rw [(a3 h).2, s1 8 (by omega)]
  obtain ⟨r1, r2, r3⟩ := rs_row f n (lstI (ansB c f n ask t) n) (anN t (lstI (ansB c f n ask t) n) (spN (lstI (badB c f n ask t) n) c (cntI (badB c f n ask t) n).toNat) (cntI (ansB c f n ask t) n).toNat) i i0 i1 hL (cntI (ansB c f n ask t) n).toNat
  obtain ⟨b1, b2, b3, b4⟩ := all i i0 i1
  rw [hx]
  refine ⟨fun g h8 h9 h10 h11 => by rw [r1 g h11, b1 g h8 h9 h10], by rw [r1 10 (by omega), b2], by rw [r1 9 (by omega), b3], by rw [r1 8 (by omega), b4], by rw [← b1 11 (by omega) (by omega) (by omega)]; exact r2, fun q q0 q1 hq hp hf => ?_⟩
  obtain ⟨r, r0, rr, hr⟩ := lstI_mem q0 q1 hp
  obtain ⟨d1, d2, d3, d4⟩ := all q q0 q1
  have := r3 r r0 (by omega) (by rw [hr]; exact fun h => hq h.symm) (by rw [hr]; exact q1) (by rw [hr, d1 6 (by omega) (by omega) (by omega)]; exact hf)
  rw [hr, d4, if_pos hp] at this
  exact this
/-! the end of a slot -/
theorem fin_ne {c : Int → Nat → Int} {i d q : Int} (h : q ≠ i) : finA c i d q = c q := by
  unfold finA
  split
  · rw [row_ne h, row_ne h, stp_ne h]
  · rw [row_ne h, stp_ne h]
theorem fin_hi {c : Int → Nat → Int} {i d : Int} : finA c i d i 8 = 0 ∧ ∀ g, 5 ≤ g → g ≠ 8 → finA c i d i g = c i g := by
  unfold finA
  split
  · refine ⟨by rw [row_at, if_pos rfl], fun g h5 h8 => ?_⟩
    rw [row_at, if_neg h8, row_at, if_neg (by omega), stp_hi (by omega)]
  · refine ⟨by rw [row_at, if_pos rfl], fun g h5 h8 => ?_⟩
    rw [row_at, if_neg h8, stp_hi (by omega)]
end Go.Proofs.YtkagcjibneigdaaDoor
