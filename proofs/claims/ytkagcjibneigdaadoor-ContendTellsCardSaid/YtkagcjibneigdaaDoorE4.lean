/- The reference's contests against those of the program: what belongs together. -/
import Derived.Test.YtkagcjibneigdaaDoorP9
import Derived.Test.YtkagcjibneigdaaDoorP12
namespace Go.Proofs.YtkagcjibneigdaaDoor
open Go Go.RowKit Go.Proofs.YtkagcjibneigdaaDoor.Vc
/-- the stations of both -/
structure XR (n : Int) (xs c : Int → Nat → Int) : Prop where
  h : ∀ q g, 0 ≤ q → q < n → g < 7 → xs q g = c q g
/-- the reference's transmissions: those that still run at e belong to the stations that send -/
structure BR (n s e : Int) (x : Int → Prop) (ask : Bool) (c B : Int → Nat → Int) (nb : Int) : Prop where
  who : ∀ r, 0 ≤ r → r < nb → 0 ≤ B r 0 ∧ B r 0 < n ∧ B r 1 < s
  nw : ∀ r, 0 ≤ r → r < nb → B r 1 = e → e < B r 2
  al : ∀ r, 0 ≤ r → r < nb → e < B r 2 → c (B r 0) 7 = B r 1 ∧ c (B r 0) 8 = B r 2 ∧ (c (B r 0) 9 = 0 ↔ B r 3 = 0)
  gd : ∀ r, 0 ≤ r → r < nb → e < B r 2 → ¬ x (B r 1) → (c (B r 0) 10 = 0 ↔ ¬ B r 4 = 0)
  xx : ∀ r, 0 ≤ r → r < nb → e < B r 2 → x (B r 1) → B r 3 = 0 ∧ c (B r 0) 10 = 0 ∧ (B r 4 = 0 ↔ ask = true)
  ex : ∀ i, 0 ≤ i → i < n → e < c i 8 → ∃ r, 0 ≤ r ∧ r < nb ∧ B r 0 = i ∧ e < B r 2
  un : ∀ r q, 0 ≤ r → r < q → q < nb → e < B r 2 → e < B q 2 → B r 0 ≠ B q 0
section
variable {n s e t nb : Int} {x : Int → Prop} {ask : Bool} {c B : Int → Nat → Int} {f : Int → Int → Nat → Int}
theorem BR.on (h : BR n s e x ask c B nb) (hs : s ≤ e + 1) {bf : Int} (hb : s ≤ bf) {i : Int} (i0 : 0 ≤ i) (i1 : i < n) : onB B nb i e bf = sdB c e i := by
  apply Bool.eq_iff_iff.2
  rw [on_iff, sd_iff]
  constructor
  · rintro ⟨r, r0, r1, h0, h1, h2, h3⟩
    obtain ⟨a7, a8, _⟩ := h.al r r0 r1 h3
    rw [h0] at a7 a8
    omega
  · rintro ⟨h7, h8⟩
    obtain ⟨r, r0, r1, h0, h3⟩ := h.ex i i0 i1 h8
    have := h.who r r0 r1
    exact ⟨r, r0, r1, h0, by omega, by omega, h3⟩
theorem BR.start (h : BR n t t (fun _ => False) ask c B nb) : BR n (t + 1) t (fun s => s = t) ask c B nb :=
  ⟨fun r r0 r1 => by have := h.who r r0 r1; omega, h.nw, h.al, fun r r0 r1 hr _ => h.gd r r0 r1 hr (fun hf => hf), fun r r0 r1 hr hx => by have := h.who r r0 r1; have hx' : B r 1 = t := hx; omega, h.ex, h.un⟩
theorem BR.row (h : BR n s e x ask c B nb) {c' : Int → Nat → Int} (hc : ∀ q g, 0 ≤ q → q < n → 7 ≤ g → g ≤ 10 → c' q g = c q g) : BR n s e x ask c' B nb := by
  refine ⟨h.who, h.nw, fun r r0 r1 hr => ?_, fun r r0 r1 hr hx => ?_, fun r r0 r1 hr hx => ?_, fun i i0 i1 hi => ?_, h.un⟩
  · have hw := h.who r r0 r1
    rw [hc _ 7 hw.1 hw.2.1 (by omega) (by omega), hc _ 8 hw.1 hw.2.1 (by omega) (by omega), hc _ 9 hw.1 hw.2.1 (by omega) (by omega)]
    exact h.al r r0 r1 hr
  · have hw := h.who r r0 r1
    rw [hc _ 10 hw.1 hw.2.1 (by omega) (by omega)]
    exact h.gd r r0 r1 hr hx
  · have hw := h.who r r0 r1
    rw [hc _ 10 hw.1 hw.2.1 (by omega) (by omega)]
    exact h.xx r r0 r1 hr hx
  · rw [hc i 8 i0 i1 (by omega) (by omega)] at hi
    exact h.ex i i0 i1 hi
/-- one more transmission -/
theorem BR.push (h : BR n (t + 1) t (fun s => s = t) ask c B nb) (b0 : 0 ≤ nb) {i : Int} (i0 : 0 ≤ i) (i1 : i < n) (hid : sdB c t i = false) {c' E : Int → Nat → Int} (hne : ∀ q, q ≠ i → c' q = c q)
    (c7 : c' i 7 = t) (c8 : t < c' i 8) (c9 : c' i 9 = 0) (c10 : c' i 10 = 0) (e0 : E 0 0 = i) (e1 : E 0 1 = t) (e2 : E 0 2 = c' i 8) (e3 : E 0 3 = 0) (e4 : E 0 4 = 0 ↔ ask = true) :
    BR n (t + 1) t (fun s => s = t) ask c' (appA B nb E) (nb + 1) := by
  have lo : ∀ r, r < nb → appA B nb E r = B r := fun r hr => app_lo hr
  have hi : ∀ g, appA B nb E nb g = E 0 g := fun g => app_hi g
  have nei : ∀ r, 0 ≤ r → r < nb → t < B r 2 → B r 0 ≠ i := fun r r0 r1 hr hi => by
    obtain ⟨a7, a8, _⟩ := h.al r r0 r1 hr
    have hw := h.who r r0 r1
    rw [hi] at a7 a8
    have : sdB c t i = true := sd_iff.2 ⟨by omega, by omega⟩
    rw [hid] at this; cases this
  have cs : ∀ r, 0 ≤ r → r < nb + 1 → r < nb ∨ r = nb := fun r _ _ => by omega
  refine ⟨fun r r0 r1 => ?_, fun r r0 r1 hr => ?_, fun r r0 r1 hr => ?_, fun r r0 r1 hr hx => ?_, fun r r0 r1 hr hx => ?_, fun j j0 j1 hj => ?_, fun r q r0 rq q1 hr hq => ?_⟩
  · rcases cs r r0 r1 with hc | rfl
    · rw [lo r hc]; exact h.who r r0 hc
    · rw [hi, hi, e0, e1]; omega
  · rcases cs r r0 r1 with hc | rfl
    · rw [lo r hc] at hr ⊢; exact h.nw r r0 hc hr
    · rw [hi, e2]; exact c8
  · rcases cs r r0 r1 with hc | rfl
    · rw [lo r hc] at hr ⊢
      rw [hne _ (nei r r0 hc hr)]
      exact h.al r r0 hc hr
    · rw [hi, hi, hi, hi, e0, e1, e2, e3]
      exact ⟨c7, rfl, by rw [c9]⟩
  · rcases cs r r0 r1 with hc | rfl
    · rw [lo r hc] at hr hx ⊢
      rw [hne _ (nei r r0 hc hr)]
      exact h.gd r r0 hc hr hx
    · rw [hi, e1] at hx; exact absurd rfl hx
  · rcases cs r r0 r1 with hc | rfl
    · rw [lo r hc] at hr hx ⊢
      rw [hne _ (nei r r0 hc hr)]
      exact h.xx r r0 hc hr hx
    · rw [hi, hi, hi, e0, e3]
      exact ⟨rfl, c10, e4⟩
  · by_cases hji : j = i
    · subst hji
      exact ⟨nb, b0, by omega, by rw [hi, e0], by rw [hi, e2]; exact c8⟩
    · rw [hne j hji] at hj
      obtain ⟨r, r0, r1, h0, h2⟩ := h.ex j j0 j1 hj
      exact ⟨r, r0, by omega, by rw [lo r r1]; exact h0, by rw [lo r r1]; exact h2⟩
  · have hrn : r < nb := by omega
    rw [lo r hrn] at hr ⊢
    rcases cs q (by omega) q1 with hc | rfl
    · rw [lo q hc] at hq ⊢
      exact h.un r q r0 rq hc hr hq
    · rw [hi, e0]; exact nei r r0 hrn hr
/-- the two ways to tell that a transmission is disturbed -/
theorem BR.dis (h : BR n (t + 1) t x ask c B nb) {w : Int} (to0 : 0 ≤ c w 6) (to1 : c w 6 < n) : diB f n (c w 6) B nb w t = dsB c f n t w := by
  apply Bool.eq_iff_iff.2
  rw [di_iff, h.on (by omega) (Int.le_refl _) to0 to1]
  constructor
  · intro hd
    cases hs : dsB c f n t w with
    | true => rfl
    | false =>
      obtain ⟨h1, h2, h3⟩ := ds_no hs
      rcases hd with hd | hd | ⟨k, k0, k1, hk, hf, ho⟩
      · exact absurd hd h1
      · rw [h2] at hd; cases hd
      · rw [h.on (by omega) (Int.le_refl _) k0 k1, h3 k k0 k1 hk hf] at ho; cases ho
  · intro hd
    apply Classical.byContradiction
    intro hn
    have := ds_of (a := c) (f := f) (n := n) (t := t) (i := w) (fun hh => hn (.inl hh)) (by cases hh : sdB c t (c w 6) with | false => rfl | true => exact absurd (.inr (.inl hh)) hn)
      (fun k k0 k1 hk hf => by
        cases hh : sdB c t k with
        | false => rfl
        | true => exact absurd (.inr (.inr ⟨k, k0, k1, hk, hf, by rw [h.on (by omega) (Int.le_refl _) k0 k1]; exact hh⟩)) hn)
    rw [this] at hd; cases hd
/-- what the air leaves of a transmission -/
def Ent (t : Int) (y Z : Int → Nat → Int) (r : Int) : Prop := t < Z r 2 → y (Z r 0) 7 = Z r 1 ∧ y (Z r 0) 8 = Z r 2 ∧ (y (Z r 0) 9 = 0 ↔ Z r 3 = 0) ∧ (y (Z r 0) 10 = 0 ↔ ¬ Z r 4 = 0)
structure Snn (t : Int) (y B Z : Int → Nat → Int) (e : Int) : Prop where
  dn : ∀ r, 0 ≤ r → r < e → Ent t y Z r
  up : ∀ r, e ≤ r → Z r = B r
  kp : ∀ r, Z r 0 = B r 0 ∧ Z r 1 = B r 1 ∧ (t < Z r 2 ↔ t < B r 2)
variable {y Z : Int → Nat → Int}
theorem Snn.skip (h : Snn t y B Z e) (hn : Ent t y Z e) : Snn t y B Z (e + 1) :=
  ⟨fun r r0 r1 => by
    by_cases hr : r = e
    · subst hr; exact hn
    · exact h.dn r r0 (by omega), fun r hr => h.up r (by omega), h.kp⟩
theorem Snn.put (h : Snn t y B Z e) {Z' : Int → Nat → Int} (hne : ∀ r, r ≠ e → Z' r = Z r) (h0 : Z' e 0 = B e 0) (h1 : Z' e 1 = B e 1) (h2 : t < Z' e 2 ↔ t < B e 2) (hn : Ent t y Z' e) : Snn t y B Z' (e + 1) := by
  refine ⟨fun r r0 r1 => ?_, fun r hr => ?_, fun r => ?_⟩
  · by_cases hr : r = e
    · subst hr; exact hn
    · have := h.dn r r0 (by omega)
      unfold Ent at this ⊢
      rw [hne r hr]; exact this
  · rw [hne r (by omega)]; exact h.up r (by omega)
  · by_cases hr : r = e
    · subst hr; exact ⟨h0, h1, h2⟩
    · rw [hne r hr]; exact h.kp r
theorem Snn.fin (h : Snn t y B Z nb) (hB : BR n (t + 1) t x ask c B nb) (hy : ∀ i, 0 ≤ i → i < n → Air f n ask t c y i) : BR n (t + 1) t (fun _ => False) ask y Z nb := by
  refine ⟨fun r r0 r1 => ?_, fun r r0 r1 hr => ?_, fun r r0 r1 hr => ?_, fun r r0 r1 hr _ => (h.dn r r0 r1 hr).2.2.2, fun r r0 r1 hr hx => hx.elim, fun i i0 i1 hi => ?_, fun r q r0 rq q1 hr hq => ?_⟩
  · rw [(h.kp r).1, (h.kp r).2.1]; exact hB.who r r0 r1
  · rw [(h.kp r).2.1] at hr
    exact (h.kp r).2.2.2 (hB.nw r r0 r1 hr)
  · have := h.dn r r0 r1 hr
    exact ⟨this.1, this.2.1, this.2.2.1⟩
  · have hA := (hy i i0 i1).en
    have h8 : t < c i 8 := by
      by_cases ha : ansB c f n ask t i = true
      · exact (sd_iff.1 (ans_req ha).2.2.1).2
      · rw [if_neg ha] at hA
        rw [← hA]; exact hi
    obtain ⟨r, r0, r1, q0, q2⟩ := hB.ex i i0 i1 h8
    exact ⟨r, r0, r1, by rw [(h.kp r).1]; exact q0, (h.kp r).2.2.2 q2⟩
  · rw [(h.kp r).1, (h.kp q).1]
    exact hB.un r q r0 rq q1 ((h.kp r).2.2.1 hr) ((h.kp q).2.2.1 hq)
/-- the end of a slot -/
theorem BR.finish (t0 : 0 ≤ t) {a : Int → Nat → Int} (h : BR n (t + 1) t (fun _ => False) ask y Z nb) (hf : FR n t n y a) : BR n (t + 1) (t + 1) (fun _ => False) ask a Z nb := by
  have key : ∀ r, 0 ≤ r → r < nb → t + 1 < Z r 2 → a (Z r 0) = y (Z r 0) := fun r r0 r1 hr => by
    have hw := h.who r r0 r1
    have ha := h.al r r0 r1 (by omega)
    exact hf.kp _ hw.1 hw.2.1 (.inr (by omega))
  refine ⟨h.who, fun r r0 r1 hr => ?_, fun r r0 r1 hr => ?_, fun r r0 r1 hr _ => ?_, fun r r0 r1 hr hx => hx.elim, fun i i0 i1 hi => ?_, fun r q r0 rq q1 hr hq => h.un r q r0 rq q1 (by omega) (by omega)⟩
  · have := h.who r r0 r1; omega
  · rw [key r r0 r1 hr]; exact h.al r r0 r1 (by omega)
  · rw [key r r0 r1 hr]; exact h.gd r r0 r1 (by omega) (fun hh => hh)
  · by_cases h8 : y i 8 = t + 1
    · have := (hf.dn i i0 i1 i1 h8).1
      omega
    · rw [hf.kp i i0 i1 (.inr h8)] at hi
      obtain ⟨r, r0, r1, q0, q2⟩ := h.ex i i0 i1 (by omega)
      have ha := h.al r r0 r1 q2
      rw [q0] at ha
      exact ⟨r, r0, r1, q0, by omega⟩
/-- forgetting what has ended -/
structure KE (e : Int) (Z L : Int → Nat → Int) (p k : Int) : Prop where
  k0 : 0 ≤ k
  fr : ∀ q, 0 ≤ q → q < k → ∃ r, 0 ≤ r ∧ r < p ∧ e < Z r 2 ∧ L q 0 = Z r 0 ∧ L q 1 = Z r 1 ∧ L q 2 = Z r 2 ∧ (L q 3 = 0 ↔ Z r 3 = 0) ∧ (L q 4 = 0 ↔ Z r 4 = 0)
  all : ∀ r, 0 ≤ r → r < p → e < Z r 2 → ∃ q, 0 ≤ q ∧ q < k ∧ L q 0 = Z r 0 ∧ e < L q 2
  un : ∀ q q', 0 ≤ q → q < q' → q' < k → L q 0 ≠ L q' 0
theorem KE.skip {L : Int → Nat → Int} {p k : Int} (h : KE e Z L p k) (hn : ¬ e < Z p 2) : KE e Z L (p + 1) k :=
  ⟨h.k0, fun q q0 q1 => by obtain ⟨r, r0, r1, hr⟩ := h.fr q q0 q1; exact ⟨r, r0, by omega, hr⟩, fun r r0 r1 hr => by
    by_cases hp : r = p
    · subst hp; exact absurd hr hn
    · exact h.all r r0 (by omega) hr, h.un⟩
theorem KE.put {L E : Int → Nat → Int} {p k : Int} (h : KE e Z L p k) (p0 : 0 ≤ p) (hp : e < Z p 2) (hu : ∀ r, 0 ≤ r → r < p → e < Z r 2 → Z r 0 ≠ Z p 0)
    (e0 : E 0 0 = Z p 0) (e1 : E 0 1 = Z p 1) (e2 : E 0 2 = Z p 2) (e3 : E 0 3 = 0 ↔ Z p 3 = 0) (e4 : E 0 4 = 0 ↔ Z p 4 = 0) : KE e Z (appA L k E) (p + 1) (k + 1) := by
  have k0 := h.k0
  have lo : ∀ r, r < k → appA L k E r = L r := fun r hr => app_lo hr
  have hi : ∀ g, appA L k E k g = E 0 g := fun g => app_hi g
  refine ⟨by omega, fun q q0 q1 => ?_, fun r r0 r1 hr => ?_, fun q q' q0 hq q1 => ?_⟩
  · by_cases hq : q = k
    · subst hq
      exact ⟨p, p0, by omega, hp, by rw [hi]; exact e0, by rw [hi]; exact e1, by rw [hi]; exact e2, by rw [hi]; exact e3, by rw [hi]; exact e4⟩
    · obtain ⟨r, r0, r1, hr⟩ := h.fr q q0 (by omega)
      rw [lo q (by omega)]
      exact ⟨r, r0, by omega, hr⟩
  · by_cases hrp : r = p
    · subst hrp
      exact ⟨k, k0, by omega, by rw [hi]; exact e0, by rw [hi, e2]; exact hr⟩
    · obtain ⟨q, q0, q1, hq⟩ := h.all r r0 (by omega) hr
      exact ⟨q, q0, by omega, by rw [lo q q1]; exact hq⟩
  · rw [lo q (by omega)]
    by_cases hq' : q' = k
    · subst hq'
      obtain ⟨r, r0, r1, r2, hr, _⟩ := h.fr q q0 hq
      rw [hi, hr, e0]
      exact hu r r0 r1 r2
    · rw [lo q' (by omega)]
      exact h.un q q' q0 hq (by omega)
theorem BR.keep {L : Int → Nat → Int} {k : Int} (h : BR n s e (fun _ => False) ask c Z nb) (hk : KE e Z L nb k) : BR n s e (fun _ => False) ask c L k := by
  refine ⟨fun q q0 q1 => ?_, fun q q0 q1 _ => ?_, fun q q0 q1 hq => ?_, fun q q0 q1 hq _ => ?_, fun q q0 q1 hq hx => hx.elim, fun i i0 i1 hi => ?_, fun q q' q0 hq q1 _ _ => hk.un q q' q0 hq q1⟩
  · obtain ⟨r, r0, r1, r2, w0, w1, _⟩ := hk.fr q q0 q1
    rw [w0, w1]; exact h.who r r0 r1
  · obtain ⟨r, r0, r1, r2, w0, w1, w2, _⟩ := hk.fr q q0 q1
    rw [w2]; exact r2
  · obtain ⟨r, r0, r1, r2, w0, w1, w2, w3, w4⟩ := hk.fr q q0 q1
    rw [w0, w1, w2, w3]; exact h.al r r0 r1 r2
  · obtain ⟨r, r0, r1, r2, w0, w1, w2, w3, w4⟩ := hk.fr q q0 q1
    rw [w0, w4]; exact h.gd r r0 r1 r2 (fun hh => hh)
  · obtain ⟨r, r0, r1, h0, h2⟩ := h.ex i i0 i1 hi
    obtain ⟨q, q0, q1, hq0, hq2⟩ := hk.all r r0 r1 h2
    exact ⟨q, q0, q1, by rw [hq0]; exact h0, hq2⟩
end
/-! reservations: not more than needed -/
theorem rk_le {f : Int → Int → Nat → Int} {i : Int} {c : Int → Nat → Int} {q U : Int} (hi : 0 ≤ i) (h0 : c q 11 ≤ U) (h1 : q ≠ i → f q (c i 6) 0 ≠ 0 → c i 8 ≤ U) : ∀ k : Nat, rkN f i c k q 11 ≤ U
  | 0 => h0
  | k + 1 => by
    have ih := rk_le (f := f) hi h0 h1 k
    obtain ⟨k1, _, _⟩ := rk_row f i c i hi k
    show (if ¬ (k : Int) = i ∧ ¬ f k (rkN f i c k i 6) 0 = 0 then setA (rkN f i c k) k 11 (max (rkN f i c k k 11) (rkN f i c k i 8)) else rkN f i c k) q 11 ≤ U
    split
    · rename_i hc
      by_cases hq : q = k
      · subst hq
        rw [setA_eq]
        rw [k1 6 (by omega)] at hc
        have := h1 hc.1 hc.2
        rw [k1 8 (by omega)]
        omega
      · rw [setA_ne (.inl hq)]; exact ih
    · exact ih
theorem rs_le {f : Int → Int → Nat → Int} {n : Int} {L c : Int → Nat → Int} {q U : Int} (hL : ∀ r : Int, 0 ≤ r → 0 ≤ L r 0) (h0 : c q 11 ≤ U) : ∀ k : Nat, (∀ r : Int, 0 ≤ r → r < k → L r 0 < n ∧ (q ≠ L r 0 → f q (c (L r 0) 6) 0 ≠ 0 → c (L r 0) 8 ≤ U)) → rsN f n L c k q 11 ≤ U
  | 0, _ => h0
  | k + 1, h1 => by
    have ih := rs_le (f := f) (n := n) hL h0 k fun r r0 r1 => h1 r r0 (by omega)
    have hk := h1 k (by omega) (by omega)
    obtain ⟨p1, _, _⟩ := rs_row f n L c (L k 0) (hL _ (by omega)) hk.1 hL k
    show rkN f (L k 0) (rsN f n L c k) n.toNat q 11 ≤ U
    refine rk_le (hL _ (by omega)) ih ?_ _
    rw [p1 6 (by omega), p1 8 (by omega)]
    exact hk.2
theorem air_le {f : Int → Int → Nat → Int} {n : Int} {ask : Bool} {t : Int} {c : Int → Nat → Int} {q U : Int} (q0 : 0 ≤ q) (q1 : q < n) (h0 : c q 11 ≤ U)
    (h1 : ∀ i, 0 ≤ i → i < n → ansB c f n ask t i = true → q ≠ i → f q (c i 6) 0 ≠ 0 → t + 1 + c i 5 ≤ U) : airA f n ask t c q 11 ≤ U := by
  have n0 : 0 ≤ n := by omega
  have hL : ∀ r : Int, 0 ≤ r → 0 ≤ lstI (ansB c f n ask t) n r 0 := fun r r0 => by
    rcases Int.lt_or_le r (cntI (ansB c f n ask t) n) with h | h
    · exact (lstI_in _ n0 r0 h).1
    · exact lst_nn _ n r
  have hbd := cntI_bd (ansB c f n ask t) n0
  have all : ∀ j, 0 ≤ j → j < n → (∀ g, g ≠ 8 → g ≠ 9 → g ≠ 10 → anN t (lstI (ansB c f n ask t) n) (spN (lstI (badB c f n ask t) n) c (cntI (badB c f n ask t) n).toNat) (cntI (ansB c f n ask t) n).toNat j g = c j g) ∧
      (ansB c f n ask t j = true → anN t (lstI (ansB c f n ask t) n) (spN (lstI (badB c f n ask t) n) c (cntI (badB c f n ask t) n).toNat) (cntI (ansB c f n ask t) n).toNat j 8 = t + 1 + c j 5) := fun j j0 j1 => by
    obtain ⟨s1, s2, s3⟩ := sp_row (lstI (badB c f n ask t) n) c j (cntI (badB c f n ask t) n).toNat
    obtain ⟨a1, a2, a3⟩ := an_row t (lstI (ansB c f n ask t) n) (spN (lstI (badB c f n ask t) n) c (cntI (badB c f n ask t) n).toNat) j (cntI (ansB c f n ask t) n).toNat
    rw [inL_iff j0 j1] at a2
    exact ⟨fun g h8 h9 h10 => by rw [a1 g h8 h9, s1 g h10], fun ha => by rw [(a2 ha).2, s1 5 (by omega)]⟩
  refine rs_le hL (by rw [(all q q0 q1).1 11 (by omega) (by omega) (by omega)]; exact h0) _ fun r r0 r1 => ?_
  obtain ⟨i0, i1, hp⟩ := lstI_in (ansB c f n ask t) n0 r0 (by omega)
  refine ⟨i1, fun hq hf => ?_⟩
  obtain ⟨d1, d2⟩ := all _ i0 i1
  rw [d2 hp]
  rw [d1 6 (by omega) (by omega) (by omega)] at hf
  exact h1 _ i0 i1 hp hq hf
/-! transmissions that ended -/
structure FinR (n k : Int) (s : FS) (xs O : Int → Nat → Int) (no dr : Int) : Prop where
  xr : XR n xs s.a
  nk : no = s.k
  dk : dr = no
  u : s.u = if no < k then no else k
  ob : ∀ r, 0 ≤ r → r < no → sbR s.o O r = true
  k0 : 0 ≤ no
theorem FinR.step {n k t w no dr ev dv : Int} {d : Int → Nat → Int} {s : FS} {xs O xs' E : Int → Nat → Int} (h : FinR n k s xs O no dr) (w0 : 0 ≤ w) (w1 : w < n) (h8 : s.a w 8 = t + 1) (hev : evI (s.a w) = ev) (hdv : drI d k s.u = dv) (kk : 0 ≤ k)
    (hx : ∀ q g, q ≠ w → xs' q g = xs q g) (h0 : xs' w 0 = SC (xs w 0) (xs w 1) (xs w 2) (xs w 3) ev dv) (h1 : xs' w 1 = SW (xs w 0) (xs w 1) (xs w 2) (xs w 3) ev dv) (h2 : xs' w 2 = SN (xs w 0) (xs w 1) (xs w 2) (xs w 3) ev dv) (h3 : xs' w 3 = SR (xs w 0) (xs w 1) (xs w 2) (xs w 3) ev dv)
    (h4 : xs' w 4 = if SG (xs w 0) (xs w 1) (xs w 2) (xs w 3) ev dv = true ∨ s.a w 10 = 0 then xs w 4 - 1 else xs w 4) (h5 : xs' w 5 = xs w 5) (h6 : xs' w 6 = xs w 6)
    (e0 : E 0 0 = w) (e1 : E 0 1 = s.a w 7) (e2 : E 0 2 = s.a w 8) (e3 : E 0 3 = 0 ↔ s.a w 9 = 0) (e4 : E 0 4 = 0 ↔ ¬ s.a w 10 = 0) : FinR n k (finS d k t s w) xs' (appA O no E) (no + 1) (dr + 1) := by
  obtain ⟨xr, nk, dk, hu, ob, k0⟩ := h
  have x : ∀ g, g < 7 → xs w g = s.a w g := fun g hg => xr.h w g w0 w1 hg
  rw [x 0 (by omega), x 1 (by omega), x 2 (by omega), x 3 (by omega)] at h0 h1 h2 h3 h4
  rw [x 4 (by omega)] at h4
  have hf : finS d k t s w = ⟨finA s.a w dv, if s.u < k then s.u + 1 else s.u, appA s.o s.k (buA s.a w), s.k + 1⟩ := by
    unfold finS; rw [if_pos h8, hdv]
  rw [hf]
  obtain ⟨l0, l1, l2, l3⟩ := stp_lo (c := s.a) (i := w) (ev := ev) (d := dv)
  have hfa : (∀ g, g < 4 → finA s.a w dv w g = stpA s.a w ev dv w g) ∧ finA s.a w dv w 4 = (if SG (s.a w 0) (s.a w 1) (s.a w 2) (s.a w 3) ev dv = true ∨ s.a w 10 = 0 then s.a w 4 - 1 else s.a w 4) := by
    unfold finA
    rw [hev]
    split
    · refine ⟨fun g hg => ?_, ?_⟩
      · rw [row_at, if_neg (by omega), row_at, if_neg (by omega)]
      · rw [row_at, if_neg (by omega), row_at, if_pos rfl]
    · refine ⟨fun g hg => ?_, ?_⟩
      · rw [row_at, if_neg (by omega)]
      · rw [row_at, if_neg (by omega), stp_hi (by omega)]
  obtain ⟨_, fo⟩ := fin_hi (c := s.a) (i := w) (d := dv)
  refine ⟨⟨fun q g q0 q1 hg => ?_⟩, by show no + 1 = s.k + 1; omega, by omega, ?_, fun r r0 r1 => ?_, by omega⟩
  · show xs' q g = finA s.a w dv q g
    by_cases hq : q = w
    · subst hq
      have hgc : g = 0 ∨ g = 1 ∨ g = 2 ∨ g = 3 ∨ g = 4 ∨ g = 5 ∨ g = 6 := by omega
      rcases hgc with rfl | rfl | rfl | rfl | rfl | rfl | rfl
      · rw [hfa.1 0 (by omega), l0, h0]
      · rw [hfa.1 1 (by omega), l1, h1]
      · rw [hfa.1 2 (by omega), l2, h2]
      · rw [hfa.1 3 (by omega), l3, h3]
      · rw [hfa.2, h4]
      · rw [fo 5 (by omega) (by omega), h5, x 5 (by omega)]
      · rw [fo 6 (by omega) (by omega), h6, x 6 (by omega)]
    · rw [fin_ne hq, hx q g hq]
      exact xr.h q g q0 q1 hg
  · show (if s.u < k then s.u + 1 else s.u) = _
    rw [hu]
    grind
  · show sbR (appA s.o s.k (buA s.a w)) (appA O no E) r = true
    subst nk
    unfold sbR
    by_cases hr : r < s.k
    · rw [app_lo hr, app_lo hr]
      have := ob r r0 hr
      unfold sbR at this
      exact this
    · have : r = s.k := by omega
      subst this
      rw [app_hi, app_hi, app_hi, app_hi, app_hi, app_hi, app_hi, app_hi, app_hi, app_hi, bu_0, bu_1, bu_2, bu_3, bu_4, e0, e1, e2]
      refine decide_eq_true ⟨rfl, rfl, rfl, ?_, ?_⟩
      · rw [e3]; split <;> simp_all
      · rw [e4]; split <;> simp_all
/-! the states in between -/
theorem fr_at {n t : Int} {d : Int → Nat → Int} {m : Int} {s : FS} (w : Nat) (hw : (w : Int) ≤ n) : FR n t w s.a (finN d m t s w).a :=
  finN_ind (fun i s' => FR n t i s.a s'.a) ⟨fun q q0 q1 qw => by omega, fun q q0 q1 _ => rfl⟩ w fun i s' hi hp => fr_fin (by omega) (by omega) hp
theorem k_at {t : Int} {d : Int → Nat → Int} {m : Int} {s : FS} (w : Nat) : (finN d m t s w).k ≤ s.k + w :=
  finN_ind (fun i s' => s'.k ≤ s.k + i) (by show s.k ≤ s.k + ((0 : Nat) : Int); omega) w fun i s' hi hp => by
    have hp : s'.k ≤ s.k + (i : Int) := hp
    unfold finS
    split
    · show s'.k + 1 ≤ s.k + ((i + 1 : Nat) : Int); omega
    · show s'.k ≤ s.k + ((i + 1 : Nat) : Int); omega
theorem k_run {f : Int → Int → Nat → Int} {n : Int} {ask : Bool} {d : Int → Nat → Int} {m : Int} {b : Int → Nat → Int} (n0 : 0 ≤ n) (n1 : n ≤ 16) (T : Nat) : (crS f n ask d m (st0 b n) T).k ≤ 16 * T :=
  crS_ind (fun t s => s.k ≤ 16 * (t : Int)) (Int.le_refl _) T fun t s' _ hp => by
    have := k_at (t := t) (d := d) (m := m) (s := { s' with a := airA f n ask t (begN s'.a f n ask t n.toNat) }) n.toNat
    have e : (slotF f n ask d m t s').k = (finN d m t { s' with a := airA f n ask t (begN s'.a f n ask t n.toNat) } n.toNat).k := rfl
    have this : (finN d m t { s' with a := airA f n ask t (begN s'.a f n ask t n.toNat) } n.toNat).k ≤ s'.k + (n.toNat : Int) := this
    have hp : s'.k ≤ 16 * (t : Int) := hp
    show (slotF f n ask d m t s').k ≤ 16 * ((t + 1 : Nat) : Int)
    rw [e]
    omega
theorem ci_mid {b : Int → Nat → Int} {f : Int → Int → Nat → Int} {n t : Int} {ask : Bool} {s : FS} (t0 : 0 ≤ t) (h : CI b n s) : CI b n { s with a := airA f n ask t (begN s.a f n ask t n.toNat) } := by
  have hx := fun q q0 q1 => kr_air (f := f) (ask := ask) q0 q1 t0 (h.rw q q0 q1)
  exact ⟨h.u0, fun q q0 q1 => (hx q q0 q1).1, h.ll.kn, fun q q0 q1 => by
      show _ = (airA f n ask t (begN s.a f n ask t n.toNat) q 4, airA f n ask t (begN s.a f n ask t n.toNat) q 3)
      rw [(hx q q0 q1).2.1, (hx q q0 q1).2.2]; exact h.ll.eq q q0 q1, h.ll.ne, h.ll.bd⟩
theorem ci_at {b : Int → Nat → Int} {n t : Int} {d : Int → Nat → Int} {m : Int} {s : FS} (hd : ∀ u, 0 ≤ u → u < m → 0 ≤ d u 0 ∧ d u 0 ≤ 1099511627776) (hb : ∀ q, 0 ≤ q → q < n → b q 4 ≤ 1000) (t0 : 0 ≤ t) (h : CI b n s) (w : Nat) (hw : (w : Int) ≤ n) : CI b n (finN d m t s w) :=
  finN_ind (fun _ s => CI b n s) h w fun i s' hi hp => ci_fin hd hb t0 (by omega) (by omega) hp
end Go.Proofs.YtkagcjibneigdaaDoor
