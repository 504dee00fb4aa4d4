/- Receiving: what is left to show of MediumMore. -/
import Derived.Test.YtgdjdaoglkfjdaaP11
import Derived.Test.YtgdjdaoglkfjdaaC9
namespace Go.Proofs.Ytgdjdaoglkfjdaa
open Go Go.RowKit Go.Proofs.Ytgdjdaoglkfjdaa.Vc
/-- a transmission y lets node j receive x -/
def okY (a : Int → Nat → Int) (f : Int → Int → Nat → Int) (m : Int) (x y : Nat → Int) (j : Int) : Prop :=
  ovl (y 1) (y 2) (x 1) (x 2) = false ∨ (decide (y 0 = j) || (decide (a (y 0) 3 = a j 3) && decide (lvA a f m (x 0) j < lvA a f m (y 0) j + 100))) = false
theorem ca_ok {a : Int → Nat → Int} {f : Int → Int → Nat → Int} {m : Int} {b : Int → Nat → Int} {k i j : Int} : caB a f m b k i j = true ↔ hrA a f m j (b i 0) = true ∧ b i 3 ≤ lvA a f m (b i 0) j ∧ ∀ r, 0 ≤ r → r < k → r ≠ i → okY a f m (b i) (b r) j := by
  rw [ca_iff]
  constructor
  · rintro ⟨h1, h2, h3⟩
    exact ⟨h1, h2, fun r r0 r1 hr => (h3 r r0 r1).resolve_left hr⟩
  · rintro ⟨h1, h2, h3⟩
    refine ⟨h1, h2, fun r r0 r1 => ?_⟩
    by_cases hr : r = i
    · exact .inl hr
    · exact .inr (h3 r r0 r1 hr)
/-- a list with one more: ahead, or behind -/
structure Ins (b u v : Int → Nat → Int) (S : Nat → Int) (k : Int) : Prop where
  u0 : u 0 = S
  u1 : ∀ q, 0 ≤ q → u (q + 1) = b q
  v0 : ∀ q, 0 ≤ q → q < k → v q = b q
  v1 : v k = S
section
variable {a : Int → Nat → Int} {n : Int} {l : Int → Int} {f : Int → Int → Nat → Int} {m : Int} {b u v : Int → Nat → Int} {S : Nat → Int} {k : Int}
theorem ins_u (h : Ins b u v S k) (k0 : 0 ≤ k) {i j : Int} (i0 : 0 ≤ i) : caB a f m u (1 + k) (i + 1) j = true ↔ hrA a f m j (b i 0) = true ∧ b i 3 ≤ lvA a f m (b i 0) j ∧ okY a f m (b i) S j ∧ ∀ r, 0 ≤ r → r < k → r ≠ i → okY a f m (b i) (b r) j := by
  rw [ca_ok, h.u1 i i0]
  constructor
  · rintro ⟨h1, h2, h3⟩
    refine ⟨h1, h2, ?_, fun r r0 r1 hr => ?_⟩
    · have := h3 0 (by omega) (by omega) (by omega)
      rwa [h.u0] at this
    · have := h3 (r + 1) (by omega) (by omega) (by omega)
      rwa [h.u1 r r0] at this
  · rintro ⟨h1, h2, h3, h4⟩
    refine ⟨h1, h2, fun r r0 r1 hr => ?_⟩
    by_cases hz : r = 0
    · rw [hz, h.u0]; exact h3
    · have := h4 (r - 1) (by omega) (by omega) (by omega)
      rw [← h.u1 (r - 1) (by omega)] at this
      rwa [show r - 1 + 1 = r by omega] at this
theorem ins_v (h : Ins b u v S k) {i j : Int} (i0 : 0 ≤ i) (i1 : i < k) : caB a f m v (k + 1) i j = true ↔ hrA a f m j (b i 0) = true ∧ b i 3 ≤ lvA a f m (b i 0) j ∧ okY a f m (b i) S j ∧ ∀ r, 0 ≤ r → r < k → r ≠ i → okY a f m (b i) (b r) j := by
  rw [ca_ok, h.v0 i i0 i1]
  constructor
  · rintro ⟨h1, h2, h3⟩
    refine ⟨h1, h2, ?_, fun r r0 r1 hr => ?_⟩
    · have := h3 k (by omega) (by omega) (by omega)
      rwa [h.v1] at this
    · have := h3 r r0 (by omega) hr
      rwa [h.v0 r r0 r1] at this
  · rintro ⟨h1, h2, h3, h4⟩
    refine ⟨h1, h2, fun r r0 r1 hr => ?_⟩
    by_cases hz : r = k
    · rw [hz, h.v1]; exact h3
    · rw [h.v0 r r0 (by omega)]
      exact h4 r r0 (by omega) hr
theorem ins_uS (h : Ins b u v S k) (k0 : 0 ≤ k) {j : Int} : caB a f m u (1 + k) 0 j = true ↔ hrA a f m j (S 0) = true ∧ S 3 ≤ lvA a f m (S 0) j ∧ ∀ r, 0 ≤ r → r < k → okY a f m S (b r) j := by
  rw [ca_ok, h.u0]
  constructor
  · rintro ⟨h1, h2, h3⟩
    refine ⟨h1, h2, fun r r0 r1 => ?_⟩
    have := h3 (r + 1) (by omega) (by omega) (by omega)
    rwa [h.u1 r r0] at this
  · rintro ⟨h1, h2, h4⟩
    refine ⟨h1, h2, fun r r0 r1 hr => ?_⟩
    have := h4 (r - 1) (by omega) (by omega)
    rw [← h.u1 (r - 1) (by omega)] at this
    rwa [show r - 1 + 1 = r by omega] at this
theorem ins_vS (h : Ins b u v S k) (k0 : 0 ≤ k) {j : Int} : caB a f m v (k + 1) k j = true ↔ hrA a f m j (S 0) = true ∧ S 3 ≤ lvA a f m (S 0) j ∧ ∀ r, 0 ≤ r → r < k → okY a f m S (b r) j := by
  rw [ca_ok, h.v1]
  constructor
  · rintro ⟨h1, h2, h3⟩
    refine ⟨h1, h2, fun r r0 r1 => ?_⟩
    have := h3 r r0 (by omega) (by omega)
    rwa [h.v0 r r0 r1] at this
  · rintro ⟨h1, h2, h4⟩
    refine ⟨h1, h2, fun r r0 r1 hr => ?_⟩
    rw [h.v0 r r0 (by omega)]
    exact h4 r r0 (by omega)
theorem bool_eq {p q : Bool} (h : p = true ↔ q = true) : p = q := by cases p <;> cases q <;> simp_all
theorem ins_row (h : Ins b u v S k) (k0 : 0 ≤ k) {i j : Int} (i0 : 0 ≤ i) (i1 : i < k) : caB a f m u (1 + k) (i + 1) j = caB a f m v (k + 1) i j := bool_eq ((ins_u h k0 i0).trans (ins_v h i0 i1).symm)
theorem ins_one (h : Ins b u v S k) (k0 : 0 ≤ k) {j : Int} : caB a f m u (1 + k) 0 j = caB a f m v (k + 1) k j := bool_eq ((ins_uS h k0).trans (ins_vS h k0).symm)
theorem ins_less (h : Ins b u v S k) {i j : Int} (i0 : 0 ≤ i) (i1 : i < k) (hc : caB a f m v (k + 1) i j = true) : caB a f m b k i j = true := by
  obtain ⟨h1, h2, _, h4⟩ := (ins_v h i0 i1).1 hc
  exact ca_ok.2 ⟨h1, h2, h4⟩
/-! validity does not hang on the order -/
def rngY (n : Int) (x : Nat → Int) : Prop := 0 ≤ x 0 ∧ x 0 < n ∧ 0 ≤ x 1 ∧ x 1 < x 2 ∧ x 2 ≤ 1099511627776 ∧ -2000 ≤ x 3 ∧ x 3 ≤ 2000
def twoY (x y : Nat → Int) : Prop := ¬ (y 0 = x 0 ∧ ovl (y 1) (y 2) (x 1) (x 2) = true)
theorem two_comm {x y : Nat → Int} (h : twoY x y) : twoY y x := fun hh => h ⟨hh.1.symm, by rw [ovl_comm]; exact hh.2⟩
structure Val (n : Int) (b : Int → Nat → Int) (k : Int) : Prop where
  r : ∀ i, 0 ≤ i → i < k → rngY n (b i)
  t : ∀ i r, 0 ≤ r → r < i → i < k → twoY (b i) (b r)
theorem sd_val : allI (sdO n b) k = true ↔ Val n b k := by
  constructor
  · intro h
    have hh : ∀ i, 0 ≤ i → i < k → rngY n (b i) ∧ ∀ r, 0 ≤ r → r < i → twoY (b i) (b r) := fun i i0 i1 => by
      have h1 := allI_at h i0 i1
      unfold sdO at h1
      rw [Bool.and_eq_true] at h1
      refine ⟨by
      have h3 := h1.1
      unfold sdR at h3
      unfold rngY
      exact of_decide_eq_true h3, fun r r0 r1 => ?_⟩
      have h2 := allI_at h1.2 r0 r1
      unfold sdN sdT at h2
      rintro ⟨h3, h4⟩
      rw [decide_eq_true h3, h4] at h2
      cases h2
    exact ⟨fun i i0 i1 => (hh i i0 i1).1, fun i r r0 r1 i1 => (hh i (by omega) i1).2 r r0 r1⟩
  · intro h
    refine allI_of fun i i0 i1 => ?_
    unfold sdO
    rw [Bool.and_eq_true]
    refine ⟨by
      have h3 := h.r i i0 i1
      unfold rngY at h3
      unfold sdR
      exact decide_eq_true h3, allI_of fun r r0 r1 => ?_⟩
    have h2 := h.t i r r0 r1 i1
    unfold sdN sdT
    by_cases h3 : b r 0 = b i 0
    · cases h4 : ovl (b r 1) (b r 2) (b i 1) (b i 2) with
      | false => simp
      | true => exact absurd ⟨h3, h4⟩ h2
    · simp [h3]
theorem val_u (h : Ins b u v S k) (k0 : 0 ≤ k) : Val n u (1 + k) ↔ rngY n S ∧ Val n b k ∧ ∀ r, 0 ≤ r → r < k → twoY (b r) S := by
  constructor
  · intro hh
    refine ⟨by have := hh.r 0 (by omega) (by omega); rwa [h.u0] at this, ⟨fun i i0 i1 => ?_, fun i r r0 r1 i1 => ?_⟩, fun r r0 r1 => ?_⟩
    · have := hh.r (i + 1) (by omega) (by omega)
      rwa [h.u1 i i0] at this
    · have := hh.t (i + 1) (r + 1) (by omega) (by omega) (by omega)
      rwa [h.u1 i (by omega), h.u1 r r0] at this
    · have := hh.t (r + 1) 0 (by omega) (by omega) (by omega)
      rwa [h.u1 r r0, h.u0] at this
  · rintro ⟨h1, h2, h3⟩
    refine ⟨fun i i0 i1 => ?_, fun i r r0 r1 i1 => ?_⟩
    · by_cases hi : i = 0
      · rw [hi, h.u0]; exact h1
      · have := h2.r (i - 1) (by omega) (by omega)
        rw [← h.u1 (i - 1) (by omega)] at this
        rwa [show i - 1 + 1 = i by omega] at this
    · have e : u i = b (i - 1) := by rw [← h.u1 (i - 1) (by omega), show i - 1 + 1 = i by omega]
      by_cases hr : r = 0
      · rw [hr, h.u0, e]; exact h3 (i - 1) (by omega) (by omega)
      · have e2 : u r = b (r - 1) := by rw [← h.u1 (r - 1) (by omega), show r - 1 + 1 = r by omega]
        rw [e, e2]; exact h2.t (i - 1) (r - 1) (by omega) (by omega) (by omega)
theorem val_v (h : Ins b u v S k) (k0 : 0 ≤ k) : Val n v (k + 1) ↔ rngY n S ∧ Val n b k ∧ ∀ r, 0 ≤ r → r < k → twoY (b r) S := by
  constructor
  · intro hh
    refine ⟨by have := hh.r k (by omega) (by omega); rwa [h.v1] at this, ⟨fun i i0 i1 => ?_, fun i r r0 r1 i1 => ?_⟩, fun r r0 r1 => ?_⟩
    · have := hh.r i i0 (by omega)
      rwa [h.v0 i i0 i1] at this
    · have := hh.t i r r0 r1 (by omega)
      rwa [h.v0 i (by omega) i1, h.v0 r r0 (by omega)] at this
    · have := hh.t k r r0 r1 (by omega)
      rw [h.v1, h.v0 r r0 r1] at this
      exact two_comm this
  · rintro ⟨h1, h2, h3⟩
    refine ⟨fun i i0 i1 => ?_, fun i r r0 r1 i1 => ?_⟩
    · by_cases hi : i = k
      · rw [hi, h.v1]; exact h1
      · rw [h.v0 i i0 (by omega)]; exact h2.r i i0 (by omega)
    · rw [h.v0 r r0 (by omega)]
      by_cases hi : i = k
      · rw [hi, h.v1]; exact two_comm (h3 r r0 (by omega))
      · rw [h.v0 i (by omega) (by omega)]; exact h2.t i r r0 r1 (by omega)
theorem mc_val : mcE a n l f m b k = if ckW a n l f m = 0 then (if k ≤ 64 ∧ allI (sdO n b) k = true then 0 else 8) else ckW a n l f m := rfl
theorem ins_mc (h : Ins b u v S k) (k0 : 0 ≤ k) : mcE a n l f m u (1 + k) = mcE a n l f m v (k + 1) := by
  rw [mc_val, mc_val]
  have : (1 + k ≤ 64 ∧ allI (sdO n u) (1 + k) = true) ↔ (k + 1 ≤ 64 ∧ allI (sdO n v) (k + 1) = true) := by
    rw [sd_val, sd_val, val_u h k0, val_v h k0]
    constructor
    · rintro ⟨h1, h2⟩; exact ⟨by omega, h2⟩
    · rintro ⟨h1, h2⟩; exact ⟨by omega, h2⟩
  by_cases hh : 1 + k ≤ 64 ∧ allI (sdO n u) (1 + k) = true
  · rw [if_pos hh, if_pos (this.1 hh)]
  · rw [if_neg hh, if_neg fun h2 => hh (this.2 h2)]
theorem ins_sub (h : Ins b u v S k) (k0 : 0 ≤ k) (hc : mcE a n l f m v (k + 1) = 0) : mcE a n l f m b k = 0 := by
  rw [mc_val] at hc ⊢
  split at hc
  · rename_i hw
    rw [if_pos hw]
    split at hc
    · rename_i h2
      rw [if_pos ⟨by omega, sd_val.2 ((val_v h k0).1 (sd_val.1 h2.2)).2.1⟩]
    · omega
  · rename_i hw; exact absurd hc hw
theorem mc_08 : mcE a n l f m b k = 0 ∨ mcE a n l f m b k = 8 := by
  rw [mc_val]
  have := ckW_08 a n l f m
  split
  · split <;> simp
  · exact this
end
theorem cnt_congrN {p q : Int → Bool} : ∀ k : Nat, (∀ i : Int, 0 ≤ i → i < k → p i = q i) → cntN p k = cntN q k ∧ lstN p k = lstN q k
  | 0, _ => ⟨rfl, rfl⟩
  | k + 1, h => by
    obtain ⟨h1, h2⟩ := cnt_congrN k fun i i0 i1 => h i i0 (by omega)
    have h3 := h k (by omega) (by omega)
    refine ⟨?_, ?_⟩
    · show (if p k = true then cntN p k + 1 else cntN p k) = (if q k = true then cntN q k + 1 else cntN q k)
      rw [h1, h3]
    · show (if p k = true then appA (lstN p k) (cntN p k) (setA zA 0 0 k) else lstN p k) = (if q k = true then appA (lstN q k) (cntN q k) (setA zA 0 0 k) else lstN q k)
      rw [h1, h2, h3]
theorem re_congr {a : Int → Nat → Int} {n : Int} {f : Int → Int → Nat → Int} {m : Int} {b c : Int → Nat → Int} {k k' i i' : Int} (h : ∀ j, 0 ≤ j → j < n → caB a f m b k i j = caB a f m c k' i' j) : reL a n f m b k zA 0 i = reL a n f m c k' zA 0 i' ∧ reF a n f m b k zA 0 i = reF a n f m c k' zA 0 i' := by
  obtain ⟨h1, h2⟩ := cnt_congrN (p := rvQ (caB a f m b k) n zA 0 i) (q := rvQ (caB a f m c k') n zA 0 i') n.toNat fun j j0 j1 => by rw [rv_nil, rv_nil]; exact h j j0 (by omega)
  exact ⟨h1, h2⟩
set_option maxHeartbeats 1000000 in
theorem vc6 : VC6 := by
  intro a n l f m b k w6 w7 w8 w9 _ hn hm hk
  refine ⟨trivial, ?_⟩
  rintro al hal _ _ _
  refine ⟨trivial, ?_⟩
  rintro g hg
  refine ⟨fun _ => ⟨by rw [hal], trivial⟩, fun h1 => ?_⟩
  have hk79 : k ≤ 79 := Int.not_lt.1 fun h2 => h1 (.inl (.inr h2))
  obtain ⟨S, hS⟩ : ∃ S, S = setA (setA (setA (setA zA 0 0 w6) 0 1 w7) 0 2 w8) 0 3 w9 := ⟨_, rfl⟩
  rw [← hS]
  have hI : Ins b (appA S 1 b) (appA b k S) (S 0) k := by
    refine ⟨?_, fun q q0 => ?_, fun q q0 q1 => ?_, ?_⟩
    · funext g; unfold appA; rw [if_pos (by omega)]
    · funext g; unfold appA; rw [if_neg (by omega), show q + 1 - 1 = q by omega]
    · funext g; unfold appA; rw [if_pos q1]
    · funext g; unfold appA; rw [if_neg (by omega), Int.sub_self]
  generalize appA S 1 b = u at *
  generalize appA b k S = v at *
  generalize S 0 = S0 at *
  clear hS S
  refine ⟨trivial, ?_⟩
  rintro L F N e hL hF hN he _
  refine ⟨by omega, fun _ => ⟨by omega, fun _ => ⟨trivial, ?_⟩⟩⟩
  rintro Lu Fu Nu eu hLu hFu hNu heu _ _ _ _
  refine ⟨by omega, fun _ => ⟨by omega, fun _ => ⟨by omega, fun _ => ⟨by omega, fun _ => ⟨trivial, ?_⟩⟩⟩⟩⟩
  rintro Lv Fv Nv ev hLv hFv hNv hev _ _ _
  have hmc := @ins_mc a n l f m b u v S0 k hI hk
  have heq : eu = ev := by rw [heu, hev]; exact hmc
  subst heq
  refine ⟨fun h2 => ⟨?_, trivial⟩, fun h2 => ?_⟩
  · have h8 : eu = 8 := by
      rcases @mc_08 a n l f m v (k + 1) with h | h
      · exfalso
        rcases h2 with h2 | h2 <;> exact h2 (by rw [hev]; exact h)
      · rw [hev]; exact h
    have he8 : e = 0 ∨ e = eu := by
      rcases @mc_08 a n l f m b k with h | h
      · exact .inl (by rw [he]; exact h)
      · exact .inr (by rw [he, h, h8])
    exact ⟨fun _ => rfl, fun _ => ⟨⟨hal, rfl⟩, he8⟩⟩
  have h0 : eu = 0 := Classical.byContradiction fun h3 => h2 (.inl h3)
  have hcv : mcE a n l f m v (k + 1) = 0 := by rw [← hev]; exact h0
  have hcu : mcE a n l f m u (1 + k) = 0 := by rw [hmc]; exact hcv
  have hcb := ins_sub hI hk hcv
  have he0 : e = 0 := by rw [he]; exact hcb
  have hNk : N = k := by rw [hN]; unfold reN; rw [if_pos hcb]
  have hNu' : Nu = 1 + k := by rw [hNu]; unfold reN; rw [if_pos hcu]
  have hNv' : Nv = k + 1 := by rw [hNv]; unfold reN; rw [if_pos hcv]
  refine ⟨.inr (by omega), fun _ => ⟨.inr (by omega), fun _ => ⟨fun h3 => ?_, fun _ => ?_⟩⟩⟩
  · exfalso
    rcases h3 with ((h3 | h3) | h3) | h3
    · exact h3 he0
    · exact h3 hNk
    · exact h3 (by omega)
    · exact h3 hNv'
  have hrow : ∀ i, 0 ≤ i → i < k → Lu (i + 1) = Lv i ∧ Fu (i + 1) = Fv i := fun i i0 i1 => by
    rw [hLu, hLv, hFu, hFv]
    exact re_congr fun j _ _ => ins_row hI hk i0 i1
  have hone : Lu 0 = Lv k ∧ Fu 0 = Fv k := by
    rw [hLu, hLv, hFu, hFv]
    exact re_congr fun j _ _ => ins_one hI hk
  have hLv0 : ∀ i, 0 ≤ Lv i := fun i => by rw [hLv]; exact (rl_nn hn).1
  refine ⟨fun i => 0 ≤ i ∧ i ≤ k, fun i => (k - i).toNat, ⟨by omega, by omega⟩, ?_⟩
  rintro i ⟨i0, i1⟩
  refine ⟨fun hlt => ⟨by omega, fun _ => ⟨by omega, fun _ => ⟨by omega, fun _ => ⟨i0, fun _ => ⟨by omega, fun _ => ⟨trivial, ?_⟩⟩⟩⟩⟩⟩, fun hge => ?_⟩
  · rintro z hz _ _ _ _
    have hzt : z = true := by
      rw [hz, (hrow i i0 hlt).1, show rowA Fu (i + 1) = rowA Fv i by unfold rowA; rw [(hrow i i0 hlt).2]]
      exact saI_refl
    refine ⟨fun h3 => absurd hzt h3, fun _ => ?_⟩
    refine ⟨fun q => 0 ≤ q ∧ q ≤ Lv i, fun q => (Lv i - q).toNat, ⟨by omega, hLv0 i⟩, ?_⟩
    rintro q ⟨q0, q1⟩
    refine ⟨fun h3 => ⟨by omega, fun _ => ⟨q0, fun _ => ⟨trivial, ?_⟩⟩⟩, fun h3 => ⟨⟨by omega, by omega⟩, by dsimp only; omega⟩⟩
    rintro y hy _ _
    have hyt : y = true := by
      rw [hy, hF, hL, re_ha hn, rv_nil]
      rw [hLv] at h3
      obtain ⟨y0, y1, hca, _⟩ := re_row hn q0 h3
      rw [show rowA Fv i q 0 = reF a n f m v (k + 1) zA 0 i q 0 by rw [hFv]; rfl]
      exact ⟨y0, y1, ins_less hI i0 hlt hca⟩
    exact ⟨fun h4 => absurd hyt h4, fun _ => ⟨by omega, fun _ => ⟨⟨by omega, by omega⟩, by dsimp only; omega⟩⟩⟩
  · obtain rfl : i = k := by omega
    refine ⟨.inr (by omega), fun _ => ⟨.inr (by omega), fun _ => ⟨.inr (by omega), fun _ => ⟨.inr (by omega), fun _ => ⟨.inr (by omega), fun _ => ⟨.inr (by omega), fun _ => ⟨fun _ => trivial, ?_⟩⟩⟩⟩⟩⟩⟩
    rintro z hz
    have hzt : z = true := by
      rw [hz, hone.1, show rowA Fu 0 = rowA Fv i by unfold rowA; rw [hone.2]]
      exact saI_refl
    exact ⟨⟨fun _ => rfl, fun _ => ⟨hal, hzt⟩⟩, trivial⟩
end Go.Proofs.Ytgdjdaoglkfjdaa
