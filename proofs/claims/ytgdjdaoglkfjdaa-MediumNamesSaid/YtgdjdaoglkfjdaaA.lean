/- Contracts of the functions that reckon distances: sort.Search over a closure, roots, Distance and its reference. Each holds for every input that its premises allow. -/
import Derived.Test.YtgdjdaoglkfjdaaProg
import Derived.WalkKit
import Derived.Lib.Strings
import Derived.Lib.Slices
import Derived.Lib.Small
import Derived.Lib.Walk
import Derived.Lib.BitFns
import Derived.Lib.Hide
namespace Go.Proofs.Ytgdjdaoglkfjdaa
open Go.RowKit

/-- a call of function g enters it -/
def Enters (g : Nat) : Prop := ∀ (args : Array Value) (w : World), (callFunc g args).run Try.prog w = .ok (.enter g args) w

/-- 'p' answers of one closure: called with i it returns p i and the world stays. -/
def PredOk (g : Nat) (cap : Array Value) (n : Nat) (p : Int → Bool) (w : World) : Prop :=
  ∀ i : Int, 0 ≤ i → i < n → Calls Try.prog g (#[.int .i64 i] ++ cap) w fun e w' => e = .returned (.bool (p i)) ∧ w = w'

def SearchPost (n : Nat) (p : Int → Bool) (w : World) (e : Ending) (w' : World) : Prop :=
   ∃ r : Nat, r ≤ n ∧ (∀ i : Int, 0 ≤ i → i < r → p i = false) ∧ (∀ i : Int, r ≤ i → i < n → p i = true) ∧ e = .returned (.int .i64 r) ∧ w = w'

theorem search_any (n : Nat) (hn : n ≤ 1099511627776) (g : Nat) (c : Value) (p : Int → Bool) (w : World) (hg : Enters g)
    (hp : PredOk g #[c] n p w) (hm : ∀ i j : Int, 0 ≤ i → i ≤ j → j < n → p i = true → p j = true) :
    Calls Try.prog 77 #[.int .i64 n, .func (.func g) #[] #[c]] w (SearchPost n p w) := by
  have HM := Lib.hid hm
  clear hm
  have hcf : ∀ (args : Array Value) (w : World), (callFunc g args).run Try.prog w = .ok (.enter g args) w := hg
  go_enter Try.func77, Try.ntmps77
  go_wp2_with fail
  go_loop [5, 6] (fun i j => ∃ a b : Nat, a ≤ b ∧ b ≤ n ∧ i = .int .i64 a ∧ j = .int .i64 b ∧ Hid (∀ i : Int, 0 ≤ i → i < a → p i = false) ∧ Hid (∀ i : Int, b ≤ i → i < n → p i = true)) (fun i j => (intOf j - intOf i).toNat)
  case atStart => exact ⟨0, n, Nat.zero_le _, Nat.le_refl _, rfl, rfl, by intro i; omega, by intro i; omega⟩
  case round =>
    obtain ⟨a, b, hab, hbn, rfl, rfl, h1, h2⟩ := hrel
    by_cases hlt : a < b
    · go_wp2_with fail
      refine (hp (((a : Int) + b) / 2) (by omega) (by omega)).mono ?_
      rintro e w' ⟨rfl, rfl⟩
      cases hv : p (((a : Int) + b) / 2)
      · have HV := Lib.hid hv
        clear hv
        go_wp2_with fail
        go_round
        case rel => exact ⟨(a + b) / 2 + 1, b, by omega, by omega, by go_num, rfl, (fun i h3 h4 => by
          cases hc : p i
          · rfl
          · have := HM.out i (((a : Int) + b) / 2) h3 (by omega) (by omega) hc
            rw [HV.out] at this; exact absurd this (by decide)), h2⟩
        case measure => simp [intOf]; omega
      · have HV := Lib.hid hv
        clear hv
        go_wp2_with fail
        go_round
        case rel => exact ⟨a, (a + b) / 2, by omega, by omega, rfl, by go_num, h1, fun i h3 h4 => HM.out (((a : Int) + b) / 2) i (by omega) (by omega) h4 HV.out⟩
        case measure => simp [intOf]; omega
    · have hba : b = a := by omega
      subst hba
      go_wp2_with fail
      go_ret
      exact ⟨b, hbn, h1.out, h2.out, rfl, rfl⟩
def isqGo (s : Nat) : Nat → Nat
  | 0 => 0
  | k + 1 => if (isqGo s k + 1) * (isqGo s k + 1) ≤ s then isqGo s k + 1 else isqGo s k
def isq (s : Int) : Int := isqGo s.toNat 30000

theorem isqGo_le (s : Nat) : ∀ k, isqGo s k ≤ k
  | 0 => Nat.le_refl _
  | k + 1 => by have := isqGo_le s k; unfold isqGo; split <;> omega
theorem isqGo_sq (s : Nat) : ∀ k, isqGo s k * isqGo s k ≤ s
  | 0 => by simp [isqGo]
  | k + 1 => by have := isqGo_sq s k; unfold isqGo; split <;> assumption
theorem isqGo_or (s : Nat) : ∀ k, isqGo s k = k ∨ s < (isqGo s k + 1) * (isqGo s k + 1)
  | 0 => .inl rfl
  | k + 1 => by
    have h := isqGo_or s k
    unfold isqGo
    split
    · rename_i hc
      rcases h with h | h
      · left; omega
      · omega
    · right; omega
theorem sq_lt {a b : Nat} (h : a < b) : a * a < b * b := Nat.mul_self_lt_mul_self h
theorem isq_spec (s : Int) (h0 : 0 ≤ s) (h1 : s < 900000000) : 0 ≤ isq s ∧ isq s < 30000 ∧ isq s * isq s ≤ s ∧ s < (isq s + 1) * (isq s + 1) := by
  obtain ⟨n, rfl⟩ := Int.eq_ofNat_of_zero_le h0
  unfold isq
  simp only [Int.toNat_natCast]
  have a := isqGo_le n 30000
  have b := isqGo_sq n 30000
  have c := isqGo_or n 30000
  generalize isqGo n 30000 = r at *
  have hr : r < 30000 := by
    rcases Nat.lt_or_ge r 30000 with h | h
    · exact h
    · have : 30000 * 30000 ≤ r * r := Nat.mul_le_mul h h
      omega
  refine ⟨by omega, by omega, by exact_mod_cast b, ?_⟩
  rcases c with c | c
  · omega
  · exact_mod_cast c
theorem int_sq_lt {a b : Int} (ha : 0 ≤ a) (h : a < b) : a * a < b * b := by
  obtain ⟨m, rfl⟩ := Int.eq_ofNat_of_zero_le ha
  obtain ⟨n, rfl⟩ := Int.eq_ofNat_of_zero_le (show 0 ≤ b by omega)
  have := sq_lt (show m < n by omega)
  exact_mod_cast this
theorem int_sq_le {a b : Int} (ha : 0 ≤ a) (h : a ≤ b) : a * a ≤ b * b := Int.mul_le_mul h h ha (by omega)
theorem isq_eq (s r : Int) (h0 : 0 ≤ r) (h1 : r * r ≤ s) (h2 : s < (r + 1) * (r + 1)) (h3 : s < 900000000) : isq s = r := by
  have hs : 0 ≤ s := Int.le_trans (Int.mul_nonneg h0 h0) h1
  obtain ⟨a, _, c, d⟩ := isq_spec s hs h3
  rcases Int.lt_trichotomy (isq s) r with h | h | h
  · have := int_sq_le (show 0 ≤ isq s + 1 by omega) (show isq s + 1 ≤ r by omega)
    omega
  · exact h
  · have := int_sq_le (show 0 ≤ r + 1 by omega) (show r + 1 ≤ isq s by omega)
    omega
/-- is x from lo to hi? -/
def inB (x lo hi : Int) : Bool := decide (lo ≤ x) && decide (x ≤ hi)
theorem inB_true {x lo hi : Int} (h : inB x lo hi = true) : lo ≤ x ∧ x ≤ hi := by simpa [inB] using h
theorem inB_of {x lo hi : Int} (h : lo ≤ x ∧ x ≤ hi) : inB x lo hi = true := by simpa [inB] using h
theorem inB_false {x lo hi : Int} (h : ¬ (lo ≤ x ∧ x ≤ hi)) : inB x lo hi = false := by
  cases hh : inB x lo hi
  · rfl
  · exact absurd (inB_true hh) h
theorem inB_false' {x lo hi : Int} (h : inB x lo hi = false) : x < lo ∨ hi < x := by
  rcases Int.lt_or_le x lo with h1 | h1
  · exact .inl h1
  · rcases Int.lt_or_le hi x with h2 | h2
    · exact .inr h2
    · rw [inB_of ⟨h1, h2⟩] at h; cases h
/-- how often a number can be halved till it is less than 2 -/
def halvings (n : Nat) : Nat := if n < 2 then 0 else halvings (n / 2) + 1
termination_by n
theorem halvings_lt (n : Nat) (h : n < 2) : halvings n = 0 := by rw [halvings, if_pos h]
theorem halvings_ge (n : Nat) (h : 2 ≤ n) : halvings n = halvings (n / 2) + 1 := by rw [halvings, if_neg (by omega)]
theorem halvings_bd (b : Nat) : ∀ n, n < 2 ^ b → halvings n ≤ b := by
  induction b with
  | zero => intro n h; rw [halvings_lt n (by simpa using Nat.lt_of_lt_of_le h (by decide))]; exact Nat.le_refl _
  | succ b ih =>
    intro n h
    by_cases h2 : n < 2
    · rw [halvings_lt n h2]; omega
    · rw [halvings_ge n (by omega)]
      have := ih (n / 2) (by rw [Nat.pow_succ] at h; omega)
      omega
theorem pow4_bd {e : Int} (h0 : 1 ≤ e) (h1 : e ≤ 30000) : 1 ≤ e * e ∧ e * e ≤ 900000000 ∧ 1 ≤ e * e * e ∧ e * e * e ≤ 27000000000000 ∧ 1 ≤ e * e * e * e ∧ e * e * e * e ≤ 810000000000000000 := by
  have a := Int.mul_le_mul h1 h1 (by omega) (by decide : (0 : Int) ≤ 30000)
  have a' := Int.mul_le_mul h0 h0 (by omega) (by omega : (0 : Int) ≤ e)
  have b := Int.mul_le_mul a h1 (by omega) (by decide)
  have b' := Int.mul_le_mul a' h0 (by omega) (by omega)
  have c := Int.mul_le_mul b h1 (by omega) (by decide)
  have c' := Int.mul_le_mul b' h0 (by omega) (by omega)
  omega
/-- the loss over a distance -/
def loss (d : Int) : Int := 400 + 15 * (halvings ((max d 1) * (max d 1) * (max d 1) * (max d 1)).toNat : Int)
theorem below_refl (w : World) : Below w.heap.size w w := Below.refl _ _

theorem within_any (x lo hi : Int) (w : World) : Calls Try.prog 63 #[.int .i64 x, .int .i64 lo, .int .i64 hi] w fun e w' => e = .returned (.bool (inB x lo hi)) ∧ w = w' := by
  go_enter Try.func63, Try.ntmps63
  go_wp2
  all_goals
    go_ret
    exact ⟨by simp [inB, *] <;> omega, rfl⟩
theorem in_any (x lo hi : Int) (w : World) : Calls Try.prog 48 #[.int .i64 x, .int .i64 lo, .int .i64 hi] w fun e w' => e = .returned (.bool (inB x lo hi)) ∧ w = w' := by
  go_enter Try.func48, Try.ntmps48
  go_wp2
  all_goals
    go_ret
    exact ⟨by simp [inB, *] <;> omega, rfl⟩
theorem root1_any (d s : Int) (b : Nat) (w : World) (h0 : 0 ≤ d) (h1 : d < 30000) (hc : w.cell? ⟨b, 0, none⟩ = some (.int .i64 s)) :
    Calls Try.prog 78 #[.int .i64 d, .pointer (some ⟨b, 0, none⟩)] w fun e w' => e = .returned (.bool (decide (s < (d + 1) * (d + 1)))) ∧ w = w' := by
  go_enter Try.func78, Try.ntmps78
  have hb : RowKit.wrap64 ((d + 1) * (d + 1)) = (d + 1) * (d + 1) := IntWalk.wrap64_in _ (by have := int_sq_le (show 0 ≤ d + 1 by omega) (show d + 1 ≤ 30000 by omega); have := Int.mul_nonneg (show 0 ≤ d + 1 by omega) (show 0 ≤ d + 1 by omega); omega)
  go_wp2
  go_ret
  exact ⟨rfl, rfl⟩
theorem enters59 : Enters 78 := fun args w => by kernel_rfl
theorem root_any (s : Int) (w : World) (h0 : 0 ≤ s) (h1 : s ≤ 800000000) :
    Calls Try.prog 74 #[.int .i64 s] w fun e w' => e = .returned (.int .i64 (isq s)) ∧ Below w.heap.size w w' := by
  go_enter Try.func74, Try.ntmps74
  go_wp2_with fail
  refine (search_any 30000 (by decide) 78 _ (fun d => decide (s < (d + 1) * (d + 1))) _ enters59 ?_ ?_).mono ?_
  · intro i hi hj
    exact root1_any i s _ _ hi hj (by simp)
  · intro i j h2 h3 h4 h5
    simp only [decide_eq_true_eq] at h5 ⊢
    have := int_sq_le (show 0 ≤ i + 1 by omega) (show i + 1 ≤ j + 1 by omega)
    omega
  · rintro e w' ⟨r, hr, ha, hb, rfl, rfl⟩
    have hrr : isq s = r := by
      have hlt : r < 30000 := by
        rcases Nat.lt_or_ge r 30000 with h | h
        · exact h
        · have := ha 29999 (by omega) (by omega)
          simp at this; omega
      refine isq_eq _ _ (by omega) ?_ ?_ (by omega)
      · by_cases h : r = 0
        · subst h; simpa using h0
        · have := ha (r - 1) (by omega) (by omega)
          simp at this
          exact this
      · have := hb r (by omega) (by omega)
        simpa using this
    have HR := Lib.hid hrr
    clear ha hb hrr
    go_wp2_with fail
    go_ret
    exact ⟨by rw [HR.out]; rfl, (Below.refl _ _).alloc (Nat.le_refl _) _⟩
theorem rroot_any (s : Int) (w : World) (h0 : 0 ≤ s) (h1 : s ≤ 800000000) :
    Calls Try.prog 76 #[.int .i64 s] w fun e w' => e = .returned (.int .i64 (isq s)) ∧ w = w' := by
  obtain ⟨q0, q1, q2, q3⟩ := isq_spec s h0 (by omega)
  go_enter Try.func76, Try.ntmps76
  go_wp2_with fail
  go_loop [3, 4] (fun i j => ∃ a b : Int, 0 ≤ a ∧ a ≤ isq s ∧ isq s ≤ b ∧ b ≤ 30000 ∧ i = .int .i64 a ∧ j = .int .i64 b) (fun i j => (intOf j - intOf i).toNat)
  case atStart => exact ⟨0, 30000, by omega, by omega, by omega, by omega, rfl, rfl⟩
  case round =>
    obtain ⟨a, b, ha0, ha, hb, hb1, rfl, rfl⟩ := hrel
    by_cases hlt : a < b
    · have hw : RowKit.wrap64 (((a + b + 1) / 2) * ((a + b + 1) / 2)) = ((a + b + 1) / 2) * ((a + b + 1) / 2) := IntWalk.wrap64_in _ (by have := int_sq_le (show 0 ≤ (a + b + 1) / 2 by omega) (show (a + b + 1) / 2 ≤ 30000 by omega); have := Int.mul_nonneg (show 0 ≤ (a + b + 1) / 2 by omega) (show 0 ≤ (a + b + 1) / 2 by omega); omega)
      by_cases hm : ((a + b + 1) / 2) * ((a + b + 1) / 2) ≤ s
      · have hk : (a + b + 1) / 2 ≤ isq s := by
          rcases Int.lt_or_le (isq s) ((a + b + 1) / 2) with h | h
          · have := int_sq_le (show 0 ≤ isq s + 1 by omega) (show isq s + 1 ≤ (a + b + 1) / 2 by omega); omega
          · exact h
        go_wp2_with fail
        go_round
        case rel => exact ⟨_, b, by omega, hk, hb, hb1, rfl, rfl⟩
        case measure => simp [intOf]; omega
      · have hk : isq s ≤ (a + b + 1) / 2 - 1 := by
          rcases Int.lt_or_le (isq s) ((a + b + 1) / 2) with h | h
          · omega
          · have := int_sq_le (show 0 ≤ (a + b + 1) / 2 by omega) h; omega
        go_wp2_with fail
        go_round
        case rel => exact ⟨a, _, ha0, ha, hk, by omega, rfl, rfl⟩
        case measure => simp [intOf]; omega
    · have hba : a = isq s := by omega
      subst hba
      go_wp2_with fail
      go_ret
      exact ⟨rfl, rfl⟩

theorem wrapmul (a b : Int) (h0 : 0 ≤ a * b) (h1 : a * b ≤ 9000000000000000000) : RowKit.wrap64 (a * b) = a * b := IntWalk.wrap64_in _ (by omega)
theorem rlost_any (d : Int) (w : World) (h0 : 0 ≤ d) (h1 : d ≤ 30000) :
    Calls Try.prog 71 #[.int .i64 d] w fun e w' => e = .returned (.int .i64 (loss d)) ∧ w = w' := by
  have hp := pow4_bd (show 1 ≤ max d 1 by omega) (show max d 1 ≤ 30000 by omega)
  obtain ⟨p1, p2, p3, p4, p5, p6⟩ := hp
  have hL : loss d = 400 + 15 * (halvings ((max d 1) * (max d 1) * (max d 1) * (max d 1)).toNat : Int) := rfl
  have HL := Lib.hid hL
  clear hL
  have hw1 := wrapmul (max d 1) (max d 1) (by omega) (by omega)
  have hw2 := wrapmul (max d 1 * max d 1) (max d 1) (by omega) (by omega)
  have hw3 := wrapmul (max d 1 * max d 1 * max d 1) (max d 1) (by omega) (by omega)
  have hH := halvings_bd 60 ((max d 1) * (max d 1) * (max d 1) * (max d 1)).toNat (by omega)
  go_enter Try.func71, Try.ntmps71
  go_wp2_with fail
  clear hw1 hw2 hw3
  go_loop [4, 5] (fun i j => ∃ x q : Nat, x ≤ 810000000000000000 ∧ halvings x + q = halvings ((max d 1) * (max d 1) * (max d 1) * (max d 1)).toNat ∧ i = .int .i64 x ∧ j = .int .i64 q) (fun i _ => (intOf i).toNat)
  case atStart => exact ⟨((max d 1) * (max d 1) * (max d 1) * (max d 1)).toNat, 0, by omega, by omega, by rw [Int.toNat_of_nonneg (by omega)], rfl⟩
  case round =>
    obtain ⟨x, q, hx, hq, rfl, rfl⟩ := hrel
    have HQ := Lib.hid hq
    have hqb : q ≤ 60 := by omega
    clear hq hH
    by_cases h2 : 2 ≤ x
    · go_wp2_with fail
      go_round
      case rel => exact ⟨x / 2, q + 1, by omega, by rw [← HQ.out, halvings_ge x h2]; omega, by go_num, by go_num⟩
      case measure => simp [intOf]; omega
    · go_wp2_with fail
      go_ret
      exact ⟨by rw [HL.out, ← HQ.out, halvings_lt x (by omega)]; simp, rfl⟩
def okd (x1 y1 x2 y2 : Int) : Bool := inB x1 (-10000) 10000 && inB y1 (-10000) 10000 && inB x2 (-10000) 10000 && inB y2 (-10000) 10000
/-- the distance and its error -/
def dist (x1 y1 x2 y2 : Int) : Int := if okd x1 y1 x2 y2 then isq ((x1 - x2) * (x1 - x2) + (y1 - y2) * (y1 - y2)) else 0
def diste (x1 y1 x2 y2 : Int) : Int := if okd x1 y1 x2 y2 then 0 else 2
theorem sq_bd {a : Int} (h0 : -20000 ≤ a) (h1 : a ≤ 20000) : 0 ≤ a * a ∧ a * a ≤ 400000000 := by
  rcases Int.lt_or_le a 0 with h | h
  · have := int_sq_le (show 0 ≤ -a by omega) (show -a ≤ 20000 by omega)
    have h2 := Int.mul_nonneg (show 0 ≤ -a by omega) (show 0 ≤ -a by omega)
    simp only [Int.neg_mul_neg] at this h2
    omega
  · have := int_sq_le h h1
    have h2 := Int.mul_nonneg h h
    omega
theorem distance_yes (x1 y1 x2 y2 : Int) (w : World) (h : okd x1 y1 x2 y2 = true) :
    Calls Try.prog 66 #[.int .i64 x1, .int .i64 y1, .int .i64 x2, .int .i64 y2] w fun e w' => e = .returned (.tuple #[.int .i64 (dist x1 y1 x2 y2), .int .i64 0]) ∧ Below w.heap.size w w' := by
  have hd : dist x1 y1 x2 y2 = isq ((x1 - x2) * (x1 - x2) + (y1 - y2) * (y1 - y2)) := if_pos h
  have HD := Lib.hid hd
  simp only [okd, Bool.and_eq_true] at h
  obtain ⟨⟨⟨ha, hb⟩, hc⟩, hf⟩ := h
  have a1 := inB_true ha; have a2 := inB_true hb; have a3 := inB_true hc; have a4 := inB_true hf
  have s1 := sq_bd (show -20000 ≤ x1 - x2 by omega) (by omega)
  have s2 := sq_bd (show -20000 ≤ y1 - y2 by omega) (by omega)
  have w1 := wrapmul (x1 - x2) (x1 - x2) (by omega) (by omega)
  have w2 := wrapmul (y1 - y2) (y1 - y2) (by omega) (by omega)
  clear hd
  obtain ⟨a1, b1⟩ := a1; obtain ⟨a2, b2⟩ := a2; obtain ⟨a3, b3⟩ := a3; obtain ⟨a4, b4⟩ := a4
  obtain ⟨c1, d1⟩ := s1; obtain ⟨c2, d2⟩ := s2
  go_enter Try.func66, Try.ntmps66
  go_wp2_with fail
  go_loop [18] (fun i => ∃ k : Nat, k ≤ 4 ∧ i = .int .i64 k) (fun i => (4 - intOf i).toNat)
  case atStart => exact ⟨0, by omega, rfl⟩
  case round =>
    obtain ⟨k, hk, rfl⟩ := hrel
    match k, hk with
    | 0, _ =>
      go_wp2_with (go_at_call 63; refine (within_any _ _ _ _).mono ?_; rintro e w' ⟨rfl, rfl⟩)
      go_round
      case rel => exact ⟨1, by omega, by go_num⟩
      case measure => simp [intOf]
    | 1, _ =>
      go_wp2_with (go_at_call 63; refine (within_any _ _ _ _).mono ?_; rintro e w' ⟨rfl, rfl⟩)
      go_round
      case rel => exact ⟨2, by omega, by go_num⟩
      case measure => simp [intOf]
    | 2, _ =>
      go_wp2_with (go_at_call 63; refine (within_any _ _ _ _).mono ?_; rintro e w' ⟨rfl, rfl⟩)
      go_round
      case rel => exact ⟨3, by omega, by go_num⟩
      case measure => simp [intOf]
    | 3, _ =>
      go_wp2_with (go_at_call 63; refine (within_any _ _ _ _).mono ?_; rintro e w' ⟨rfl, rfl⟩)
      go_round
      case rel => exact ⟨4, by omega, by go_num⟩
      case measure => simp [intOf]
    | 4, _ =>
      go_wp2_with (go_at_call 74; refine (root_any _ _ (by omega) (by omega)).mono ?_; rintro e w' ⟨rfl, hb⟩)
      go_ret2
      exact ⟨by rw [HD.out]; rfl, ((Below.refl _ _).alloc (Nat.le_refl _) _).trans (hb.mono (by simp))⟩

theorem distance_no (x1 y1 x2 y2 : Int) (w : World) (h : okd x1 y1 x2 y2 = false) :
    Calls Try.prog 66 #[.int .i64 x1, .int .i64 y1, .int .i64 x2, .int .i64 y2] w fun e w' => e = .returned (.tuple #[.int .i64 0, .int .i64 2]) ∧ Below w.heap.size w w' := by
  have H := Lib.hid h
  clear h
  go_enter Try.func66, Try.ntmps66
  go_wp2_with fail
  go_loop [18] (fun i => ∃ k : Nat, k ≤ 4 ∧ i = .int .i64 k ∧ Hid (0 < k → inB x1 (-10000) 10000 = true) ∧ Hid (1 < k → inB y1 (-10000) 10000 = true) ∧ Hid (2 < k → inB x2 (-10000) 10000 = true) ∧ Hid (3 < k → inB y2 (-10000) 10000 = true)) (fun i => (4 - intOf i).toNat)
  case atStart => exact ⟨0, by omega, rfl, by intro; omega, by intro; omega, by intro; omega, by intro; omega⟩
  case round =>
    obtain ⟨k, hk, rfl, h1, h2, h3, h4⟩ := hrel
    match k, hk with
    | 0, _ =>
      cases hv : inB x1 (-10000) 10000
      · go_wp2_with (go_at_call 63; refine (within_any _ _ _ _).mono ?_; rintro e w' ⟨rfl, rfl⟩)
        go_ret2
        exact ⟨rfl, (Below.refl _ _).alloc (Nat.le_refl _) _⟩
      · go_wp2_with (go_at_call 63; refine (within_any _ _ _ _).mono ?_; rintro e w' ⟨rfl, rfl⟩)
        go_round
        case rel => exact ⟨1, by omega, by go_num, (by intro _; first | exact hv | trivial), fun h => absurd h (by omega), fun h => absurd h (by omega), fun h => absurd h (by omega)⟩
        case measure => simp [intOf]
    | 1, _ =>
      cases hv : inB y1 (-10000) 10000
      · go_wp2_with (go_at_call 63; refine (within_any _ _ _ _).mono ?_; rintro e w' ⟨rfl, rfl⟩)
        go_ret2
        exact ⟨rfl, (Below.refl _ _).alloc (Nat.le_refl _) _⟩
      · go_wp2_with (go_at_call 63; refine (within_any _ _ _ _).mono ?_; rintro e w' ⟨rfl, rfl⟩)
        go_round
        case rel => exact ⟨2, by omega, by go_num, fun _ => h1.out (by omega), (by intro _; first | exact hv | trivial), fun h => absurd h (by omega), fun h => absurd h (by omega)⟩
        case measure => simp [intOf]
    | 2, _ =>
      cases hv : inB x2 (-10000) 10000
      · go_wp2_with (go_at_call 63; refine (within_any _ _ _ _).mono ?_; rintro e w' ⟨rfl, rfl⟩)
        go_ret2
        exact ⟨rfl, (Below.refl _ _).alloc (Nat.le_refl _) _⟩
      · go_wp2_with (go_at_call 63; refine (within_any _ _ _ _).mono ?_; rintro e w' ⟨rfl, rfl⟩)
        go_round
        case rel => exact ⟨3, by omega, by go_num, fun _ => h1.out (by omega), fun _ => h2.out (by omega), (by intro _; first | exact hv | trivial), fun h => absurd h (by omega)⟩
        case measure => simp [intOf]
    | 3, _ =>
      cases hv : inB y2 (-10000) 10000
      · go_wp2_with (go_at_call 63; refine (within_any _ _ _ _).mono ?_; rintro e w' ⟨rfl, rfl⟩)
        go_ret2
        exact ⟨rfl, (Below.refl _ _).alloc (Nat.le_refl _) _⟩
      · go_wp2_with (go_at_call 63; refine (within_any _ _ _ _).mono ?_; rintro e w' ⟨rfl, rfl⟩)
        go_round
        case rel => exact ⟨4, by omega, by go_num, fun _ => h1.out (by omega), fun _ => h2.out (by omega), fun _ => h3.out (by omega), (by intro _; first | exact hv | trivial)⟩
        case measure => simp [intOf]
    | 4, _ =>
      exfalso
      have := H.out
      simp [okd, h1.out (by omega), h2.out (by omega), h3.out (by omega), h4.out (by omega)] at this
theorem distance_any (x1 y1 x2 y2 : Int) (w : World) :
    Calls Try.prog 66 #[.int .i64 x1, .int .i64 y1, .int .i64 x2, .int .i64 y2] w fun e w' => e = .returned (.tuple #[.int .i64 (dist x1 y1 x2 y2), .int .i64 (diste x1 y1 x2 y2)]) ∧ Below w.heap.size w w' := by
  cases h : okd x1 y1 x2 y2
  · have e1 : dist x1 y1 x2 y2 = 0 := by simp [dist, h]
    have e2 : diste x1 y1 x2 y2 = 2 := by simp [diste, h]
    rw [e1, e2]; exact distance_no _ _ _ _ _ h
  · have e2 : diste x1 y1 x2 y2 = 0 := by simp [diste, h]
    rw [e2]; exact distance_yes _ _ _ _ _ h
theorem rdistance_any (x1 y1 x2 y2 : Int) (w : World) :
    Calls Try.prog 70 #[.int .i64 x1, .int .i64 y1, .int .i64 x2, .int .i64 y2] w fun e w' => e = .returned (.tuple #[.int .i64 (dist x1 y1 x2 y2), .int .i64 (diste x1 y1 x2 y2)]) ∧ w = w' := by
  have no : okd x1 y1 x2 y2 = false → dist x1 y1 x2 y2 = 0 ∧ diste x1 y1 x2 y2 = 2 := fun h => by simp [dist, diste, h]
  have NO := Lib.hid no
  clear no
  cases ha : inB x1 (-10000) 10000
  · go_enter Try.func70, Try.ntmps70
    go_wp2_with (go_at_call 48; refine (in_any _ _ _ _).mono ?_; rintro e w' ⟨rfl, rfl⟩)
    go_ret2
    have := NO.out (by simp [okd, ha])
    exact ⟨by rw [this.1, this.2]; rfl, rfl⟩
  cases hb : inB y1 (-10000) 10000
  · go_enter Try.func70, Try.ntmps70
    go_wp2_with (go_at_call 48; refine (in_any _ _ _ _).mono ?_; rintro e w' ⟨rfl, rfl⟩)
    go_ret2
    have := NO.out (by simp [okd, ha, hb])
    exact ⟨by rw [this.1, this.2]; rfl, rfl⟩
  cases hc : inB x2 (-10000) 10000
  · go_enter Try.func70, Try.ntmps70
    go_wp2_with (go_at_call 48; refine (in_any _ _ _ _).mono ?_; rintro e w' ⟨rfl, rfl⟩)
    go_ret2
    have := NO.out (by simp [okd, ha, hb, hc])
    exact ⟨by rw [this.1, this.2]; rfl, rfl⟩
  cases hd : inB y2 (-10000) 10000
  · go_enter Try.func70, Try.ntmps70
    go_wp2_with (go_at_call 48; refine (in_any _ _ _ _).mono ?_; rintro e w' ⟨rfl, rfl⟩)
    go_ret2
    have := NO.out (by simp [okd, ha, hb, hc, hd])
    exact ⟨by rw [this.1, this.2]; rfl, rfl⟩
  have hk : okd x1 y1 x2 y2 = true := by simp [okd, ha, hb, hc, hd]
  have yes : dist x1 y1 x2 y2 = isq ((x1 - x2) * (x1 - x2) + (y1 - y2) * (y1 - y2)) ∧ diste x1 y1 x2 y2 = 0 := by simp [dist, diste, hk]
  have YES := Lib.hid yes
  obtain ⟨a1, b1⟩ := inB_true ha; obtain ⟨a2, b2⟩ := inB_true hb; obtain ⟨a3, b3⟩ := inB_true hc; obtain ⟨a4, b4⟩ := inB_true hd
  obtain ⟨c1, d1⟩ := sq_bd (show -20000 ≤ x1 - x2 by omega) (by omega)
  obtain ⟨c2, d2⟩ := sq_bd (show -20000 ≤ y1 - y2 by omega) (by omega)
  have w1 := wrapmul (x1 - x2) (x1 - x2) (by omega) (by omega)
  have w2 := wrapmul (y1 - y2) (y1 - y2) (by omega) (by omega)
  clear hk yes NO
  go_enter Try.func70, Try.ntmps70
  go_wp2_with (first | (go_at_call 48; refine (in_any _ _ _ _).mono ?_; rintro e w' ⟨rfl, rfl⟩) | (go_at_call 76; refine (rroot_any _ _ (by omega) (by omega)).mono ?_; rintro e w' ⟨rfl, rfl⟩))
  go_ret2
  exact ⟨by rw [YES.out.1, YES.out.2]; rfl, rfl⟩
end Go.Proofs.Ytgdjdaoglkfjdaa
