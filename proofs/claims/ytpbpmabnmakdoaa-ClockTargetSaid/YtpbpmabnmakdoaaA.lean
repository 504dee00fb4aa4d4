/- Contracts of the functions that reckon local times, and of their references. Each holds for every input that its premises allow. -/
import Derived.Test.YtpbpmabnmakdoaaProg
import Derived.WalkKit
import Derived.WalkSmall
import Derived.BigQuiet
import Derived.Deep.QuietTactic
import Derived.Deep.RegionHeld3
import Derived.Deep.RegionWith
import Derived.StillTailTactics
import Derived.RegionTactic
import Derived.Lib.Hide
namespace Go.Proofs.Ytpbpmabnmakdoaa
open Go.RowKit

/-- the local time of a clock -/
def ltime (o p n : Int) : Int := n + o + n * p / 1000000
def vck (o p : Int) : Bool := decide (-1099511627776 ≤ o) && decide (o ≤ 1099511627776) && decide (-100 ≤ p) && decide (p ≤ 100)
theorem vck_true {o p : Int} (h : vck o p = true) : -1099511627776 ≤ o ∧ o ≤ 1099511627776 ∧ -100 ≤ p ∧ p ≤ 100 := by
  simp [vck] at h; omega
theorem vck_of {o p : Int} (h : -1099511627776 ≤ o ∧ o ≤ 1099511627776 ∧ -100 ≤ p ∧ p ≤ 100) : vck o p = true := by
  simp [vck]; omega
def cke (o p : Int) : Int := if vck o p then 0 else 8
theorem mul_bd {a b A B : Int} (ha : -A ≤ a) (ha' : a ≤ A) (hb : -B ≤ b) (hb' : b ≤ B) : -(A * B) ≤ a * b ∧ a * b ≤ A * B := by
  have h1 := Int.mul_nonneg (show 0 ≤ A - a by omega) (show 0 ≤ B - b by omega)
  have h2 := Int.mul_nonneg (show 0 ≤ A - a by omega) (show 0 ≤ B + b by omega)
  have h3 := Int.mul_nonneg (show 0 ≤ A + a by omega) (show 0 ≤ B - b by omega)
  have h4 := Int.mul_nonneg (show 0 ≤ A + a by omega) (show 0 ≤ B + b by omega)
  simp only [Int.add_mul, Int.sub_mul, Int.mul_add, Int.mul_sub] at h1 h2 h3 h4
  omega

theorem check_any (o p : Int) (w : World) : Calls Try.prog 19 #[.agg #[.int .i64 o, .int .i64 p]] w fun e w' => e = .returned (.int .i64 (cke o p)) ∧ Below w.heap.size w w' := by
  have hy : vck o p = true → cke o p = 0 := fun h => by simp [cke, h]
  have hn : vck o p = false → cke o p = 8 := fun h => by simp [cke, h]
  have HY := Lib.hid hy; have HN := Lib.hid hn; clear hy hn
  go_enter Try.func19, Try.ntmps19
  go_wp2
  all_goals
    go_ret
    refine ⟨?_, (Below.refl _ _).alloc (Nat.le_refl _) _⟩
    first
      | rw [HN.out (by simp [vck, *] <;> omega)]; rfl
      | rw [HY.out (vck_of (by omega))]; rfl
theorem rcheck_any (o p : Int) (w : World) : Calls Try.prog 20 #[.agg #[.int .i64 o, .int .i64 p]] w fun e w' => e = .returned (.int .i64 (cke o p)) ∧ Below w.heap.size w w' := by
  have hy : vck o p = true → cke o p = 0 := fun h => by simp [cke, h]
  have hn : vck o p = false → cke o p = 8 := fun h => by simp [cke, h]
  have HY := Lib.hid hy; have HN := Lib.hid hn; clear hy hn
  go_enter Try.func20, Try.ntmps20
  go_wp2
  all_goals
    go_ret
    refine ⟨?_, (Below.refl _ _).alloc (Nat.le_refl _) _⟩
    first
      | rw [HN.out (by simp [vck, *] <;> omega)]; rfl
      | rw [HY.out (vck_of (by omega))]; rfl
theorem div_uniq {a b q : Int} (hb : 0 < b) (h1 : q * b ≤ a) (h2 : a < q * b + b) : a / b = q := by
  have e := Int.mul_ediv_add_emod a b
  have r0 := Int.emod_nonneg a (show b ≠ 0 by omega)
  have r1 := Int.emod_lt_of_pos a hb
  generalize a / b = k at *
  generalize a % b = r at *
  rw [Int.mul_comm] at e
  rcases Int.lt_trichotomy k q with h | h | h
  · have := Int.mul_le_mul_of_nonneg_right (show k + 1 ≤ q by omega) (show 0 ≤ b by omega)
    rw [Int.add_mul] at this; omega
  · exact h
  · have := Int.mul_le_mul_of_nonneg_right (show q + 1 ≤ k by omega) (show 0 ≤ b by omega)
    rw [Int.add_mul] at this; omega
theorem tdiv_facts {a b : Int} (hb : 0 < b) : (0 ≤ a → 0 ≤ a.tdiv b * b ∧ a.tdiv b * b ≤ a ∧ a < a.tdiv b * b + b ∧ 0 ≤ a.tdiv b) ∧ (a < 0 → a ≤ a.tdiv b * b ∧ a.tdiv b * b ≤ 0 ∧ a.tdiv b * b - b < a ∧ a.tdiv b ≤ 0) := by
  have e := Int.mul_tdiv_add_tmod a b
  constructor
  · intro h
    have h1 := Int.tmod_nonneg b h
    have h2 := Int.tmod_lt_of_pos a hb
    have h3 := Int.tdiv_nonneg h (Int.le_of_lt hb)
    have h4 := Int.mul_nonneg h3 (Int.le_of_lt hb)
    rw [Int.mul_comm] at e
    omega
  · intro h
    have h1 := Int.tmod_nonneg b (show 0 ≤ -a by omega)
    have h2 := Int.tmod_lt_of_pos (-a) hb
    have h3 := Int.tdiv_nonneg (show 0 ≤ -a by omega) (Int.le_of_lt hb)
    have h4 := Int.mul_nonneg h3 (Int.le_of_lt hb)
    rw [Int.neg_tmod] at h1 h2
    rw [Int.neg_tdiv] at h3 h4
    rw [Int.neg_mul] at h4
    rw [Int.mul_comm] at e
    omega
theorem tdiv_bd {a b : Int} (hb : 0 < b) : (0 ≤ a → a.tdiv b ≤ a) ∧ (a < 0 → a ≤ a.tdiv b) := by
  have f := tdiv_facts (a := a) hb
  constructor
  · intro h
    obtain ⟨h1, h2, h3, h4⟩ := f.1 h
    have := Int.mul_le_mul_of_nonneg_left (show 1 ≤ b by omega) h4
    omega
  · intro h
    obtain ⟨h1, h2, h3, h4⟩ := f.2 h
    have := Int.mul_le_mul_of_nonneg_left (show 1 ≤ b by omega) (show 0 ≤ -a.tdiv b by omega)
    simp only [Int.neg_mul, Int.mul_one] at this
    omega
theorem tdiv_floor {a b : Int} (hb : 0 < b) : (a.tdiv b * b ≤ a → a.tdiv b = a / b) ∧ (¬ a.tdiv b * b ≤ a → a.tdiv b - 1 = a / b) := by
  have f := tdiv_facts (a := a) hb
  constructor
  · intro h
    symm
    rcases Int.lt_or_le a 0 with g | g
    · obtain ⟨h1, h2, h3, h4⟩ := f.2 g
      exact div_uniq hb h (by omega)
    · obtain ⟨h1, h2, h3, h4⟩ := f.1 g
      exact div_uniq hb h (by omega)
  · intro h
    symm
    rcases Int.lt_or_le a 0 with g | g
    · obtain ⟨h1, h2, h3, h4⟩ := f.2 g
      exact div_uniq hb (by rw [Int.sub_mul]; omega) (by rw [Int.sub_mul]; omega)
    · obtain ⟨h1, h2, h3, h4⟩ := f.1 g
      omega
theorem floor_any (a b : Int) (w : World) (h0 : -4611686018427387904 ≤ a) (h1 : a ≤ 4611686018427387904) (h2 : 1 ≤ b) (h3 : b ≤ 1099511627776) :
    Calls Try.prog 33 #[.int .i64 a, .int .i64 b] w fun e w' => e = .returned (.int .i64 (a / b)) ∧ w = w' := by
  have f1 := tdiv_facts (a := a) (show 0 < b by omega)
  have f2 := tdiv_bd (a := a) (show 0 < b by omega)
  obtain ⟨q3, q4⟩ := tdiv_floor (a := a) (show 0 < b by omega)
  have Q3 := Lib.hid q3; have Q4 := Lib.hid q4; clear q3 q4
  have q1 : -4611686018427387904 ≤ a.tdiv b * b := by omega
  have q2 : a.tdiv b * b ≤ 4611686018427387904 := by omega
  have q5 : -4611686018427387904 ≤ a.tdiv b := by omega
  have q6 : a.tdiv b ≤ 4611686018427387904 := by omega
  clear f1 f2
  have hw := IntWalk.wrap64_in (a.tdiv b * b) (by omega)
  by_cases hc : a.tdiv b * b ≤ a
  · go_enter Try.func33, Try.ntmps33
    go_wp2
    go_ret
    exact ⟨by rw [← Q3.out hc]; rfl, rfl⟩
  · go_enter Try.func33, Try.ntmps33
    go_wp2
    go_ret
    exact ⟨by rw [← Q4.out hc]; rfl, rfl⟩
theorem quiet_eq {P : Program} {f : FuncId} {args : Array Value} {v : Value} (h : ∀ w, Calls P f args w fun e w' => e = .returned v ∧ w = w') (w : World) (n : Nat) :
    Calls P f args (w.drewN n) fun e w'' => e = .returned v ∧ ∃ m, w'' = w.drewN m := (h _).mono fun _ _ ⟨he, hw⟩ => ⟨he, n, hw.symm⟩
theorem local_any (o p n : Int) (w : World) (hv : vck o p = true) (h0 : 0 ≤ n) (h1 : n ≤ 4398046511104) :
    Calls Try.prog 27 #[.agg #[.int .i64 o, .int .i64 p], .int .i64 n] w fun e w' => e = .returned (.int .i64 (ltime o p n)) ∧ Below w.heap.size w w' := by
  obtain ⟨a1, a2, a3, a4⟩ := vck_true hv
  obtain ⟨b1, b2⟩ := mul_bd (a := n) (b := p) (A := 4398046511104) (B := 100) (by omega) (by omega) (by omega) (by omega)
  have hw1 := IntWalk.i64_in (n * p) (by omega)
  have hw2 := IntWalk.i64_in (n + o) (by omega)
  have hw3 := IntWalk.i64_in (n + o + n * p / 1000000) (by omega)
  have hw4 := IntWalk.wrap64_in (n * p) (by omega)
  clear hv
  go_enter Try.func27, Try.ntmps27
  go_wp2_with fail
  go_quiet ((go_at_call 33; exact quiet_eq (fun w => floor_any _ _ w (by omega) (by omega) (by omega) (by omega)) _ _))
  go_wp2_with fail
  go_ret
  exact ⟨rfl, below_drewN ((Below.refl _ _).alloc (Nat.le_refl _) _) _⟩
end Go.Proofs.Ytpbpmabnmakdoaa
