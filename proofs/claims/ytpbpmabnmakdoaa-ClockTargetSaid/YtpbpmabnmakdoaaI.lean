/- The walks of alive and of ClockMonotone: they return true for every input. -/
import Derived.Test.YtpbpmabnmakdoaaG
namespace Go.Proofs.Ytpbpmabnmakdoaa
open Go.RowKit
theorem alive_lst : lst (reached 0 0 1 1024) 2048 = 1023 := lst_eq (by decide) (fun i h0 h1 => by unfold reached ltime; simp; omega) (fun _ => by decide)
theorem alive_any (w : World) : Calls Try.prog 21 #[] w fun e w' => e = .returned (.bool true) ∧ Below w.heap.size w w' := by
  have e1 : Lof 5 100 1000000 = 1000105 := by decide
  have e2 : aske 5 100 1000000 = 0 := by decide
  have e3 : Lof 0 (-1) 1 = 0 := by decide
  have e4 : aske 0 (-1) 1 = 0 := by decide
  have e5 : Terr 0 0 1 1 = 0 := by decide
  have e6 : Tstamp 0 0 1 1 = 1024 := by decide
  have e7 : Tat 0 0 1 1 = 1024 := by
    have h : ceilm (ltime 0 0 1) (1 * 1024) = 1024 := by decide
    unfold Tat
    rw [if_pos e5, h]
    have := alive_lst
    simp only [Int.one_mul, show (2 * 1024 : Int).toNat = 2048 from rfl, this]
    decide
  have e8 : Aerr 5 0 10 20 = 0 := by decide
  have e9 : Aof 5 0 10 20 = 10 := by decide
  have e10 : App 5 0 10 20 = 0 := by decide
  go_enter Try.func21, Try.ntmps21
  go_wp2_with fail
  refine (Local_any _ _ _ _).mono ?_
  rintro e w1 ⟨rfl, hB1⟩
  go_wp2_with fail
  refine (Local_any _ _ _ _).mono ?_
  rintro e w2 ⟨rfl, hb⟩
  have hB2 := hB1.trans (hb.mono hB1.size)
  clear hB1 hb
  go_wp2_with fail
  refine (Target_any _ _ _ _ _).mono ?_
  rintro e w3 ⟨rfl, hb⟩
  have hB3 := hB2.trans (hb.mono hB2.size)
  clear hB2 hb
  go_wp2_with fail
  refine (Adopt_any _ _ _ _ _).mono ?_
  rintro e w4 ⟨rfl, hb⟩
  have hB4 := hB3.trans (hb.mono hB3.size)
  clear hB3 hb
  go_wp2_with fail
  go_ret
  exact ⟨rfl, hB4.alloc hB4.size _⟩
theorem mono_facts (o p m n : Int) (hp : -100 ≤ p) (hp' : p ≤ 100) (h : m ≤ n) :
    ltime o p m ≤ ltime o p n ∧ ltime o p n - ltime o p m - (n - m) ≤ (n - m) / 10000 + 2 ∧ -((n - m) / 10000 + 2) ≤ ltime o p n - ltime o p m - (n - m) := by
  refine ⟨ltime_le o p m n hp h, ?_⟩
  have h1 : n * p = m * p + (n - m) * p := by rw [Int.sub_mul]; omega
  obtain ⟨d, hd⟩ : ∃ d, d = n - m := ⟨_, rfl⟩
  have h2 : -(d * 100) ≤ d * p := by
    have := Int.mul_le_mul_of_nonneg_left hp (show 0 ≤ d by omega); omega
  have h3 : d * p ≤ d * 100 := Int.mul_le_mul_of_nonneg_left hp' (show 0 ≤ d by omega)
  unfold ltime
  rw [h1, ← hd]
  generalize d * p = x at *
  generalize m * p = y at *
  omega
theorem law_monotone (o p m n : Int) (w : World) :
    Calls Try.prog 5 #[.agg #[.int .i64 o, .int .i64 p], .int .i64 m, .int .i64 n] w fun e w' => e = .returned (.bool true) ∧ Below w.heap.size w w' := by
  have hB0 : Below w.heap.size w (w.alloc (.cells #[.int .i64 o, .int .i64 p] 33)) := (Below.refl _ _).alloc (Nat.le_refl _) _
  by_cases ha : aske o p m = 0
  · have hla : Lof o p m = ltime o p m := if_pos ha
    by_cases hb : aske o p n = 0
    · have hlb : Lof o p n = ltime o p n := if_pos hb
      by_cases hmn : m ≤ n
      · obtain ⟨hv, h0, h1⟩ := aske_zero ha
        obtain ⟨_, h2, h3⟩ := aske_zero hb
        obtain ⟨l1, l2⟩ := local_lo o p m hv h0 (by omega)
        obtain ⟨l3, l4⟩ := local_lo o p n hv h2 (by omega)
        obtain ⟨f1, f2, f3⟩ := mono_facts o p m n (by have := vck_true hv; omega) (by have := vck_true hv; omega) hmn
        go_enter Try.func5, Try.ntmps5
        go_wp2_with fail
        refine (alive_any _).mono ?_
        rintro e w1 ⟨rfl, hb⟩
        have t1 := Two.later (k := w.heap.size) (x := .int .i64 o) (y := .int .i64 p) hb (by simp [Two, go_sem])
        have hB1 := hB0.trans (hb.mono hB0.size)
        clear hB0 hb
        obtain ⟨c0, c1, _, _⟩ := id t1
        go_wp2_with fail
        refine (Local_any _ _ _ _).mono ?_
        rintro e w2 ⟨rfl, hb⟩
        have t2 := Two.later hb t1
        have hB2 := hB1.trans (hb.mono hB1.size)
        clear hB1 hb t1 c0 c1
        obtain ⟨c0, c1, _, _⟩ := id t2
        go_wp2_with fail
        refine (Local_any _ _ _ _).mono ?_
        rintro e w3 ⟨rfl, hb⟩
        have hB3 := hB2.trans (hb.mono hB2.size)
        clear hB2 hb t2 c0 c1
        go_wp2_with fail
        go_ret
        exact ⟨rfl, hB3⟩
      · have hmn2 : n < m := by omega
        clear hmn
        go_enter Try.func5, Try.ntmps5
        go_wp2_with fail
        refine (alive_any _).mono ?_
        rintro e w1 ⟨rfl, hb⟩
        have t1 := Two.later (k := w.heap.size) (x := .int .i64 o) (y := .int .i64 p) hb (by simp [Two, go_sem])
        have hB1 := hB0.trans (hb.mono hB0.size)
        clear hB0 hb
        obtain ⟨c0, c1, _, _⟩ := id t1
        go_wp2_with fail
        refine (Local_any _ _ _ _).mono ?_
        rintro e w2 ⟨rfl, hb⟩
        have t2 := Two.later hb t1
        have hB2 := hB1.trans (hb.mono hB1.size)
        clear hB1 hb t1 c0 c1
        obtain ⟨c0, c1, _, _⟩ := id t2
        go_wp2_with fail
        refine (Local_any _ _ _ _).mono ?_
        rintro e w3 ⟨rfl, hb⟩
        have hB3 := hB2.trans (hb.mono hB2.size)
        clear hB2 hb t2 c0 c1
        go_wp2_with fail
        go_ret
        exact ⟨rfl, hB3⟩
    · have hneb : (aske o p n != 0) = true := by simpa using hb
      clear hb
      go_enter Try.func5, Try.ntmps5
      go_wp2_with fail
      refine (alive_any _).mono ?_
      rintro e w1 ⟨rfl, hb⟩
      have t1 := Two.later (k := w.heap.size) (x := .int .i64 o) (y := .int .i64 p) hb (by simp [Two, go_sem])
      have hB1 := hB0.trans (hb.mono hB0.size)
      clear hB0 hb
      obtain ⟨c0, c1, _, _⟩ := id t1
      go_wp2_with fail
      refine (Local_any _ _ _ _).mono ?_
      rintro e w2 ⟨rfl, hb⟩
      have t2 := Two.later hb t1
      have hB2 := hB1.trans (hb.mono hB1.size)
      clear hB1 hb t1 c0 c1
      obtain ⟨c0, c1, _, _⟩ := id t2
      go_wp2_with fail
      refine (Local_any _ _ _ _).mono ?_
      rintro e w3 ⟨rfl, hb⟩
      have hB3 := hB2.trans (hb.mono hB2.size)
      clear hB2 hb t2 c0 c1
      go_wp2_with fail
      go_ret
      exact ⟨rfl, hB3⟩
  · have hnea : (aske o p m != 0) = true := by simpa using ha
    clear ha
    go_enter Try.func5, Try.ntmps5
    go_wp2_with fail
    refine (alive_any _).mono ?_
    rintro e w1 ⟨rfl, hb⟩
    have t1 := Two.later (k := w.heap.size) (x := .int .i64 o) (y := .int .i64 p) hb (by simp [Two, go_sem])
    have hB1 := hB0.trans (hb.mono hB0.size)
    clear hB0 hb
    obtain ⟨c0, c1, _, _⟩ := id t1
    go_wp2_with fail
    refine (Local_any _ _ _ _).mono ?_
    rintro e w2 ⟨rfl, hb⟩
    have t2 := Two.later hb t1
    have hB2 := hB1.trans (hb.mono hB1.size)
    clear hB1 hb t1 c0 c1
    obtain ⟨c0, c1, _, _⟩ := id t2
    go_wp2_with fail
    refine (Local_any _ _ _ _).mono ?_
    rintro e w3 ⟨rfl, hb⟩
    have hB3 := hB2.trans (hb.mono hB2.size)
    clear hB2 hb t2 c0 c1
    go_wp2_with fail
    go_ret
    exact ⟨rfl, hB3⟩
end Go.Proofs.Ytpbpmabnmakdoaa
