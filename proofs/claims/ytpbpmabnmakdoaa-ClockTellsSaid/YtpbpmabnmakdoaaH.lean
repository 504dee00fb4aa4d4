/- The walk of ClockTells: it returns true for every clock, time, stamp and number of units. -/
import Derived.Test.YtpbpmabnmakdoaaG
namespace Go.Proofs.Ytpbpmabnmakdoaa
open Go.RowKit
theorem law_tells (o p n s u : Int) (w : World) :
    Calls Try.prog 4 #[.agg #[.int .i64 o, .int .i64 p], .int .i64 n, .int .i64 s, .int .i64 u] w fun e w' => e = .returned (.bool true) ∧ Below w.heap.size w w' := by
  have hB0 : Below w.heap.size w (w.alloc (.cells #[.int .i64 o, .int .i64 p] 33)) := (Below.refl _ _).alloc (Nat.le_refl _) _
  go_enter Try.func4, Try.ntmps4
  go_wp2_with fail
  refine (Local_any _ _ _ _).mono ?_
  rintro e w1 ⟨rfl, hb⟩
  have t1 := Two.later (k := w.heap.size) (x := .int .i64 o) (y := .int .i64 p) hb (by simp [Two, go_sem])
  have hB1 := hB0.trans (hb.mono hB0.size)
  clear hB0 hb
  obtain ⟨c0, c1, _, _⟩ := id t1
  go_wp2_with fail
  refine (rLocal_any _ _ _ _).mono ?_
  rintro e w2 ⟨rfl, hb⟩
  have t2 := Two.later hb t1
  have hB2 := hB1.trans (hb.mono hB1.size)
  clear hB1 hb t1 c0 c1 
  obtain ⟨c0, c1, _, _⟩ := id t2
  go_wp2_with fail
  refine (Adopt_any _ _ _ _ _).mono ?_
  rintro e w3 ⟨rfl, hb⟩
  have t3 := Two.later hb t2
  have hB3 := hB2.trans (hb.mono hB2.size)
  clear hB2 hb t2 c0 c1
  obtain ⟨c0, c1, _, _⟩ := id t3
  have lt3 : w.heap.size < w3.heap.size := World.block_lt_of_cell? w3 _ t3.1
  go_wp2_with fail
  refine (rAdopt_any _ _ _ _ _).mono ?_
  rintro e w4 ⟨rfl, hb⟩
  have t4 := Two.later (k := w.heap.size) (x := .int .i64 o) (y := .int .i64 p) hb (by simp [Two, go_sem, *])
  have u4 := Two.later (k := w3.heap.size) (x := .int .i64 (Aof o p n s)) (y := .int .i64 (App o p n s)) hb (by simp [Two, go_sem])
  have hB4 := (hB3.alloc hB3.size _).trans (hb.mono (by have := hB3.size; simp; omega))
  have lt4 : w3.heap.size < w4.heap.size := World.block_lt_of_cell? w4 _ u4.1
  have lt4b : w.heap.size < w4.heap.size := World.block_lt_of_cell? w4 _ t4.1
  clear hB3 hb t3 c0 c1
  obtain ⟨c0, c1, _, _⟩ := id t4
  go_wp2_with fail
  refine (Target_any _ _ _ _ _).mono ?_
  rintro e w5 ⟨rfl, hb⟩
  have t5 := Two.later (k := w.heap.size) (x := .int .i64 o) (y := .int .i64 p) hb (by simp [Two, go_sem, *])
  have u5 := Two.later (k := w3.heap.size) (x := .int .i64 (Aof o p n s)) (y := .int .i64 (App o p n s)) hb (by simp [Two, go_sem, u4.1, u4.2.1, u4.2.2.1, u4.2.2.2, lt4])
  have v5 := Two.later (k := w4.heap.size) (x := .int .i64 (Aof o p n s)) (y := .int .i64 (App o p n s)) hb (by simp [Two, go_sem])
  have hB5 := (hB4.alloc hB4.size _).trans (hb.mono (by have := hB4.size; simp; omega))
  clear hB4 hb t4 u4 c0 c1
  obtain ⟨c0, c1, _, _⟩ := id t5
  go_wp2_with fail
  refine (rTarget_any _ _ _ _ _).mono ?_
  rintro e w6 ⟨rfl, hb⟩
  obtain ⟨c2, c3, _, _⟩ := Two.later hb t5
  obtain ⟨c4, c5, _, _⟩ := Two.later hb u5
  obtain ⟨c6, c7, _, _⟩ := Two.later hb v5
  have hB6 := hB5.trans (hb.mono hB5.size)
  clear hB5 hb t5 u5 v5 c0 c1
  have p0 := Past.cell c2
  have p1 := Past.cell c3
  have p2 := Past.cell c4
  have p3 := Past.cell c5
  have p4 := Past.cell c6
  have p5 := Past.cell c7
  clear c2 c3 c4 c5 c6 c7
  go_wp2_with fail
  refine wp_region_quiet (C := fun w' => ∃ v : Past w6, w' = v.w) (by kernel_rfl) (by kernel_rfl) (Past.drew0 _) ?_
  repeat (quiet_step ((first | (go_at_call 19; exact Past.call (fun w => check_any _ _ w) _) | (go_at_call 20; exact Past.call (fun w => rcheck_any _ _ w) _))))
  refine wpQuiet_nil ?_
  intro _ hw'
  obtain ⟨v, hw''⟩ := hw'
  subst hw''
  go_wp2_with fail
  go_ret
  exact ⟨rfl, hB6.trans (v.2.mono hB6.size)⟩
end Go.Proofs.Ytpbpmabnmakdoaa
