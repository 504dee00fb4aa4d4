/- BackoffBounds: the walks after a failure that drops nothing. -/
import Derived.Test.YtdikdhjfcnocdaaDoorH
namespace Go.Proofs.YtdikdhjfcnocdaaDoor
open Go.RowKit
set_option linter.unusedVariables false
set_option maxRecDepth 20000 in
set_option maxHeartbeats 2000000 in
theorem bounds_failA (c v n t d L H : Int)  (w : World) (hw : Win w) (hc0 : 0 ≤ c) (hc1 : c ≤ 255)
    (hS : Hid (∀ w, Win w → Calls Tryd.prog 15 #[.agg #[.int .u8 c, .int .i64 v, .int .i64 n, .int .i64 t], .int .u8 3, .int .i64 d] w fun x w' => x = .returned (.tuple #[.agg #[.int .u8 c, .int .i64 (2 * v + 1), .int .i64 (d % (2 * v + 1 + 1)), .int .i64 (t + 1)], .bool false, .int .i64 0]) ∧ Below w.heap.size w w'))
    (hL : Hid (∀ w, Win w → Calls Tryd.prog 11 #[.int .u8 c, .int .i64 0] w fun x w' => x = .returned (.tuple #[.int .i64 L, .int .i64 0]) ∧ Below w.heap.size w w'))
    (hH : Hid (∀ w, Win w → Calls Tryd.prog 11 #[.int .u8 c, .int .i64 6] w fun x w' => x = .returned (.tuple #[.int .i64 H, .int .i64 0]) ∧ Below w.heap.size w w'))
    (hK : Hid (∀ w, Win w → Calls Tryd.prog 17 #[.agg #[.int .u8 c, .int .i64 (2 * v + 1), .int .i64 (d % (2 * v + 1 + 1)), .int .i64 (t + 1)]] w fun x w' => x = .returned (.int .i64 0) ∧ Below w.heap.size w w'))
    (l0 : 3 ≤ L) (l1 : L ≤ 1023) (h0 : 3 ≤ H) (h1 : H ≤ 1023) (t0 : 0 ≤ t) (t5 : t ≤ 5) (vb0 : 3 ≤ v) (vb : v ≤ 1023) (lv : L ≤ 2 * v + 1) (vh : 2 * v + 1 ≤ H) (hm : 2 * v + 1 < H) (d0 : 0 ≤ d) (d1 : d ≤ 1099511627776) (m0 : 0 ≤ d % (2 * v + 1 + 1)) (m1 : d % (2 * v + 1 + 1) ≤ 2 * v + 1) :
    Calls Tryd.prog 4 #[.agg #[.int .u8 c, .int .i64 v, .int .i64 n, .int .i64 t], .int .u8 3, .int .i64 d] w fun x w' => x = .returned (.bool true) ∧ Below w.heap.size w w' := by
  have hB0 : Below w.heap.size w (w.alloc (.cells #[.int .u8 c, .int .i64 v, .int .i64 n, .int .i64 t] 23)) := (Below.refl _ _).alloc (Nat.le_refl _) _
  have tb0 := Four.new w (.int .u8 c) (.int .i64 (v)) (.int .i64 (n)) (.int .i64 (t)) 23
  have hw0 := hw.alloc (.cells #[.int .u8 c, .int .i64 v, .int .i64 n, .int .i64 t] 23)
  go_enter Tryd.func4, Tryd.ntmps4
  go_wp2_with fail
  refine (alive_any _ hw0).mono ?_
  rintro x w1 ⟨rfl, hb⟩
  have tb1 := Four.later hb tb0
  have hw1 := hw0.later hb
  have hB1 := hB0.trans (hb.mono hB0.size)
  clear hB0 hb tb0 hw0
  obtain ⟨c0, c1, c2, c3, _, _, _, _⟩ := id tb1
  go_wp2_with fail
  refine (hS.out _ hw1).mono ?_
  rintro x w2 ⟨rfl, hb⟩
  have tb2 := Four.later hb tb1
  have hw2 := hw1.later hb
  have hB2 := hB1.trans (hb.mono hB1.size)
  have lt2 := tb2.lt
  clear hB1 hb tb1 hw1 c0 c1 c2 c3 hS
  obtain ⟨c0, c1, c2, c3, _, _, _, _⟩ := id tb2
  go_wp2_with fail
  refine (hL.out _ (hw2.alloc _)).mono ?_
  rintro x w3 ⟨rfl, hb⟩
  have tx3 := Four.later hb (Four.new w2 (.int .u8 c) (.int .i64 (2 * v + 1)) (.int .i64 (d % (2 * v + 1 + 1))) (.int .i64 (t + 1)) 23)
  have tb3 := Four.later hb (tb2.alloc _)
  have hw3 := (hw2.alloc _).later hb
  have hB3 := (hB2.alloc hB2.size _).trans (hb.mono (by have := hB2.size; simp; omega))
  clear hB2 hb tb2 hw2 c0 c1 c2 c3 hL
  obtain ⟨c0, c1, c2, c3, _, _, _, _⟩ := id tb3
  go_wp2_with fail
  refine (hH.out _ hw3).mono ?_
  rintro x w4 ⟨rfl, hb⟩
  have tx4 := Four.later hb tx3
  have tb4 := Four.later hb tb3
  have hw4 := hw3.later hb
  have hB4 := hB3.trans (hb.mono hB3.size)
  clear hB3 hb tb3 tx3 hw3 c0 c1 c2 c3 hH
  obtain ⟨d0, d1, d2, d3, _, _, _, _⟩ := id tx4
  go_wp2_with fail
  refine (hK.out _ hw4).mono ?_
  rintro x w5 ⟨rfl, hb⟩
  have tx5 := Four.later hb tx4
  have tb5 := Four.later hb tb4
  have hB5 := hB4.trans (hb.mono hB4.size)
  clear hB4 hb tb4 tx4 hw4 d0 d1 d2 d3 hK
  obtain ⟨c0, c1, c2, c3, _, _, _, _⟩ := id tb5
  obtain ⟨d0, d1, d2, d3, _, _, _, _⟩ := id tx5
  have t6 : (t == 6) = false := by simp; omega
  go_wp2_with fail
  have pc0 := Past.cell c0
  have pc1 := Past.cell c1
  have pc2 := Past.cell c2
  have pc3 := Past.cell c3
  have pd0 := Past.cell d0
  have pd1 := Past.cell d1
  have pd2 := Past.cell d2
  have pd3 := Past.cell d3
  clear c0 c1 c2 c3 d0 d1 d2 d3
  have i0 := IntWalk.i64_in (2 * v + 1 + 1) (by omega)
  have i1 := IntWalk.i64_in (2 * v) (by omega)
  have i2 := IntWalk.i64_in (2 * v + 1) (by omega)
  have i3 := IntWalk.i64_in (t + 1) (by omega)
  have r1 : d.tmod (2 * v + 1 + 1) = d % (2 * v + 1 + 1) := Int.tmod_eq_emod_of_nonneg d0
  have r2 := IntWalk.i64_in (d % (2 * v + 1 + 1)) (by omega)
  have r3 : (2 * v + 1 + 1 == 0) = false := by simp; omega
  have r4 : 2 * v + 1 + 1 ≠ 0 := by omega
  refine wp_region_quiet (C := fun w' => ∃ v : Past w5, w' = v.w) (by kernel_rfl) (by kernel_rfl) (Past.drew0 _) ?_
  repeat (quiet_step (fail))
  refine wpQuiet_nil ?_
  intro _ hw'
  obtain ⟨v, hw''⟩ := hw'
  subst hw''
  go_wp2_with fail
  go_ret
  exact ⟨rfl, hB5.trans (v.2.mono hB5.size)⟩
set_option maxRecDepth 20000 in
set_option maxHeartbeats 2000000 in
theorem bounds_failB (c v n t d L H : Int)  (w : World) (hw : Win w) (hc0 : 0 ≤ c) (hc1 : c ≤ 255)
    (hS : Hid (∀ w, Win w → Calls Tryd.prog 15 #[.agg #[.int .u8 c, .int .i64 v, .int .i64 n, .int .i64 t], .int .u8 3, .int .i64 d] w fun x w' => x = .returned (.tuple #[.agg #[.int .u8 c, .int .i64 H, .int .i64 (d % (H + 1)), .int .i64 (t + 1)], .bool false, .int .i64 0]) ∧ Below w.heap.size w w'))
    (hL : Hid (∀ w, Win w → Calls Tryd.prog 11 #[.int .u8 c, .int .i64 0] w fun x w' => x = .returned (.tuple #[.int .i64 L, .int .i64 0]) ∧ Below w.heap.size w w'))
    (hH : Hid (∀ w, Win w → Calls Tryd.prog 11 #[.int .u8 c, .int .i64 6] w fun x w' => x = .returned (.tuple #[.int .i64 H, .int .i64 0]) ∧ Below w.heap.size w w'))
    (hK : Hid (∀ w, Win w → Calls Tryd.prog 17 #[.agg #[.int .u8 c, .int .i64 H, .int .i64 (d % (H + 1)), .int .i64 (t + 1)]] w fun x w' => x = .returned (.int .i64 0) ∧ Below w.heap.size w w'))
    (l0 : 3 ≤ L) (l1 : L ≤ 1023) (h0 : 3 ≤ H) (h1 : H ≤ 1023) (t0 : 0 ≤ t) (t5 : t ≤ 5) (vb0 : 3 ≤ v) (vb : v ≤ 1023) (lv : L ≤ H) (vh : H ≤ H) (hm : ¬ 2 * v + 1 < H) (d0 : 0 ≤ d) (d1 : d ≤ 1099511627776) (m0 : 0 ≤ d % (H + 1)) (m1 : d % (H + 1) ≤ H) :
    Calls Tryd.prog 4 #[.agg #[.int .u8 c, .int .i64 v, .int .i64 n, .int .i64 t], .int .u8 3, .int .i64 d] w fun x w' => x = .returned (.bool true) ∧ Below w.heap.size w w' := by
  have hB0 : Below w.heap.size w (w.alloc (.cells #[.int .u8 c, .int .i64 v, .int .i64 n, .int .i64 t] 23)) := (Below.refl _ _).alloc (Nat.le_refl _) _
  have tb0 := Four.new w (.int .u8 c) (.int .i64 (v)) (.int .i64 (n)) (.int .i64 (t)) 23
  have hw0 := hw.alloc (.cells #[.int .u8 c, .int .i64 v, .int .i64 n, .int .i64 t] 23)
  go_enter Tryd.func4, Tryd.ntmps4
  go_wp2_with fail
  refine (alive_any _ hw0).mono ?_
  rintro x w1 ⟨rfl, hb⟩
  have tb1 := Four.later hb tb0
  have hw1 := hw0.later hb
  have hB1 := hB0.trans (hb.mono hB0.size)
  clear hB0 hb tb0 hw0
  obtain ⟨c0, c1, c2, c3, _, _, _, _⟩ := id tb1
  go_wp2_with fail
  refine (hS.out _ hw1).mono ?_
  rintro x w2 ⟨rfl, hb⟩
  have tb2 := Four.later hb tb1
  have hw2 := hw1.later hb
  have hB2 := hB1.trans (hb.mono hB1.size)
  have lt2 := tb2.lt
  clear hB1 hb tb1 hw1 c0 c1 c2 c3 hS
  obtain ⟨c0, c1, c2, c3, _, _, _, _⟩ := id tb2
  go_wp2_with fail
  refine (hL.out _ (hw2.alloc _)).mono ?_
  rintro x w3 ⟨rfl, hb⟩
  have tx3 := Four.later hb (Four.new w2 (.int .u8 c) (.int .i64 (H)) (.int .i64 (d % (H + 1))) (.int .i64 (t + 1)) 23)
  have tb3 := Four.later hb (tb2.alloc _)
  have hw3 := (hw2.alloc _).later hb
  have hB3 := (hB2.alloc hB2.size _).trans (hb.mono (by have := hB2.size; simp; omega))
  clear hB2 hb tb2 hw2 c0 c1 c2 c3 hL
  obtain ⟨c0, c1, c2, c3, _, _, _, _⟩ := id tb3
  go_wp2_with fail
  refine (hH.out _ hw3).mono ?_
  rintro x w4 ⟨rfl, hb⟩
  have tx4 := Four.later hb tx3
  have tb4 := Four.later hb tb3
  have hw4 := hw3.later hb
  have hB4 := hB3.trans (hb.mono hB3.size)
  clear hB3 hb tb3 tx3 hw3 c0 c1 c2 c3 hH
  obtain ⟨d0, d1, d2, d3, _, _, _, _⟩ := id tx4
  go_wp2_with fail
  refine (hK.out _ hw4).mono ?_
  rintro x w5 ⟨rfl, hb⟩
  have tx5 := Four.later hb tx4
  have tb5 := Four.later hb tb4
  have hB5 := hB4.trans (hb.mono hB4.size)
  clear hB4 hb tb4 tx4 hw4 d0 d1 d2 d3 hK
  obtain ⟨c0, c1, c2, c3, _, _, _, _⟩ := id tb5
  obtain ⟨d0, d1, d2, d3, _, _, _, _⟩ := id tx5
  have t6 : (t == 6) = false := by simp; omega
  go_wp2_with fail
  have pc0 := Past.cell c0
  have pc1 := Past.cell c1
  have pc2 := Past.cell c2
  have pc3 := Past.cell c3
  have pd0 := Past.cell d0
  have pd1 := Past.cell d1
  have pd2 := Past.cell d2
  have pd3 := Past.cell d3
  clear c0 c1 c2 c3 d0 d1 d2 d3
  have i0 := IntWalk.i64_in (H + 1) (by omega)
  have i1 := IntWalk.i64_in (2 * v) (by omega)
  have i2 := IntWalk.i64_in (2 * v + 1) (by omega)
  have i3 := IntWalk.i64_in (t + 1) (by omega)
  have r1 : d.tmod (H + 1) = d % (H + 1) := Int.tmod_eq_emod_of_nonneg d0
  have r2 := IntWalk.i64_in (d % (H + 1)) (by omega)
  have r3 : (H + 1 == 0) = false := by simp; omega
  have r4 : H + 1 ≠ 0 := by omega
  have m3 : (if 2 * v + 1 < H then 2 * v + 1 else H) = H := by rw [if_neg (by omega)]
  have m4 : (H == if 2 * v + 1 < H then 2 * v + 1 else H) = true := by rw [m3]; simp
  clear hm
  refine wp_region_quiet (C := fun w' => ∃ v : Past w5, w' = v.w) (by kernel_rfl) (by kernel_rfl) (Past.drew0 _) ?_
  repeat (quiet_step (fail))
  refine wpQuiet_nil ?_
  intro _ hw'
  obtain ⟨v, hw''⟩ := hw'
  subst hw''
  go_wp2_with fail
  go_ret
  exact ⟨rfl, hB5.trans (v.2.mono hB5.size)⟩
end Go.Proofs.YtdikdhjfcnocdaaDoor
