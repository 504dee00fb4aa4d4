/- The chapter's examples (alive): it returns true in every world in which the table of windows reads as the program lays it. -/
import Derived.Test.YtdikdhjfcnocdaaDoorG
namespace Go.Proofs.YtdikdhjfcnocdaaDoor
open Go.RowKit
set_option linter.unusedVariables false
theorem ex_ok (c n : Int) (h : c ≤ 3) (h0 : 0 ≤ n) (h6 : n ≤ 6) : wnde c n = 0 := by simp [wnde, wndOk, h, h0, h6]
theorem ex_new : Nc 2 13 = 2 ∧ Nw 2 13 = 7 ∧ Nn 2 13 = 5 ∧ Nerr 2 13 = 0 := by decide
/-- two blocks hold the examples' windows -/
def Ex (w : World) (k : Nat) : Prop := ∀ n : Nat, n < 7 → w.cell? ⟨k, n, none⟩ = some (.int .i64 (wnd 1 n)) ∧ w.cell? ⟨k + 1, n, none⟩ = some (.int .i64 (wnd 3 n))
theorem Ex.later {W W' : World} {k : Nat} (hb : Below W.heap.size W W') (h : Ex W k) : Ex W' k := fun n hn => ⟨Go.Proofs.YtdikdhjfcnocdaaDoor.later hb (h n hn).1, Go.Proofs.YtdikdhjfcnocdaaDoor.later hb (h n hn).2⟩
theorem Ex.new (w : World) : Ex ((w.alloc (.cells #[.int .i64 15, .int .i64 31, .int .i64 63, .int .i64 127, .int .i64 255, .int .i64 511, .int .i64 1023] 3)).alloc (.cells #[.int .i64 3, .int .i64 7, .int .i64 7, .int .i64 7, .int .i64 7, .int .i64 7, .int .i64 7] 3)) w.heap.size := by
  intro n hn
  have : n = 0 ∨ n = 1 ∨ n = 2 ∨ n = 3 ∨ n = 4 ∨ n = 5 ∨ n = 6 := by omega
  rcases this with rfl | rfl | rfl | rfl | rfl | rfl | rfl
  all_goals
    constructor
    · simp [go_sem]; decide
    · simp [go_sem]; decide
set_option maxHeartbeats 2000000 in
theorem alive_any (w : World) (hw : Win w) :
    Calls Tryd.prog 19 #[] w fun e w' => e = .returned (.bool true) ∧ Below w.heap.size w w' := by
  have hx := Ex.new w
  have hB0 : Below w.heap.size w ((w.alloc (.cells #[.int .i64 15, .int .i64 31, .int .i64 63, .int .i64 127, .int .i64 255, .int .i64 511, .int .i64 1023] 3)).alloc (.cells #[.int .i64 3, .int .i64 7, .int .i64 7, .int .i64 7, .int .i64 7, .int .i64 7, .int .i64 7] 3)) := ((Below.refl _ _).alloc (Nat.le_refl _) _).alloc (by simp) _
  have hw0 := (hw.alloc (.cells #[.int .i64 15, .int .i64 31, .int .i64 63, .int .i64 127, .int .i64 255, .int .i64 511, .int .i64 1023] 3)).alloc (.cells #[.int .i64 3, .int .i64 7, .int .i64 7, .int .i64 7, .int .i64 7, .int .i64 7, .int .i64 7] 3)
  go_enter Tryd.func19, Tryd.ntmps19
  go_wp2_with fail
  go_loopw [3] (fun i wr => ∃ k : Nat, k ≤ 7 ∧ i = .int .i64 k ∧ Hid (Ex wr w.heap.size) ∧ Win wr ∧ Below w.heap.size w wr) (fun i _ => (7 - intOf i).toNat)
  case atStart => exact ⟨0, by omega, rfl, hx, hw0, hB0⟩
  case round =>
    clear hx hB0 hw0
    obtain ⟨k, hk, rfl, hx, hwr, hB⟩ := hrel
    by_cases hlt : k < 7
    · have hW1 := Window_any 1 k wr hwr (by omega) (by omega)
      rw [ex_ok 1 k (by omega) (by omega) (by omega)] at hW1
      have HW1 := Lib.hid hW1
      clear hW1
      go_wp2_with fail
      refine HW1.out.mono ?_
      clear HW1
      rintro x w1 ⟨rfl, hb⟩
      have hx1 := Lib.hid (hx.out.later hb)
      have hw1 := hwr.later hb
      have hB1 := hB.trans (hb.mono hB.size)
      clear hB hb hx hwr
      go_wp2_with fail
      have hW1 := Window_any 3 k w1 hw1 (by omega) (by omega)
      rw [ex_ok 3 k (by omega) (by omega) (by omega)] at hW1
      refine hW1.mono ?_
      clear hW1
      rintro x w2 ⟨rfl, hb⟩
      have hx2 := Lib.hid (hx1.out.later hb)
      have hw2 := hw1.later hb
      have hB2 := hB1.trans (hb.mono hB1.size)
      obtain ⟨p1, p2⟩ := hx2.out k hlt
      clear hB1 hb hx1 hw1
      go_wp2_with fail
      go_roundw
      case rel => exact ⟨k + 1, by omega, by go_num, hx2, hw2, hB2⟩
      case measure => simp [intOf]; omega
    · have hk7 : k = 7 := by omega
      subst hk7
      go_wp2_with fail
      obtain ⟨n1, n2, n3, n4⟩ := ex_new
      have hW1 := New_any 2 13 wr hwr (by omega) (by omega)
      rw [n1, n2, n3, n4] at hW1
      refine hW1.mono ?_
      clear hW1 n1 n2 n3 n4
      rintro x w1 ⟨rfl, hb⟩
      have hB1 := hB.trans (hb.mono hB.size)
      clear hB hb
      go_wp2_with fail
      go_ret
      exact ⟨rfl, hB1.alloc hB1.size _⟩
end Go.Proofs.YtdikdhjfcnocdaaDoor
