/- The walk of BackoffBounds: it returns true for every input (the table of windows reads as the program lays it). -/
import Derived.Test.YtdikdhjfcnocdaaDoorI
import Derived.Test.YtdikdhjfcnocdaaDoorJ
namespace Go.Proofs.YtdikdhjfcnocdaaDoor
open Go.RowKit
set_option linter.unusedVariables false
theorem aft_up (c f : Int) (h0 : 0 ≤ f) (h : f ≤ 6) : aft c 0 ≤ aft c f ∧ aft c f ≤ aft c 6 := by
  have : f = 0 ∨ f = 1 ∨ f = 2 ∨ f = 3 ∨ f = 4 ∨ f = 5 ∨ f = 6 := by omega
  unfold aft wlo whi
  rcases this with rfl | rfl | rfl | rfl | rfl | rfl | rfl <;> simp <;> split <;> (try split) <;> omega
theorem aft_next (c f : Int) (h0 : 0 ≤ f) (h : f ≤ 5) : aft c (f + 1) = min (aft c 6) (2 * aft c f + 1) := by
  have : f = 0 ∨ f = 1 ∨ f = 2 ∨ f = 3 ∨ f = 4 ∨ f = 5 := by omega
  unfold aft wlo whi
  rcases this with rfl | rfl | rfl | rfl | rfl | rfl <;> simp <;> split <;> (try split) <;> omega
set_option maxRecDepth 20000 in
set_option maxHeartbeats 2000000 in
theorem bounds_err (c v n t e d : Int) (w : World) (hw : Win w) (hc0 : 0 ≤ c) (hc1 : c ≤ 255) (x : Int)
    (hS : Hid (∀ w, Win w → Calls Tryd.prog 15 #[.agg #[.int .u8 c, .int .i64 v, .int .i64 n, .int .i64 t], .int .u8 e, .int .i64 d] w fun y w' => y = .returned (.tuple #[.agg #[.int .u8 0, .int .i64 0, .int .i64 0, .int .i64 0], .bool false, .int .i64 x]) ∧ Below w.heap.size w w'))
    (hx : (x != 0) = true) :
    Calls Tryd.prog 4 #[.agg #[.int .u8 c, .int .i64 v, .int .i64 n, .int .i64 t], .int .u8 e, .int .i64 d] w fun x w' => x = .returned (.bool true) ∧ Below w.heap.size w w' := by
  have hB0 : Below w.heap.size w (w.alloc (.cells #[.int .u8 c, .int .i64 v, .int .i64 n, .int .i64 t] 23)) := (Below.refl _ _).alloc (Nat.le_refl _) _
  have tb0 := Four.new w (.int .u8 c) (.int .i64 v) (.int .i64 n) (.int .i64 t) 23
  have hw0 := hw.alloc (.cells #[.int .u8 c, .int .i64 v, .int .i64 n, .int .i64 t] 23)
  go_enter Tryd.func4, Tryd.ntmps4
  go_wp2_with fail
  refine (alive_any _ hw0).mono ?_
  rintro x w1 ⟨rfl, hb⟩
  have tb1 := Four.later hb tb0
  have hw1 := hw0.later hb
  have hB1 := hB0.trans (hb.mono hB0.size)
  clear hB0 hb tb0 hw0
  obtain ⟨c0, c1, c2, c3, _, _, _, _⟩ := id tb1
  go_wp2_with fail
  refine (hS.out _ hw1).mono ?_
  rintro x w2 ⟨rfl, hb⟩
  have hB2 := hB1.trans (hb.mono hB1.size)
  clear hB1 hb tb1 hw1 c0 c1 c2 c3 hS
  go_wp2_with fail
  go_ret
  exact ⟨rfl, hB2.alloc hB2.size _⟩
theorem law_bounds (c v n t e d : Int) (w : World) (hw : Win w) (hc0 : 0 ≤ c) (hc1 : c ≤ 255) (he0 : 0 ≤ e) (he1 : e ≤ 255) :
    Calls Tryd.prog 4 #[.agg #[.int .u8 c, .int .i64 v, .int .i64 n, .int .i64 t], .int .u8 e, .int .i64 d] w fun x w' => x = .returned (.bool true) ∧ Below w.heap.size w w' := by
  have hS := fun w hw => Step_any c v n t e d w hw hc0 hc1 he0 he1
  by_cases h0 : serr c v n t e d = 0
  · obtain ⟨e1, e2, e3, e4, e5⟩ := s_ok h0
    rw [e1, e2, e3, e4, e5, h0] at hS
    have hbk : bOk c v n t = true := by
      cases h : bOk c v n t
      · simp [serr, h] at h0
      · rfl
    obtain ⟨k1, k2, k3, k4, k5, k6⟩ := bOk_true hbk
    have hd : (decide (e ≤ 3) && drw d) = true := by
      cases h : (decide (e ≤ 3) && drw d)
      · simp [serr, hbk, h] at h0
      · rfl
    have he3 : e ≤ 3 := by simp at hd; exact hd.1
    obtain ⟨d0, d1⟩ := drw_true (d := d) (by simp at hd; exact hd.2)
    have hn : ¬ (2 ≤ e ∧ 0 < n) := by
      intro h
      simp [serr, hbk, hd, h] at h0
    obtain ⟨l0, l1⟩ := aft_bd c 0 (by omega) (by omega)
    obtain ⟨g0, g1⟩ := aft_bd c 6 (by omega) (by omega)
    obtain ⟨a0, a1⟩ := aft_bd c t k2 k3
    obtain ⟨u1, u2⟩ := aft_up c t k2 k3
    have hL := fun w hw => Window_any c 0 w hw hc0 hc1
    have hH := fun w hw => Window_any c 6 w hw hc0 hc1
    rw [show wnd c 0 = aft c 0 by simp [wnd, wndOk, k1], show wnde c 0 = 0 by simp [wnde, wndOk, k1]] at hL
    rw [show wnd c 6 = aft c 6 by simp [wnd, wndOk, k1], show wnde c 6 = 0 by simp [wnde, wndOk, k1]] at hH
    have ck : ∀ V N T : Int, 0 ≤ T → T ≤ 6 → V = aft c T → 0 ≤ N → N ≤ V → Hid (∀ w, Win w → Calls Tryd.prog 17 #[.agg #[.int .u8 c, .int .i64 V, .int .i64 N, .int .i64 T]] w fun x w' => x = .returned (.int .i64 0) ∧ Below w.heap.size w w') := by
      intro V N T q1 q2 q3 q4 q5 w hw
      have := Check_any c V N T w hw hc0 hc1
      rwa [show bke c V N T = 0 by subst q3; simp [bke, bOk, wndOk, *]] at this
    rcases (show e = 0 ∨ e = 1 ∨ e = 2 ∨ (e = 3 ∧ t = 6) ∨ (e = 3 ∧ t ≤ 5) by omega) with rfl | rfl | rfl | ⟨rfl, rfl⟩ | ⟨rfl, h5⟩
    · rw [show nv c v 0 t = v from rfl, show nt 0 t = t from rfl, show ng 0 t = false from rfl] at hS
      by_cases hp : 0 < n
      · rw [show nn c n 0 t d = n - 1 by simp [nn]; omega] at hS
        exact bounds_count c v n t d _ _ w hw hc0 hc1 hS hL hH (ck _ _ _ k2 k3 k4 (by omega) (by omega)) l0 l1 g0 g1 (by omega) (by omega) hp (by omega)
      · obtain rfl : n = 0 := by omega
        rw [show nn c 0 0 t d = 0 from rfl] at hS
        exact bounds_idle c v t d _ _ w hw hc0 hc1 hS hL hH (ck _ _ _ k2 k3 k4 (by omega) (by omega)) l0 l1 g0 g1 (by omega) (by omega)
    · rw [show nv c v 1 t = v from rfl, show nt 1 t = t from rfl, show ng 1 t = false from rfl, show nn c n 1 t d = n from rfl] at hS
      exact bounds_busy c v n t d _ _ w hw hc0 hc1 hS hL hH (ck _ _ _ k2 k3 k4 (by omega) (by omega)) l0 l1 g0 g1 (by omega) (by omega) k5 (by omega)
    · have m0 := Int.emod_nonneg d (show aft c 0 + 1 ≠ 0 by omega)
      have m1 := Int.emod_lt_of_pos d (show 0 < aft c 0 + 1 by omega)
      rw [show nv c v 2 t = aft c 0 from rfl, show nt 2 t = 0 from rfl, show ng 2 t = false from rfl, show nn c n 2 t d = d % (aft c 0 + 1) from rfl] at hS
      exact bounds_succ c v n t d _ _ w hw hc0 hc1 hS hL hH (ck _ _ _ (by omega) (by omega) rfl m0 (by omega)) l0 l1 g0 g1 (by omega) d0 d1 m0 (by omega)
    · have m0 := Int.emod_nonneg d (show aft c 0 + 1 ≠ 0 by omega)
      have m1 := Int.emod_lt_of_pos d (show 0 < aft c 0 + 1 by omega)
      rw [show nv c v 3 6 = aft c 0 from rfl, show nt 3 6 = 0 from rfl, show ng 3 6 = true from rfl, show nn c n 3 6 d = d % (aft c 0 + 1) from rfl] at hS
      exact bounds_drop c v n d _ _ w hw hc0 hc1 hS hL hH (ck _ _ _ (by omega) (by omega) rfl m0 (by omega)) l0 l1 g0 g1 (by omega) d0 d1 m0 (by omega)
    · have ht : nt 3 t = t + 1 := by simp [nt]; omega
      have hv : nv c v 3 t = aft c (t + 1) := by simp [nv, ht]
      have hg : ng 3 t = false := by simp [ng]; omega
      have hc : nn c n 3 t d = d % (aft c (t + 1) + 1) := by simp [nn, ht, cnt]
      obtain ⟨b0, b1⟩ := aft_bd c (t + 1) (by omega) (by omega)
      obtain ⟨y1, y2⟩ := aft_up c (t + 1) (by omega) (by omega)
      have m0 := Int.emod_nonneg d (show aft c (t + 1) + 1 ≠ 0 by omega)
      have m1 := Int.emod_lt_of_pos d (show 0 < aft c (t + 1) + 1 by omega)
      have nx := aft_next c t k2 h5
      rw [hv, ht, hg, hc] at hS
      have hK := ck (aft c (t + 1)) (d % (aft c (t + 1) + 1)) (t + 1) (by omega) (by omega) rfl m0 (by omega)
      rw [← k4] at nx
      by_cases hm : 2 * v + 1 < aft c 6
      · have q : aft c (t + 1) = 2 * v + 1 := by omega
        rw [q] at hS hK b0 b1 y1 y2 m0 m1
        exact bounds_failA c v n t d _ _ w hw hc0 hc1 hS hL hH hK l0 l1 g0 g1 k2 h5 (by omega) (by omega) y1 y2 hm d0 d1 m0 (by omega)
      · have q : aft c (t + 1) = aft c 6 := by omega
        rw [q] at hS hK b0 b1 y1 y2 m0 m1
        exact bounds_failB c v n t d _ _ w hw hc0 hc1 hS hL hH hK l0 l1 g0 g1 k2 h5 (by omega) (by omega) y1 y2 hm d0 d1 m0 (by omega)
  · obtain ⟨e1, e2, e3, e4, e5⟩ := s_bad h0
    rw [e1, e2, e3, e4, e5] at hS
    exact bounds_err c v n t e d w hw hc0 hc1 _ hS (by simp [h0])
end Go.Proofs.YtdikdhjfcnocdaaDoor
