/- The walk of BackoffTells: it returns true for every input (the table of windows reads as the program lays it). -/
import Derived.Test.YtdikdhjfcnocdaaDoorE
namespace Go.Proofs.YtdikdhjfcnocdaaDoor
open Go.RowKit
set_option linter.unusedVariables false
theorem Four.new (w : World) (a b c d : Value) (T : TypeId) : Four (w.alloc (.cells #[a, b, c, d] T)) w.heap.size a b c d := by simp [Four, go_sem]
theorem Past.callI {P : Program} {f : FuncId} {args : Array Value} {u : Value} {W : World} (h : ∀ w, Below W.heap.size W w → Calls P f args w fun e w' => e = .returned u ∧ Below w.heap.size w w') (v : Past W) :
    Calls P f args v.w fun e w'' => e = .returned u ∧ ∃ v' : Past W, w'' = v'.w :=
  (h v.w v.2).mono fun _ w' ⟨he, hb⟩ => ⟨he, ⟨⟨w', v.2.trans (hb.mono v.2.size)⟩, rfl⟩⟩
set_option maxHeartbeats 2000000 in
theorem law_tells (c v n t k f e d : Int) (w : World) (hw : Win w) (hc0 : 0 ≤ c) (hc1 : c ≤ 255) (hk0 : 0 ≤ k) (hk1 : k ≤ 255) (he0 : 0 ≤ e) (he1 : e ≤ 255) :
    Calls Tryd.prog 3 #[.agg #[.int .u8 c, .int .i64 v, .int .i64 n, .int .i64 t], .int .u8 k, .int .i64 f, .int .u8 e, .int .i64 d] w fun x w' => x = .returned (.bool true) ∧ Below w.heap.size w w' := by
  have hB0 : Below w.heap.size w (w.alloc (.cells #[.int .u8 c, .int .i64 v, .int .i64 n, .int .i64 t] 23)) := (Below.refl _ _).alloc (Nat.le_refl _) _
  have tb0 := Four.new w (.int .u8 c) (.int .i64 v) (.int .i64 n) (.int .i64 t) 23
  have hw0 := hw.alloc (.cells #[.int .u8 c, .int .i64 v, .int .i64 n, .int .i64 t] 23)
  go_enter Tryd.func3, Tryd.ntmps3
  go_wp2_with fail
  refine (Window_any _ _ _ hw0 hk0 hk1).mono ?_
  rintro x w1 ⟨rfl, hb⟩
  have tb1 := Four.later hb tb0
  have hw1 := hw0.later hb
  have hB1 := hB0.trans (hb.mono hB0.size)
  clear hB0 hb tb0 hw0
  go_wp2_with fail
  refine (rWindow_any _ _ _ hk0 hk1).mono ?_
  rintro x w2 ⟨rfl, hb⟩
  have tb2 := Four.later hb tb1
  have hw2 := hw1.later hb
  have hB2 := hB1.trans (hb.mono hB1.size)
  clear hB1 hb tb1 hw1
  go_wp2_with fail
  refine (New_any _ _ _ hw2 hk0 hk1).mono ?_
  rintro x w3 ⟨rfl, hb⟩
  have tb3 := Four.later hb tb2
  have hw3 := hw2.later hb
  have hB3 := hB2.trans (hb.mono hB2.size)
  clear hB2 hb tb2 hw2
  go_wp2_with fail
  refine (rNew_any _ _ _ hk0 hk1).mono ?_
  rintro x w4 ⟨rfl, hb⟩
  have tn4 := Four.later hb (Four.new w3 (.int .u8 (Nc k d)) (.int .i64 (Nw k d)) (.int .i64 (Nn k d)) (.int .i64 0) 23)
  have tb4 := Four.later hb (tb3.alloc _)
  have hw4 := (hw3.alloc _).later hb
  have hB4 := (hB3.alloc hB3.size _).trans (hb.mono (by have := hB3.size; simp; omega))
  clear hB3 hb tb3 hw3
  have lt4 := tb4.lt
  obtain ⟨c0, c1, c2, c3, _, _, _, _⟩ := id tb4
  go_wp2_with fail
  refine (Step_any _ _ _ _ _ _ _ (hw4.alloc _) hc0 hc1 he0 he1).mono ?_
  rintro x w5 ⟨rfl, hb⟩
  have tm5 := Four.later hb (Four.new w4 (.int .u8 (Nc k d)) (.int .i64 (Nw k d)) (.int .i64 (Nn k d)) (.int .i64 0) 23)
  have tn5 := Four.later hb (tn4.alloc _)
  have tb5 := Four.later hb (tb4.alloc _)
  have hw5 := (hw4.alloc _).later hb
  have hB5 := (hB4.alloc hB4.size _).trans (hb.mono (by have := hB4.size; simp; omega))
  clear hB4 hb tb4 tn4 hw4 c0 c1 c2 c3 lt4
  have lt5 := tb5.lt
  obtain ⟨c0, c1, c2, c3, _, _, _, _⟩ := id tb5
  go_wp2_with fail
  refine (rStep_any _ _ _ _ _ _ _ hc0 hc1 he0 he1).mono ?_
  rintro x w6 ⟨rfl, hb⟩
  have tp6 := Four.later hb (Four.new w5 (.int .u8 (sc c v n t e d)) (.int .i64 (sv c v n t e d)) (.int .i64 (sn c v n t e d)) (.int .i64 (st c v n t e d)) 23)
  have tm6 := Four.later hb (tm5.alloc _)
  have tn6 := Four.later hb (tn5.alloc _)
  have tb6 := Four.later hb (tb5.alloc _)
  have hw6 := (hw5.alloc _).later hb
  have hB6 := (hB5.alloc hB5.size _).trans (hb.mono (by have := hB5.size; simp; omega))
  clear hB5 hb tb5 tm5 tn5 hw5 c0 c1 c2 c3 lt5
  go_wp2_with fail
  obtain ⟨W, hW⟩ : ∃ W, W = w6.alloc (.cells #[.int .u8 (sc c v n t e d), .int .i64 (sv c v n t e d), .int .i64 (sn c v n t e d), .int .i64 (st c v n t e d)] 23) := ⟨_, rfl⟩
  have hwW : Win W := by rw [hW]; exact hw6.alloc _
  have hBW : Below w.heap.size w W := by rw [hW]; exact hB6.alloc hB6.size _
  obtain ⟨c0, c1, c2, c3, _, _, _, _⟩ := (by rw [hW]; exact tb6.alloc _ : Four W w.heap.size (.int .u8 c) (.int .i64 v) (.int .i64 n) (.int .i64 t))
  obtain ⟨d0, d1, d2, d3, _, _, _, _⟩ := (by rw [hW]; exact tn6.alloc _ : Four W w3.heap.size (.int .u8 (Nc k d)) (.int .i64 (Nw k d)) (.int .i64 (Nn k d)) (.int .i64 0))
  obtain ⟨e0, e1, e2, e3, _, _, _, _⟩ := (by rw [hW]; exact tm6.alloc _ : Four W w4.heap.size (.int .u8 (Nc k d)) (.int .i64 (Nw k d)) (.int .i64 (Nn k d)) (.int .i64 0))
  obtain ⟨i0, i1, i2, i3, _, _, _, _⟩ := (by rw [hW]; exact tp6.alloc _ : Four W w5.heap.size (.int .u8 (sc c v n t e d)) (.int .i64 (sv c v n t e d)) (.int .i64 (sn c v n t e d)) (.int .i64 (st c v n t e d)))
  obtain ⟨j0, j1, j2, j3, _, _, _, _⟩ := (by rw [hW]; exact Four.new _ _ _ _ _ _ : Four W w6.heap.size (.int .u8 (sc c v n t e d)) (.int .i64 (sv c v n t e d)) (.int .i64 (sn c v n t e d)) (.int .i64 (st c v n t e d)))
  rw [← hW]
  clear hW hB6 hw6 tb6 tn6 tm6 tp6
  have pc0 := Past.cell c0
  have pc1 := Past.cell c1
  have pc2 := Past.cell c2
  have pc3 := Past.cell c3
  have pd0 := Past.cell d0
  have pd1 := Past.cell d1
  have pd2 := Past.cell d2
  have pd3 := Past.cell d3
  have pe0 := Past.cell e0
  have pe1 := Past.cell e1
  have pe2 := Past.cell e2
  have pe3 := Past.cell e3
  have pi0 := Past.cell i0
  have pi1 := Past.cell i1
  have pi2 := Past.cell i2
  have pi3 := Past.cell i3
  have pj0 := Past.cell j0
  have pj1 := Past.cell j1
  have pj2 := Past.cell j2
  have pj3 := Past.cell j3
  clear c0 c1 c2 c3 d0 d1 d2 d3 e0 e1 e2 e3 i0 i1 i2 i3 j0 j1 j2 j3
  refine wp_region_quiet (C := fun w' => ∃ v : Past W, w' = v.w) (by kernel_rfl) (by kernel_rfl) (Past.drew0 _) ?_
  repeat (quiet_step ((first | (go_at_call 17; exact Past.callI (fun w hb => Check_any _ _ _ _ w (hwW.later hb) hc0 hc1) _) | (go_at_call 18; exact Past.call (fun w => rCheck_any _ _ _ _ w hc0 hc1) _))))
  refine wpQuiet_nil ?_
  intro _ hw'
  obtain ⟨v, hw''⟩ := hw'
  subst hw''
  go_wp2_with fail
  go_ret
  exact ⟨rfl, hBW.trans (v.2.mono hBW.size)⟩
end Go.Proofs.YtdikdhjfcnocdaaDoor
