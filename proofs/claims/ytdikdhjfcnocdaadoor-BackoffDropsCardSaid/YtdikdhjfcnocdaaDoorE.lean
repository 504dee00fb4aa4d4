/- Contracts of Step and its reference. Each holds for every input. -/
import Derived.Test.YtdikdhjfcnocdaaDoorD
namespace Go.Proofs.YtdikdhjfcnocdaaDoor
open Go.RowKit
set_option linter.unusedVariables false
/-- what Step answers -/
def serr (c v n t e d : Int) : Int := if bOk c v n t then (if decide (e ≤ 3) && drw d then (if decide (2 ≤ e) && decide (0 < n) then 20 else 0) else 2) else 8
def sc (c v n t e d : Int) : Int := if serr c v n t e d = 0 then c else 0
def sv (c v n t e d : Int) : Int := if serr c v n t e d = 0 then nv c v e t else 0
def sn (c v n t e d : Int) : Int := if serr c v n t e d = 0 then nn c n e t d else 0
def st (c v n t e d : Int) : Int := if serr c v n t e d = 0 then nt e t else 0
def sg (c v n t e d : Int) : Bool := decide (serr c v n t e d = 0) && ng e t
theorem s_ok {c v n t e d : Int} (h : serr c v n t e d = 0) : sc c v n t e d = c ∧ sv c v n t e d = nv c v e t ∧ sn c v n t e d = nn c n e t d ∧ st c v n t e d = nt e t ∧ sg c v n t e d = ng e t := by
  simp [sc, sv, sn, st, sg, h]
theorem s_bad {c v n t e d : Int} (h : serr c v n t e d ≠ 0) : sc c v n t e d = 0 ∧ sv c v n t e d = 0 ∧ sn c v n t e d = 0 ∧ st c v n t e d = 0 ∧ sg c v n t e d = false := by
  simp [sc, sv, sn, st, sg, h]
theorem Four.alloc {w : World} {k : Nat} {x y z u : Value} (h : Four w k x y z u) (o : Obj) : Four (w.alloc o) k x y z u := h.later ((Below.refl _ _).alloc (Nat.le_refl _) _)
theorem Four.set4 {w : World} {k : Nat} {x y z u : Value} (h : Four w k x y z u) (a b c d : Value) : Four ((((w.setCell ⟨k, 0, none⟩ a).setCell ⟨k, 1, none⟩ b).setCell ⟨k, 2, none⟩ c).setCell ⟨k, 3, none⟩ d) k a b c d := by
  obtain ⟨h1, h2, h3, h4, h5, h6, h7, h8⟩ := h
  simp [Four, go_sem, *]
theorem Four.far {w : World} {k j o : Nat} {x y z u : Value} (h : Four w k x y z u) (hj : k ≠ j) (v : Value) : Four (w.setCell ⟨j, o, none⟩ v) k x y z u := by
  obtain ⟨h1, h2, h3, h4, h5, h6, h7, h8⟩ := h
  simp [Four, go_sem, *]
theorem bset4 {B k : Nat} {a w : World} (h : Below B a w) (hk : B ≤ k) {x y z u : Value} : Below B a ((((w.setCell ⟨k, 0, none⟩ x).setCell ⟨k, 1, none⟩ y).setCell ⟨k, 2, none⟩ z).setCell ⟨k, 3, none⟩ u) :=
  (((h.setCell (p := ⟨k, 0, none⟩) hk _).setCell (p := ⟨k, 1, none⟩) hk _).setCell (p := ⟨k, 2, none⟩) hk _).setCell (p := ⟨k, 3, none⟩) hk _
theorem res_Step {tmps : Array Value} {w : World} {k : Nat} {x y z u g e : Value} (h : Four w k x y z u) (h6 : tmps[6]?.getD undef = .pointer (some ⟨k, 0, none⟩)) (h7 : tmps[7]?.getD undef = g) (h8 : tmps[8]?.getD undef = e) :
    (results Tryd.f15 tmps).run Tryd.prog w = .ok (.tuple #[.agg #[x, y, z, u], g, e]) w := by
  obtain ⟨h1, h2, h3, h4, _, _, _, _⟩ := h
  simp [results, Tryd.results15, go_sem, *]
theorem res_rStep {tmps : Array Value} {w : World} {k : Nat} {x y z u g e : Value} (h : Four w k x y z u) (h6 : tmps[6]?.getD undef = .pointer (some ⟨k, 0, none⟩)) (h7 : tmps[7]?.getD undef = g) (h8 : tmps[8]?.getD undef = e) :
    (results Tryd.f16 tmps).run Tryd.prog w = .ok (.tuple #[.agg #[x, y, z, u], g, e]) w := by
  obtain ⟨h1, h2, h3, h4, _, _, _, _⟩ := h
  simp [results, Tryd.results16, go_sem, *]
theorem step_any (c v n t e d : Int) (w : World) (hw : Win w) (hc0 : 0 ≤ c) (hc : c ≤ 3) (h0 : 0 ≤ t) (h : t ≤ 6) (hd0 : 0 ≤ d) (hd : d ≤ 1099511627776) (hn0 : 0 ≤ n) (hn : n ≤ 1023) (he0 : 0 ≤ e) (he : e ≤ 3) :
    Calls Tryd.prog 29 #[.agg #[.int .u8 c, .int .i64 v, .int .i64 n, .int .i64 t], .int .u8 e, .int .i64 d] w fun x w' => x = .returned (.tuple #[.agg #[.int .u8 c, .int .i64 (nv c v e t), .int .i64 (nn c n e t d), .int .i64 (nt e t)], .bool (ng e t)]) ∧ Below w.heap.size w w' := by
  rcases (show e = 0 ∨ e = 1 ∨ e = 2 ∨ e = 3 by omega) with rfl | rfl | rfl | rfl
  · exact step_0 c v n t d w hw hc0 hc h0 h hd0 hd hn0 hn
  · exact step_1 c v n t d w hw hc0 hc h0 h hd0 hd hn0 hn
  · exact step_2 c v n t d w hw hc0 hc h0 h hd0 hd hn0 hn
  · rcases (show t ≤ 5 ∨ t = 6 by omega) with h5 | h6
    · exact step_3a c v n t d w hw hc0 hc h0 h hd0 hd hn0 hn h5
    · exact step_3b c v n t d w hw hc0 hc h0 h hd0 hd hn0 hn h6
set_option maxHeartbeats 1000000 in
theorem Step_any (c v n t e d : Int) (w : World) (hw : Win w) (hc0 : 0 ≤ c) (hc1 : c ≤ 255) (he0 : 0 ≤ e) (he1 : e ≤ 255) :
    Calls Tryd.prog 15 #[.agg #[.int .u8 c, .int .i64 v, .int .i64 n, .int .i64 t], .int .u8 e, .int .i64 d] w fun x w' => x = .returned (.tuple #[.agg #[.int .u8 (sc c v n t e d), .int .i64 (sv c v n t e d), .int .i64 (sn c v n t e d), .int .i64 (st c v n t e d)], .bool (sg c v n t e d), .int .i64 (serr c v n t e d)]) ∧ Below w.heap.size w w' := by
  have hB0 : Below w.heap.size w ((w.alloc (.cells #[.int .u8 c, .int .i64 v, .int .i64 n, .int .i64 t] 23)).alloc (.cells #[.int .u8 0, .int .i64 0, .int .i64 0, .int .i64 0] 23)) := ((Below.refl _ _).alloc (Nat.le_refl _) _).alloc (by simp) _
  cases hk : bOk c v n t
  · have hs : serr c v n t e d = 8 := by simp [serr, hk]
    obtain ⟨e1, e2, e3, e4, e5⟩ := s_bad (by rw [hs]; decide)
    have hck : bke c v n t = 8 := by simp [bke, hk]
    rw [e1, e2, e3, e4, e5, hs]
    clear e1 e2 e3 e4 e5 hs hk
    go_enter Tryd.func15, Tryd.ntmps15
    go_wp2_with fail
    refine (Check_any _ _ _ _ _ ((hw.alloc _).alloc _) hc0 hc1).mono ?_
    rintro x w1 ⟨rfl, hb⟩
    obtain ⟨b0, b1, b2, b3, j0, j1, j2, j3⟩ := Four.later (k := w.heap.size) (x := .int .u8 c) (y := .int .i64 v) (z := .int .i64 n) (u := .int .i64 t) hb (by simp [Four])
    have z := Four.later (k := w.heap.size + 1) (x := .int .u8 0) (y := .int .i64 0) (z := .int .i64 0) (u := .int .i64 0) hb (by simp [Four])
    obtain ⟨c0, c1, c2, c3, f0, f1, f2, f3⟩ := id z
    have hB := hB0.trans (hb.mono (by simp; omega))
    clear hB0 hb
    go_wp2_with (go_at_call 25; refine (odd_any _ _).mono ?_; rintro e w' ⟨rfl, rfl⟩)
    exact bodyPost_ret (v := .tuple #[.agg #[.int .u8 0, .int .i64 0, .int .i64 0, .int .i64 0], .bool false, .int .i64 8]) (res_Step (Four.set4 z _ _ _ _) rfl rfl rfl) rfl ⟨rfl, bset4 hB (Nat.le_succ _)⟩
  · have hck : bke c v n t = 0 := by simp [bke, hk]
    obtain ⟨k1, k2, k3, k4, k5, k6⟩ := bOk_true hk
    obtain ⟨a1, a2⟩ := aft_bd c t k2 k3
    by_cases h3 : e ≤ 3
    · cases hd : drw d
      · have hs : serr c v n t e d = 2 := by simp [serr, hk, hd]
        obtain ⟨e1, e2, e3, e4, e5⟩ := s_bad (by rw [hs]; decide)
        rw [e1, e2, e3, e4, e5, hs]
        clear e1 e2 e3 e4 e5 hs hk k4
        go_enter Tryd.func15, Tryd.ntmps15
        go_wp2_with fail
        refine (Check_any _ _ _ _ _ ((hw.alloc _).alloc _) hc0 hc1).mono ?_
        rintro x w1 ⟨rfl, hb⟩
        obtain ⟨b0, b1, b2, b3, j0, j1, j2, j3⟩ := Four.later (k := w.heap.size) (x := .int .u8 c) (y := .int .i64 v) (z := .int .i64 n) (u := .int .i64 t) hb (by simp [Four])
        have z := Four.later (k := w.heap.size + 1) (x := .int .u8 0) (y := .int .i64 0) (z := .int .i64 0) (u := .int .i64 0) hb (by simp [Four])
        obtain ⟨c0, c1, c2, c3, f0, f1, f2, f3⟩ := id z
        have hB := hB0.trans (hb.mono (by simp; omega))
        clear hB0 hb
        go_wp2_with (go_at_call 25; refine (odd_any _ _).mono ?_; rintro e w' ⟨rfl, rfl⟩)
        exact bodyPost_ret (v := .tuple #[.agg #[.int .u8 0, .int .i64 0, .int .i64 0, .int .i64 0], .bool false, .int .i64 2]) (res_Step (Four.set4 z _ _ _ _) rfl rfl rfl) rfl ⟨rfl, bset4 hB (Nat.le_succ _)⟩
      · obtain ⟨d0, d1⟩ := drw_true hd
        by_cases h20 : 2 ≤ e ∧ 0 < n
        · have hs : serr c v n t e d = 20 := by simp [serr, hk, hd, h3, h20]
          obtain ⟨e1, e2, e3, e4, e5⟩ := s_bad (by rw [hs]; decide)
          rw [e1, e2, e3, e4, e5, hs]
          obtain ⟨g1, g2⟩ := h20
          clear e1 e2 e3 e4 e5 hs hk k4
          go_enter Tryd.func15, Tryd.ntmps15
          go_wp2_with fail
          refine (Check_any _ _ _ _ _ ((hw.alloc _).alloc _) hc0 hc1).mono ?_
          rintro x w1 ⟨rfl, hb⟩
          obtain ⟨b0, b1, b2, b3, j0, j1, j2, j3⟩ := Four.later (k := w.heap.size) (x := .int .u8 c) (y := .int .i64 v) (z := .int .i64 n) (u := .int .i64 t) hb (by simp [Four])
          have z := Four.later (k := w.heap.size + 1) (x := .int .u8 0) (y := .int .i64 0) (z := .int .i64 0) (u := .int .i64 0) hb (by simp [Four])
          obtain ⟨c0, c1, c2, c3, f0, f1, f2, f3⟩ := id z
          have hB := hB0.trans (hb.mono (by simp; omega))
          clear hB0 hb
          go_wp2_with (go_at_call 25; refine (odd_any _ _).mono ?_; rintro e w' ⟨rfl, rfl⟩)
          exact bodyPost_ret (v := .tuple #[.agg #[.int .u8 0, .int .i64 0, .int .i64 0, .int .i64 0], .bool false, .int .i64 20]) (res_Step (Four.set4 z _ _ _ _) rfl rfl rfl) rfl ⟨rfl, bset4 hB (Nat.le_succ _)⟩
        · have hs : serr c v n t e d = 0 := by
            have : (decide (2 ≤ e) && decide (0 < n)) = false := by simp; omega
            simp [serr, hk, hd, h3, this]
          obtain ⟨e1, e2, e3, e4, e5⟩ := s_ok hs
          rw [e1, e2, e3, e4, e5, hs]
          clear e1 e2 e3 e4 e5 hs hk
          rcases (show e ≤ 1 ∨ (2 ≤ e ∧ n = 0) by omega) with q | ⟨q, q2⟩
          · clear h20 k4
            go_enter Tryd.func15, Tryd.ntmps15
            go_wp2_with fail
            refine (Check_any _ _ _ _ _ ((hw.alloc _).alloc _) hc0 hc1).mono ?_
            rintro x w1 ⟨rfl, hb⟩
            obtain ⟨b0, b1, b2, b3, j0, j1, j2, j3⟩ := Four.later (k := w.heap.size) (x := .int .u8 c) (y := .int .i64 v) (z := .int .i64 n) (u := .int .i64 t) hb (by simp [Four])
            have z := Four.later (k := w.heap.size + 1) (x := .int .u8 0) (y := .int .i64 0) (z := .int .i64 0) (u := .int .i64 0) hb (by simp [Four])
            obtain ⟨c0, c1, c2, c3, f0, f1, f2, f3⟩ := id z
            have hw2 : Win w1 := (((hw.alloc _).alloc _).later hb)
            have hB := hB0.trans (hb.mono (by simp; omega))
            clear hB0 hb
            go_wp2_with (go_at_call 25; refine (odd_any _ _).mono ?_; rintro e w' ⟨rfl, rfl⟩)
            refine (step_any _ _ _ _ _ _ _ hw2 hc0 k1 k2 k3 d0 d1 k5 (by omega) he0 h3).mono ?_
            rintro x w2 ⟨rfl, hb⟩
            have z2 := Four.later hb z
            obtain ⟨i0, i1, i2, i3, l0, l1, l2, l3⟩ := id z2
            have hBB := hB.trans (hb.mono hB.size)
            clear hb hB z c0 c1 c2 c3 f0 f1 f2 f3 b0 b1 b2 b3 j0 j1 j2 j3
            go_wp2_with fail
            exact bodyPost_ret (v := .tuple #[.agg #[.int .u8 c, .int .i64 (nv c v e t), .int .i64 (nn c n e t d), .int .i64 (nt e t)], .bool (ng e t), .int .i64 0]) (res_Step (Four.set4 (Four.set4 z2 _ _ _ _) _ _ _ _) rfl rfl rfl) rfl ⟨rfl, bset4 (bset4 hBB (Nat.le_succ _)) (Nat.le_succ _)⟩
          · have q3 : ¬ 0 < n := by omega
            clear h20 k4 q2
            go_enter Tryd.func15, Tryd.ntmps15
            go_wp2_with fail
            refine (Check_any _ _ _ _ _ ((hw.alloc _).alloc _) hc0 hc1).mono ?_
            rintro x w1 ⟨rfl, hb⟩
            obtain ⟨b0, b1, b2, b3, j0, j1, j2, j3⟩ := Four.later (k := w.heap.size) (x := .int .u8 c) (y := .int .i64 v) (z := .int .i64 n) (u := .int .i64 t) hb (by simp [Four])
            have z := Four.later (k := w.heap.size + 1) (x := .int .u8 0) (y := .int .i64 0) (z := .int .i64 0) (u := .int .i64 0) hb (by simp [Four])
            obtain ⟨c0, c1, c2, c3, f0, f1, f2, f3⟩ := id z
            have hw2 : Win w1 := (((hw.alloc _).alloc _).later hb)
            have hB := hB0.trans (hb.mono (by simp; omega))
            clear hB0 hb
            go_wp2_with (go_at_call 25; refine (odd_any _ _).mono ?_; rintro e w' ⟨rfl, rfl⟩)
            refine (step_any _ _ _ _ _ _ _ hw2 hc0 k1 k2 k3 d0 d1 k5 (by omega) he0 h3).mono ?_
            rintro x w2 ⟨rfl, hb⟩
            have z2 := Four.later hb z
            obtain ⟨i0, i1, i2, i3, l0, l1, l2, l3⟩ := id z2
            have hBB := hB.trans (hb.mono hB.size)
            clear hb hB z c0 c1 c2 c3 f0 f1 f2 f3 b0 b1 b2 b3 j0 j1 j2 j3
            go_wp2_with fail
            exact bodyPost_ret (v := .tuple #[.agg #[.int .u8 c, .int .i64 (nv c v e t), .int .i64 (nn c n e t d), .int .i64 (nt e t)], .bool (ng e t), .int .i64 0]) (res_Step (Four.set4 (Four.set4 z2 _ _ _ _) _ _ _ _) rfl rfl rfl) rfl ⟨rfl, bset4 (bset4 hBB (Nat.le_succ _)) (Nat.le_succ _)⟩
    · have hs : serr c v n t e d = 2 := by simp [serr, hk, h3]
      have h4 : 3 < e := by omega
      obtain ⟨e1, e2, e3, e4, e5⟩ := s_bad (by rw [hs]; decide)
      rw [e1, e2, e3, e4, e5, hs]
      clear e1 e2 e3 e4 e5 hs hk k4 h3
      go_enter Tryd.func15, Tryd.ntmps15
      go_wp2_with fail
      refine (Check_any _ _ _ _ _ ((hw.alloc _).alloc _) hc0 hc1).mono ?_
      rintro x w1 ⟨rfl, hb⟩
      obtain ⟨b0, b1, b2, b3, j0, j1, j2, j3⟩ := Four.later (k := w.heap.size) (x := .int .u8 c) (y := .int .i64 v) (z := .int .i64 n) (u := .int .i64 t) hb (by simp [Four])
      have z := Four.later (k := w.heap.size + 1) (x := .int .u8 0) (y := .int .i64 0) (z := .int .i64 0) (u := .int .i64 0) hb (by simp [Four])
      obtain ⟨c0, c1, c2, c3, f0, f1, f2, f3⟩ := id z
      have hB := hB0.trans (hb.mono (by simp; omega))
      clear hB0 hb
      go_wp2_with (go_at_call 25; refine (odd_any _ _).mono ?_; rintro e w' ⟨rfl, rfl⟩)
      exact bodyPost_ret (v := .tuple #[.agg #[.int .u8 0, .int .i64 0, .int .i64 0, .int .i64 0], .bool false, .int .i64 2]) (res_Step (Four.set4 z _ _ _ _) rfl rfl rfl) rfl ⟨rfl, bset4 hB (Nat.le_succ _)⟩
set_option maxHeartbeats 1000000 in
theorem rStep_any (c v n t e d : Int) (w : World) (hc0 : 0 ≤ c) (hc1 : c ≤ 255) (he0 : 0 ≤ e) (he1 : e ≤ 255) :
    Calls Tryd.prog 16 #[.agg #[.int .u8 c, .int .i64 v, .int .i64 n, .int .i64 t], .int .u8 e, .int .i64 d] w fun x w' => x = .returned (.tuple #[.agg #[.int .u8 (sc c v n t e d), .int .i64 (sv c v n t e d), .int .i64 (sn c v n t e d), .int .i64 (st c v n t e d)], .bool (sg c v n t e d), .int .i64 (serr c v n t e d)]) ∧ Below w.heap.size w w' := by
  have hB0 : Below w.heap.size w ((w.alloc (.cells #[.int .u8 c, .int .i64 v, .int .i64 n, .int .i64 t] 23)).alloc (.cells #[.int .u8 0, .int .i64 0, .int .i64 0, .int .i64 0] 23)) := ((Below.refl _ _).alloc (Nat.le_refl _) _).alloc (by simp) _
  cases hk : bOk c v n t
  · have hs : serr c v n t e d = 8 := by simp [serr, hk]
    obtain ⟨e1, e2, e3, e4, e5⟩ := s_bad (by rw [hs]; decide)
    have hck : bke c v n t = 8 := by simp [bke, hk]
    rw [e1, e2, e3, e4, e5, hs]
    clear e1 e2 e3 e4 e5 hs hk
    go_enter Tryd.func16, Tryd.ntmps16
    go_wp2_with fail
    refine (rCheck_any _ _ _ _ _ hc0 hc1).mono ?_
    rintro x w1 ⟨rfl, hb⟩
    obtain ⟨b0, b1, b2, b3, j0, j1, j2, j3⟩ := Four.later (k := w.heap.size) (x := .int .u8 c) (y := .int .i64 v) (z := .int .i64 n) (u := .int .i64 t) hb (by simp [Four])
    have z := Four.later (k := w.heap.size + 1) (x := .int .u8 0) (y := .int .i64 0) (z := .int .i64 0) (u := .int .i64 0) hb (by simp [Four])
    obtain ⟨c0, c1, c2, c3, f0, f1, f2, f3⟩ := id z
    have hB := hB0.trans (hb.mono (by simp; omega))
    clear hB0 hb
    go_wp2_with (go_at_call 27; refine (Fits_any _ _).mono ?_; rintro e w' ⟨rfl, rfl⟩)
    exact bodyPost_ret (v := .tuple #[.agg #[.int .u8 0, .int .i64 0, .int .i64 0, .int .i64 0], .bool false, .int .i64 8]) (res_rStep (Four.set4 z _ _ _ _) rfl rfl rfl) rfl ⟨rfl, bset4 hB (Nat.le_succ _)⟩
  · have hck : bke c v n t = 0 := by simp [bke, hk]
    obtain ⟨k1, k2, k3, k4, k5, k6⟩ := bOk_true hk
    obtain ⟨a1, a2⟩ := aft_bd c t k2 k3
    by_cases h3 : e ≤ 3
    · cases hd : drw d
      · have hs : serr c v n t e d = 2 := by simp [serr, hk, hd]
        obtain ⟨e1, e2, e3, e4, e5⟩ := s_bad (by rw [hs]; decide)
        rw [e1, e2, e3, e4, e5, hs]
        clear e1 e2 e3 e4 e5 hs hk k4
        go_enter Tryd.func16, Tryd.ntmps16
        go_wp2_with fail
        refine (rCheck_any _ _ _ _ _ hc0 hc1).mono ?_
        rintro x w1 ⟨rfl, hb⟩
        obtain ⟨b0, b1, b2, b3, j0, j1, j2, j3⟩ := Four.later (k := w.heap.size) (x := .int .u8 c) (y := .int .i64 v) (z := .int .i64 n) (u := .int .i64 t) hb (by simp [Four])
        have z := Four.later (k := w.heap.size + 1) (x := .int .u8 0) (y := .int .i64 0) (z := .int .i64 0) (u := .int .i64 0) hb (by simp [Four])
        obtain ⟨c0, c1, c2, c3, f0, f1, f2, f3⟩ := id z
        have hB := hB0.trans (hb.mono (by simp; omega))
        clear hB0 hb
        go_wp2_with (go_at_call 27; refine (Fits_any _ _).mono ?_; rintro e w' ⟨rfl, rfl⟩)
        exact bodyPost_ret (v := .tuple #[.agg #[.int .u8 0, .int .i64 0, .int .i64 0, .int .i64 0], .bool false, .int .i64 2]) (res_rStep (Four.set4 z _ _ _ _) rfl rfl rfl) rfl ⟨rfl, bset4 hB (Nat.le_succ _)⟩
      · obtain ⟨d0, d1⟩ := drw_true hd
        by_cases h20 : 2 ≤ e ∧ 0 < n
        · have hs : serr c v n t e d = 20 := by simp [serr, hk, hd, h3, h20]
          obtain ⟨e1, e2, e3, e4, e5⟩ := s_bad (by rw [hs]; decide)
          rw [e1, e2, e3, e4, e5, hs]
          obtain ⟨g1, g2⟩ := h20
          clear e1 e2 e3 e4 e5 hs hk k4
          have g3 : (e == 0) = false := by simp; omega
          have g4 : (e == 1) = false := by simp; omega
          go_enter Tryd.func16, Tryd.ntmps16
          go_wp2_with fail
          refine (rCheck_any _ _ _ _ _ hc0 hc1).mono ?_
          rintro x w1 ⟨rfl, hb⟩
          obtain ⟨b0, b1, b2, b3, j0, j1, j2, j3⟩ := Four.later (k := w.heap.size) (x := .int .u8 c) (y := .int .i64 v) (z := .int .i64 n) (u := .int .i64 t) hb (by simp [Four])
          have z := Four.later (k := w.heap.size + 1) (x := .int .u8 0) (y := .int .i64 0) (z := .int .i64 0) (u := .int .i64 0) hb (by simp [Four])
          obtain ⟨c0, c1, c2, c3, f0, f1, f2, f3⟩ := id z
          have hB := hB0.trans (hb.mono (by simp; omega))
          clear hB0 hb
          go_wp2_with (go_at_call 27; refine (Fits_any _ _).mono ?_; rintro e w' ⟨rfl, rfl⟩)
          exact bodyPost_ret (v := .tuple #[.agg #[.int .u8 0, .int .i64 0, .int .i64 0, .int .i64 0], .bool false, .int .i64 20]) (res_rStep (Four.set4 z _ _ _ _) rfl rfl rfl) rfl ⟨rfl, bset4 hB (Nat.le_succ _)⟩
        · have hs : serr c v n t e d = 0 := by
            have : (decide (2 ≤ e) && decide (0 < n)) = false := by simp; omega
            simp [serr, hk, hd, h3, this]
          obtain ⟨e1, e2, e3, e4, e5⟩ := s_ok hs
          rw [e1, e2, e3, e4, e5, hs]
          clear e1 e2 e3 e4 e5 hs hk
          clear k4
          rcases (show (e = 0 ∧ n = 0) ∨ (e = 0 ∧ 1 ≤ n) ∨ e = 1 ∨ (e = 2 ∧ n = 0) ∨ (e = 3 ∧ n = 0) by omega) with ⟨rfl, rfl⟩ | ⟨rfl, q⟩ | rfl | ⟨rfl, rfl⟩ | ⟨rfl, rfl⟩
          all_goals clear h20
          · have e1 : nt 0 t = t := by simp [nt]
            have e2 : nv c v 0 t = v := by simp [nv]
            have e3 : nn c 0 0 t d = 0 := by simp [nn]; decide
            have e4 : ng 0 t = false := by simp [ng]
            rw [e1, e2, e3, e4]
            clear e1 e2 e3 e4
            go_enter Tryd.func16, Tryd.ntmps16
            go_wp2_with fail
            refine (rCheck_any _ _ _ _ _ hc0 hc1).mono ?_
            rintro x w1 ⟨rfl, hb⟩
            obtain ⟨b0, b1, b2, b3, j0, j1, j2, j3⟩ := Four.later (k := w.heap.size) (x := .int .u8 c) (y := .int .i64 v) (z := .int .i64 0) (u := .int .i64 t) hb (by simp [Four])
            have z := Four.later (k := w.heap.size + 1) (x := .int .u8 0) (y := .int .i64 0) (z := .int .i64 0) (u := .int .i64 0) hb (by simp [Four])
            obtain ⟨c0, c1, c2, c3, f0, f1, f2, f3⟩ := id z
            have hB := hB0.trans (hb.mono (by simp; omega))
            clear hB0 hb
            go_wp2_with (go_at_call 27; refine (Fits_any _ _).mono ?_; rintro e w' ⟨rfl, rfl⟩)
            exact bodyPost_ret (v := .tuple #[.agg #[.int .u8 c, .int .i64 v, .int .i64 0, .int .i64 t], .bool false, .int .i64 0]) (res_rStep (Four.set4 z _ _ _ _) rfl rfl rfl) rfl ⟨rfl, bset4 hB (Nat.le_succ _)⟩
          · have e1 : nt 0 t = t := by simp [nt]
            have e2 : nv c v 0 t = v := by simp [nv]
            have e3 : nn c n 0 t d = n - 1 := by simp [nn]; omega
            have e4 : ng 0 t = false := by simp [ng]
            rw [e1, e2, e3, e4]
            clear e1 e2 e3 e4
            go_enter Tryd.func16, Tryd.ntmps16
            go_wp2_with fail
            refine (rCheck_any _ _ _ _ _ hc0 hc1).mono ?_
            rintro x w1 ⟨rfl, hb⟩
            obtain ⟨b0, b1, b2, b3, j0, j1, j2, j3⟩ := Four.later (k := w.heap.size) (x := .int .u8 c) (y := .int .i64 v) (z := .int .i64 n) (u := .int .i64 t) hb (by simp [Four])
            have z := Four.later (k := w.heap.size + 1) (x := .int .u8 0) (y := .int .i64 0) (z := .int .i64 0) (u := .int .i64 0) hb (by simp [Four])
            obtain ⟨c0, c1, c2, c3, f0, f1, f2, f3⟩ := id z
            have hB := hB0.trans (hb.mono (by simp; omega))
            clear hB0 hb
            go_wp2_with (go_at_call 27; refine (Fits_any _ _).mono ?_; rintro e w' ⟨rfl, rfl⟩)
            exact bodyPost_ret (v := .tuple #[.agg #[.int .u8 c, .int .i64 v, .int .i64 (n - 1), .int .i64 t], .bool false, .int .i64 0]) (res_rStep (Four.set4 (Four.far z (by omega) _) _ _ _ _) rfl rfl rfl) rfl ⟨rfl, bset4 (hB.setCell (p := ⟨w.heap.size, 2, none⟩) (Nat.le_refl _) _) (Nat.le_succ _)⟩
          · have e1 : nt 1 t = t := by simp [nt]
            have e2 : nv c v 1 t = v := by simp [nv]
            have e3 : nn c n 1 t d = n := by simp [nn]
            have e4 : ng 1 t = false := by simp [ng]
            rw [e1, e2, e3, e4]
            clear e1 e2 e3 e4
            go_enter Tryd.func16, Tryd.ntmps16
            go_wp2_with fail
            refine (rCheck_any _ _ _ _ _ hc0 hc1).mono ?_
            rintro x w1 ⟨rfl, hb⟩
            obtain ⟨b0, b1, b2, b3, j0, j1, j2, j3⟩ := Four.later (k := w.heap.size) (x := .int .u8 c) (y := .int .i64 v) (z := .int .i64 n) (u := .int .i64 t) hb (by simp [Four])
            have z := Four.later (k := w.heap.size + 1) (x := .int .u8 0) (y := .int .i64 0) (z := .int .i64 0) (u := .int .i64 0) hb (by simp [Four])
            obtain ⟨c0, c1, c2, c3, f0, f1, f2, f3⟩ := id z
            have hB := hB0.trans (hb.mono (by simp; omega))
            clear hB0 hb
            go_wp2_with (go_at_call 27; refine (Fits_any _ _).mono ?_; rintro e w' ⟨rfl, rfl⟩)
            exact bodyPost_ret (v := .tuple #[.agg #[.int .u8 c, .int .i64 v, .int .i64 n, .int .i64 t], .bool false, .int .i64 0]) (res_rStep (Four.set4 z _ _ _ _) rfl rfl rfl) rfl ⟨rfl, bset4 hB (Nat.le_succ _)⟩
          · have e1 : nt 2 t = 0 := by simp [nt]
            have e2 : nv c v 2 t = aft c 0 := by simp [nv, e1]
            have e3 : nn c 0 2 t d = cnt c 0 d := by simp [nn, e1]
            have e4 : ng 2 t = false := by simp [ng]
            rw [e1, e2, e3, e4]
            clear e1 e2 e3 e4
            go_enter Tryd.func16, Tryd.ntmps16
            go_wp2_with fail
            refine (rCheck_any _ _ _ _ _ hc0 hc1).mono ?_
            rintro x w1 ⟨rfl, hb⟩
            obtain ⟨b0, b1, b2, b3, j0, j1, j2, j3⟩ := Four.later (k := w.heap.size) (x := .int .u8 c) (y := .int .i64 v) (z := .int .i64 0) (u := .int .i64 t) hb (by simp [Four])
            have z := Four.later (k := w.heap.size + 1) (x := .int .u8 0) (y := .int .i64 0) (z := .int .i64 0) (u := .int .i64 0) hb (by simp [Four])
            obtain ⟨c0, c1, c2, c3, f0, f1, f2, f3⟩ := id z
            have hB := hB0.trans (hb.mono (by simp; omega))
            clear hB0 hb
            go_wp2_with (go_at_call 27; refine (Fits_any _ _).mono ?_; rintro e w' ⟨rfl, rfl⟩)
            refine (rFresh_any _ _ _ _ hc0 k1 (by omega) (by omega) d0 d1).mono ?_
            rintro x w2 ⟨rfl, hb⟩
            have z2 := Four.later hb z
            obtain ⟨i0, i1, i2, i3, l0, l1, l2, l3⟩ := id z2
            have hBB := hB.trans (hb.mono hB.size)
            clear hb hB z c0 c1 c2 c3 f0 f1 f2 f3 b0 b1 b2 b3 j0 j1 j2 j3
            go_wp2_with fail
            exact bodyPost_ret (v := .tuple #[.agg #[.int .u8 c, .int .i64 (aft c 0), .int .i64 (cnt c 0 d), .int .i64 0], .bool false, .int .i64 0]) (res_rStep (Four.set4 z2 _ _ _ _) rfl rfl rfl) rfl ⟨rfl, bset4 hBB (Nat.le_succ _)⟩
          · have X := trivial
            go_enter Tryd.func16, Tryd.ntmps16
            go_wp2_with fail
            refine (rCheck_any _ _ _ _ _ hc0 hc1).mono ?_
            rintro x w1 ⟨rfl, hb⟩
            obtain ⟨b0, b1, b2, b3, j0, j1, j2, j3⟩ := Four.later (k := w.heap.size) (x := .int .u8 c) (y := .int .i64 v) (z := .int .i64 0) (u := .int .i64 t) hb (by simp [Four])
            have z := Four.later (k := w.heap.size + 1) (x := .int .u8 0) (y := .int .i64 0) (z := .int .i64 0) (u := .int .i64 0) hb (by simp [Four])
            obtain ⟨c0, c1, c2, c3, f0, f1, f2, f3⟩ := id z
            have hB := hB0.trans (hb.mono (by simp; omega))
            clear hB0 hb
            go_wp2_with (go_at_call 27; refine (Fits_any _ _).mono ?_; rintro e w' ⟨rfl, rfl⟩)
            refine (rFail_any _ _ _ _ _ _ hc0 k1 k2 k3 d0 d1).mono ?_
            rintro x w2 ⟨rfl, hb⟩
            have z2 := Four.later hb z
            have hz2 := z2.lt
            obtain ⟨i0, i1, i2, i3, l0, l1, l2, l3⟩ := id z2
            have hBB := hB.trans (hb.mono hB.size)
            have hsz := hBB.size
            clear hb hB z c0 c1 c2 c3 f0 f1 f2 f3 b0 b1 b2 b3 j0 j1 j2 j3
            go_wp2_with fail
            exact bodyPost_ret (v := .tuple #[.agg #[.int .u8 c, .int .i64 (nv c v 3 t), .int .i64 (nn c 0 3 t d), .int .i64 (nt 3 t)], .bool (ng 3 t), .int .i64 0]) (res_rStep (Four.alloc (Four.set4 z2 _ _ _ _) _) rfl rfl rfl) rfl ⟨rfl, (bset4 hBB (Nat.le_succ _)).alloc (bset4 hBB (Nat.le_succ _)).size _⟩
    · have hs : serr c v n t e d = 2 := by simp [serr, hk, h3]
      have h4 : 3 < e := by omega
      obtain ⟨e1, e2, e3, e4, e5⟩ := s_bad (by rw [hs]; decide)
      rw [e1, e2, e3, e4, e5, hs]
      clear e1 e2 e3 e4 e5 hs hk k4 h3
      go_enter Tryd.func16, Tryd.ntmps16
      go_wp2_with fail
      refine (rCheck_any _ _ _ _ _ hc0 hc1).mono ?_
      rintro x w1 ⟨rfl, hb⟩
      obtain ⟨b0, b1, b2, b3, j0, j1, j2, j3⟩ := Four.later (k := w.heap.size) (x := .int .u8 c) (y := .int .i64 v) (z := .int .i64 n) (u := .int .i64 t) hb (by simp [Four])
      have z := Four.later (k := w.heap.size + 1) (x := .int .u8 0) (y := .int .i64 0) (z := .int .i64 0) (u := .int .i64 0) hb (by simp [Four])
      obtain ⟨c0, c1, c2, c3, f0, f1, f2, f3⟩ := id z
      have hB := hB0.trans (hb.mono (by simp; omega))
      clear hB0 hb
      go_wp2_with (go_at_call 27; refine (Fits_any _ _).mono ?_; rintro e w' ⟨rfl, rfl⟩)
      exact bodyPost_ret (v := .tuple #[.agg #[.int .u8 0, .int .i64 0, .int .i64 0, .int .i64 0], .bool false, .int .i64 2]) (res_rStep (Four.set4 z _ _ _ _) rfl rfl rfl) rfl ⟨rfl, bset4 hB (Nat.le_succ _)⟩
end Go.Proofs.YtdikdhjfcnocdaaDoor
