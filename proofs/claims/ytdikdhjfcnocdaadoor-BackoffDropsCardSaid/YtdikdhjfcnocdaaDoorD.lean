/- Contracts of the reference's Check, Fresh, New and Fail, and of step. -/
import Derived.Test.YtdikdhjfcnocdaaDoorC
namespace Go.Proofs.YtdikdhjfcnocdaaDoor
open Go.RowKit
set_option linter.unusedVariables false
theorem rCheck_any (c v n t : Int) (w : World) (hc0 : 0 ≤ c) (hc1 : c ≤ 255) :
    Calls Tryd.prog 18 #[.agg #[.int .u8 c, .int .i64 v, .int .i64 n, .int .i64 t]] w fun e w' => e = .returned (.int .i64 (bke c v n t)) ∧ Below w.heap.size w w' := by
  have hB0 : Below w.heap.size w (w.alloc (.cells #[.int .u8 c, .int .i64 v, .int .i64 n, .int .i64 t] 23)) := (Below.refl _ _).alloc (Nat.le_refl _) _
  have no : bOk c v n t = false → bke c v n t = 8 := fun h => by simp [bke, h]
  have yes : bOk c v n t = true → bke c v n t = 0 := fun h => by simp [bke, h]
  have NO := Lib.hid no
  have YES := Lib.hid yes
  clear no yes
  cases hk : wndOk c t
  · have he : wnde c t = 2 := by simp [wnde, hk]
    have hf : bOk c v n t = false := by simp [bOk, hk]
    rw [NO.out hf]
    clear hf hk
    go_enter Tryd.func18, Tryd.ntmps18
    go_wp2_with fail
    refine (rWindow_any _ _ _ hc0 hc1).mono ?_
    rintro e w1 ⟨rfl, hb⟩
    have hB := hB0.trans (hb.mono hB0.size)
    clear hB0 hb
    go_wp2_with fail
    go_ret
    exact ⟨rfl, hB⟩
  · have he : wnde c t = 0 := by simp [wnde, hk]
    have hv : wnd c t = aft c t := by simp [wnd, hk]
    by_cases h1 : v = aft c t
    · subst h1
      have h1b : (aft c t != aft c t) = false := by simp
      by_cases h2 : 0 ≤ n
      · by_cases h3 : n ≤ aft c t
        · have hf : bOk c (aft c t) n t = true := by simp [bOk, hk, h2, h3]
          rw [YES.out hf]
          clear hf hk
          go_enter Tryd.func18, Tryd.ntmps18
          go_wp2_with fail
          refine (rWindow_any _ _ _ hc0 hc1).mono ?_
          rintro e w1 ⟨rfl, hb⟩
          obtain ⟨c0, c1, c2, c3, _, _, _, _⟩ := Four.later (k := w.heap.size) (x := .int .u8 c) (y := .int .i64 (aft c t)) (z := .int .i64 n) (u := .int .i64 t) hb (by simp [Four])
          have hB := hB0.trans (hb.mono hB0.size)
          clear hB0 hb
          go_wp2_with fail
          go_ret
          exact ⟨rfl, hB⟩
        · have hf : bOk c (aft c t) n t = false := by simp [bOk, h3]
          rw [NO.out hf]
          clear hf hk
          go_enter Tryd.func18, Tryd.ntmps18
          go_wp2_with fail
          refine (rWindow_any _ _ _ hc0 hc1).mono ?_
          rintro e w1 ⟨rfl, hb⟩
          obtain ⟨c0, c1, c2, c3, _, _, _, _⟩ := Four.later (k := w.heap.size) (x := .int .u8 c) (y := .int .i64 (aft c t)) (z := .int .i64 n) (u := .int .i64 t) hb (by simp [Four])
          have hB := hB0.trans (hb.mono hB0.size)
          clear hB0 hb
          go_wp2_with fail
          go_ret
          exact ⟨rfl, hB⟩
      · have hf : bOk c (aft c t) n t = false := by simp [bOk, h2]
        rw [NO.out hf]
        clear hf hk
        go_enter Tryd.func18, Tryd.ntmps18
        go_wp2_with fail
        refine (rWindow_any _ _ _ hc0 hc1).mono ?_
        rintro e w1 ⟨rfl, hb⟩
        obtain ⟨c0, c1, c2, c3, _, _, _, _⟩ := Four.later (k := w.heap.size) (x := .int .u8 c) (y := .int .i64 (aft c t)) (z := .int .i64 n) (u := .int .i64 t) hb (by simp [Four])
        have hB := hB0.trans (hb.mono hB0.size)
        clear hB0 hb
        go_wp2_with fail
        go_ret
        exact ⟨rfl, hB⟩
    · have hf : bOk c v n t = false := by simp [bOk, h1]
      have h2 : (aft c t != v) = true := by simp; omega
      rw [NO.out hf]
      clear hf hk
      go_enter Tryd.func18, Tryd.ntmps18
      go_wp2_with fail
      refine (rWindow_any _ _ _ hc0 hc1).mono ?_
      rintro e w1 ⟨rfl, hb⟩
      obtain ⟨c0, c1, c2, c3, _, _, _, _⟩ := Four.later (k := w.heap.size) (x := .int .u8 c) (y := .int .i64 v) (z := .int .i64 n) (u := .int .i64 t) hb (by simp [Four])
      have hB := hB0.trans (hb.mono hB0.size)
      clear hB0 hb
      go_wp2_with fail
      go_ret
      exact ⟨rfl, hB⟩
theorem rFresh_any (c f d : Int) (w : World) (hc0 : 0 ≤ c) (hc : c ≤ 3) (h0 : 0 ≤ f) (h : f ≤ 6) (hd0 : 0 ≤ d) (hd : d ≤ 1099511627776) :
    Calls Tryd.prog 28 #[.int .u8 c, .int .i64 f, .int .i64 d] w fun e w' => e = .returned (.agg #[.int .u8 c, .int .i64 (aft c f), .int .i64 (cnt c f d), .int .i64 f]) ∧ Below w.heap.size w w' := by
  have hB0 : Below w.heap.size w (w.alloc (.cells #[.int .u8 0, .int .i64 0, .int .i64 0, .int .i64 0] 23)) := (Below.refl _ _).alloc (Nat.le_refl _) _
  obtain ⟨a1, a2⟩ := aft_bd c f h0 h
  have ec : cnt c f d = d % (aft c f + 1) := rfl
  have EC := Lib.hid ec
  have hk : wndOk c f = true := by simp [wndOk, hc, h0, h]
  have hv : wnd c f = aft c f := by simp [wnd, hk]
  clear ec hk
  go_enter Tryd.func28, Tryd.ntmps28
  go_wp2_with fail
  refine (rWindow_any _ _ _ hc0 (by omega)).mono ?_
  rintro e w1 ⟨rfl, hb⟩
  obtain ⟨c0, c1, c2, c3, f0, f1, f2, f3⟩ := Four.later (k := w.heap.size) (x := .int .u8 0) (y := .int .i64 0) (z := .int .i64 0) (u := .int .i64 0) hb (by simp [Four])
  have hB := hB0.trans (hb.mono hB0.size)
  clear hB0 hb
  go_wp2_with fail
  rw [EC.out]
  exact bodyPost_ret (v := .agg #[.int .u8 c, .int .i64 (aft c f), .int .i64 (d % (aft c f + 1)), .int .i64 f]) (by simp [results, Tryd.results28, go_sem, *]) rfl ⟨rfl, (by repeat (first | assumption | exact Below.refl _ _ | refine Below.setCell ?_ (by simp) _ | refine Below.alloc ?_ (Nat.le_refl _) _ | refine Below.alloc ?_ (by simp) _))⟩
theorem rNew_any (c d : Int) (w : World) (hc0 : 0 ≤ c) (hc1 : c ≤ 255) :
    Calls Tryd.prog 14 #[.int .u8 c, .int .i64 d] w fun e w' => e = .returned (.tuple #[.agg #[.int .u8 (Nc c d), .int .i64 (Nw c d), .int .i64 (Nn c d), .int .i64 0], .int .i64 (Nerr c d)]) ∧ Below w.heap.size w w' := by
  have hB0 : Below w.heap.size w (w.alloc (.cells #[.int .u8 0, .int .i64 0, .int .i64 0, .int .i64 0] 23)) := (Below.refl _ _).alloc (Nat.le_refl _) _
  by_cases h1 : c ≤ 3
  · cases hd : drw d
    · obtain ⟨e1, e2, e3, e4⟩ := New_no (c := c) (d := d) (by simp [nOk, hd])
      rw [e1, e2, e3, e4]
      clear e1 e2 e3 e4
      go_enter Tryd.func14, Tryd.ntmps14
      go_wp2_with (go_at_call 27; refine (Fits_any _ _).mono ?_; rintro e w' ⟨rfl, rfl⟩)
      exact bodyPost_ret (v := .tuple #[.agg #[.int .u8 0, .int .i64 0, .int .i64 0, .int .i64 0], .int .i64 2]) (by simp [results, Tryd.results14, go_sem]) rfl ⟨rfl, (by repeat (first | assumption | exact Below.refl _ _ | refine Below.setCell ?_ (by simp) _ | refine Below.alloc ?_ (Nat.le_refl _) _ | refine Below.alloc ?_ (by simp) _))⟩
    · obtain ⟨e1, e2, e3, e4⟩ := New_yes (c := c) (d := d) (by simp [nOk, hd, h1])
      rw [e1, e2, e3, e4]
      clear e1 e2 e3 e4
      obtain ⟨d0, d1⟩ := drw_true hd
      go_enter Tryd.func14, Tryd.ntmps14
      go_wp2_with (go_at_call 27; refine (Fits_any _ _).mono ?_; rintro e w' ⟨rfl, rfl⟩)
      refine (rFresh_any _ _ _ _ hc0 h1 (by omega) (by omega) d0 d1).mono ?_
      rintro e w1 ⟨rfl, hb⟩
      obtain ⟨c0, c1, c2, c3, f0, f1, f2, f3⟩ := Four.later (k := w.heap.size) (x := .int .u8 0) (y := .int .i64 0) (z := .int .i64 0) (u := .int .i64 0) hb (by simp [Four])
      have hB := hB0.trans (hb.mono hB0.size)
      clear hB0 hb
      go_wp2_with fail
      exact bodyPost_ret (v := .tuple #[.agg #[.int .u8 c, .int .i64 (aft c 0), .int .i64 (cnt c 0 d), .int .i64 0], .int .i64 0]) (by simp [results, Tryd.results14, go_sem, *]) rfl ⟨rfl, ((((hB).setCell (p := ⟨w.heap.size, 0, none⟩) (by simp) _).setCell (p := ⟨w.heap.size, 1, none⟩) (by simp) _).setCell (p := ⟨w.heap.size, 2, none⟩) (by simp) _).setCell (p := ⟨w.heap.size, 3, none⟩) (by simp) _⟩
  · obtain ⟨e1, e2, e3, e4⟩ := New_no (c := c) (d := d) (by simp [nOk, h1])
    have h2 : 3 < c := by omega
    rw [e1, e2, e3, e4]
    clear e1 e2 e3 e4 h1
    go_enter Tryd.func14, Tryd.ntmps14
    go_wp2_with (go_at_call 27; refine (Fits_any _ _).mono ?_; rintro e w' ⟨rfl, rfl⟩)
    exact bodyPost_ret (v := .tuple #[.agg #[.int .u8 0, .int .i64 0, .int .i64 0, .int .i64 0], .int .i64 2]) (by simp [results, Tryd.results14, go_sem]) rfl ⟨rfl, (by repeat (first | assumption | exact Below.refl _ _ | refine Below.setCell ?_ (by simp) _ | refine Below.alloc ?_ (Nat.le_refl _) _ | refine Below.alloc ?_ (by simp) _))⟩
/-- the failures, the window, the count and the drop after event e, in a valid state -/
def nt (e t : Int) : Int := if e ≤ 1 then t else if e = 3 ∧ t ≠ 6 then t + 1 else 0
def nv (c v e t : Int) : Int := if e ≤ 1 then v else aft c (nt e t)
def nn (c n e t d : Int) : Int := if e = 0 then max (n - 1) 0 else if e = 1 then n else cnt c (nt e t) d
def ng (e t : Int) : Bool := decide (e = 3) && decide (t = 6)
theorem rFail_any (c v n t d : Int) (w : World) (hc0 : 0 ≤ c) (hc : c ≤ 3) (h0 : 0 ≤ t) (h : t ≤ 6) (hd0 : 0 ≤ d) (hd : d ≤ 1099511627776) :
    Calls Tryd.prog 30 #[.agg #[.int .u8 c, .int .i64 v, .int .i64 n, .int .i64 t], .int .i64 d] w fun e w' => e = .returned (.tuple #[.agg #[.int .u8 c, .int .i64 (nv c v 3 t), .int .i64 (nn c n 3 t d), .int .i64 (nt 3 t)], .bool (ng 3 t)]) ∧ Below w.heap.size w w' := by
  have hB0 : Below w.heap.size w ((w.alloc (.cells #[.int .u8 c, .int .i64 v, .int .i64 n, .int .i64 t] 23)).alloc (.cells #[.int .u8 0, .int .i64 0, .int .i64 0, .int .i64 0] 23)) := ((Below.refl _ _).alloc (Nat.le_refl _) _).alloc (by simp) _
  by_cases h6 : t = 6
  · subst h6
    have e1 : nt 3 6 = 0 := by decide
    have e2 : nv c v 3 6 = aft c 0 := by simp [nv, e1]
    have e3 : nn c n 3 6 d = cnt c 0 d := by simp [nn, e1]
    have e4 : ng 3 6 = true := by decide
    rw [e1, e2, e3, e4]
    clear e1 e2 e3 e4
    go_enter Tryd.func30, Tryd.ntmps30
    go_wp2_with fail
    refine (rFresh_any _ _ _ _ hc0 hc (by omega) (by omega) hd0 hd).mono ?_
    rintro e w1 ⟨rfl, hb⟩
    obtain ⟨c0, c1, c2, c3, f0, f1, f2, f3⟩ := Four.later (k := w.heap.size + 1) (x := .int .u8 0) (y := .int .i64 0) (z := .int .i64 0) (u := .int .i64 0) hb (by simp [Four])
    have hB := hB0.trans (hb.mono (by simp; omega))
    clear hB0 hb
    go_wp2_with fail
    exact bodyPost_ret (v := .tuple #[.agg #[.int .u8 c, .int .i64 (aft c 0), .int .i64 (cnt c 0 d), .int .i64 0], .bool true]) (by simp [results, Tryd.results30, go_sem, *]) rfl ⟨rfl, (by repeat (first | assumption | exact Below.refl _ _ | refine Below.setCell ?_ (by simp) _ | refine Below.alloc ?_ (Nat.le_refl _) _ | refine Below.alloc ?_ (by simp) _))⟩
  · have e1 : nt 3 t = t + 1 := by simp [nt, h6]
    have e2 : nv c v 3 t = aft c (t + 1) := by simp [nv, e1]
    have e3 : nn c n 3 t d = cnt c (t + 1) d := by simp [nn, e1]
    have e4 : ng 3 t = false := by simp [ng, h6]
    rw [e1, e2, e3, e4]
    clear e1 e2 e3 e4
    have h6b : (t == 6) = false := by simpa using h6
    have h5 : t ≤ 5 := by omega
    clear h6
    go_enter Tryd.func30, Tryd.ntmps30
    go_wp2_with fail
    refine (rFresh_any _ _ _ _ hc0 hc (by omega) (by omega) hd0 hd).mono ?_
    rintro e w1 ⟨rfl, hb⟩
    obtain ⟨c0, c1, c2, c3, f0, f1, f2, f3⟩ := Four.later (k := w.heap.size + 1) (x := .int .u8 0) (y := .int .i64 0) (z := .int .i64 0) (u := .int .i64 0) hb (by simp [Four])
    have hB := hB0.trans (hb.mono (by simp; omega))
    clear hB0 hb
    go_wp2_with fail
    exact bodyPost_ret (v := .tuple #[.agg #[.int .u8 c, .int .i64 (aft c (t + 1)), .int .i64 (cnt c (t + 1) d), .int .i64 (t + 1)], .bool false]) (by simp [results, Tryd.results30, go_sem, *]) rfl ⟨rfl, (by repeat (first | assumption | exact Below.refl _ _ | refine Below.setCell ?_ (by simp) _ | refine Below.alloc ?_ (Nat.le_refl _) _ | refine Below.alloc ?_ (by simp) _))⟩
theorem step_0 (c v n t d : Int) (w : World) (hw : Win w) (hc0 : 0 ≤ c) (hc : c ≤ 3) (h0 : 0 ≤ t) (h : t ≤ 6) (hd0 : 0 ≤ d) (hd : d ≤ 1099511627776) (hn0 : 0 ≤ n) (hn : n ≤ 1023) :
    Calls Tryd.prog 29 #[.agg #[.int .u8 c, .int .i64 v, .int .i64 n, .int .i64 t], .int .u8 0, .int .i64 d] w fun e w' => e = .returned (.tuple #[.agg #[.int .u8 c, .int .i64 (nv c v 0 t), .int .i64 (nn c n 0 t d), .int .i64 (nt 0 t)], .bool (ng 0 t)]) ∧ Below w.heap.size w w' := by
  have hB0 : Below w.heap.size w ((w.alloc (.cells #[.int .u8 c, .int .i64 v, .int .i64 n, .int .i64 t] 23)).alloc (.cells #[.int .u8 0, .int .i64 0, .int .i64 0, .int .i64 0] 23)) := ((Below.refl _ _).alloc (Nat.le_refl _) _).alloc (by simp) _
  have e1 : nt 0 t = t := by simp [nt]
  have e2 : nv c v 0 t = v := by simp [nv]
  have e3 : nn c n 0 t d = max (n - 1) 0 := by simp [nn]
  have e4 : ng 0 t = false := by simp [ng]
  rw [e1, e2, e3, e4]
  clear e1 e2 e3 e4
  rcases (show n = 0 ∨ n = 1 ∨ 2 ≤ n by omega) with rfl | rfl | h1
  · rw [show max ((0 : Int) - 1) 0 = 0 from by decide]
    go_enter Tryd.func29, Tryd.ntmps29
    go_wp2_with fail
    exact bodyPost_ret (v := .tuple #[.agg #[.int .u8 c, .int .i64 v, .int .i64 0, .int .i64 t], .bool false]) (by simp [results, Tryd.results29, go_sem]) rfl ⟨rfl, (by repeat (first | assumption | exact Below.refl _ _ | refine Below.setCell ?_ (by simp) _ | refine Below.alloc ?_ (Nat.le_refl _) _ | refine Below.alloc ?_ (by simp) _))⟩
  · rw [show max ((1 : Int) - 1) 0 = 0 from by decide]
    go_enter Tryd.func29, Tryd.ntmps29
    go_wp2_with fail
    exact bodyPost_ret (v := .tuple #[.agg #[.int .u8 c, .int .i64 v, .int .i64 0, .int .i64 t], .bool false]) (by simp [results, Tryd.results29, go_sem]) rfl ⟨rfl, (by repeat (first | assumption | exact Below.refl _ _ | refine Below.setCell ?_ (by simp) _ | refine Below.alloc ?_ (Nat.le_refl _) _ | refine Below.alloc ?_ (by simp) _))⟩
  · rw [show max (n - 1) 0 = n - 1 from by omega]
    have h2 : 0 < n - 1 := by omega
    go_enter Tryd.func29, Tryd.ntmps29
    go_wp2_with fail
    exact bodyPost_ret (v := .tuple #[.agg #[.int .u8 c, .int .i64 v, .int .i64 (n - 1), .int .i64 t], .bool false]) (by simp [results, Tryd.results29, go_sem]) rfl ⟨rfl, (by repeat (first | assumption | exact Below.refl _ _ | refine Below.setCell ?_ (by simp) _ | refine Below.alloc ?_ (Nat.le_refl _) _ | refine Below.alloc ?_ (by simp) _))⟩
theorem step_1 (c v n t d : Int) (w : World) (hw : Win w) (hc0 : 0 ≤ c) (hc : c ≤ 3) (h0 : 0 ≤ t) (h : t ≤ 6) (hd0 : 0 ≤ d) (hd : d ≤ 1099511627776) (hn0 : 0 ≤ n) (hn : n ≤ 1023) :
    Calls Tryd.prog 29 #[.agg #[.int .u8 c, .int .i64 v, .int .i64 n, .int .i64 t], .int .u8 1, .int .i64 d] w fun e w' => e = .returned (.tuple #[.agg #[.int .u8 c, .int .i64 (nv c v 1 t), .int .i64 (nn c n 1 t d), .int .i64 (nt 1 t)], .bool (ng 1 t)]) ∧ Below w.heap.size w w' := by
  have hB0 : Below w.heap.size w ((w.alloc (.cells #[.int .u8 c, .int .i64 v, .int .i64 n, .int .i64 t] 23)).alloc (.cells #[.int .u8 0, .int .i64 0, .int .i64 0, .int .i64 0] 23)) := ((Below.refl _ _).alloc (Nat.le_refl _) _).alloc (by simp) _
  have e1 : nt 1 t = t := by simp [nt]
  have e2 : nv c v 1 t = v := by simp [nv]
  have e3 : nn c n 1 t d = n := by simp [nn]
  have e4 : ng 1 t = false := by simp [ng]
  rw [e1, e2, e3, e4]
  clear e1 e2 e3 e4
  go_enter Tryd.func29, Tryd.ntmps29
  go_wp2_with fail
  exact bodyPost_ret (v := .tuple #[.agg #[.int .u8 c, .int .i64 v, .int .i64 n, .int .i64 t], .bool false]) (by simp [results, Tryd.results29, go_sem]) rfl ⟨rfl, (by repeat (first | assumption | exact Below.refl _ _ | refine Below.setCell ?_ (by simp) _ | refine Below.alloc ?_ (Nat.le_refl _) _ | refine Below.alloc ?_ (by simp) _))⟩
theorem step_2 (c v n t d : Int) (w : World) (hw : Win w) (hc0 : 0 ≤ c) (hc : c ≤ 3) (h0 : 0 ≤ t) (h : t ≤ 6) (hd0 : 0 ≤ d) (hd : d ≤ 1099511627776) (hn0 : 0 ≤ n) (hn : n ≤ 1023) :
    Calls Tryd.prog 29 #[.agg #[.int .u8 c, .int .i64 v, .int .i64 n, .int .i64 t], .int .u8 2, .int .i64 d] w fun e w' => e = .returned (.tuple #[.agg #[.int .u8 c, .int .i64 (nv c v 2 t), .int .i64 (nn c n 2 t d), .int .i64 (nt 2 t)], .bool (ng 2 t)]) ∧ Below w.heap.size w w' := by
  have hB0 : Below w.heap.size w ((w.alloc (.cells #[.int .u8 c, .int .i64 v, .int .i64 n, .int .i64 t] 23)).alloc (.cells #[.int .u8 0, .int .i64 0, .int .i64 0, .int .i64 0] 23)) := ((Below.refl _ _).alloc (Nat.le_refl _) _).alloc (by simp) _
  have e1 : nt 2 t = 0 := by simp [nt]
  have e2 : nv c v 2 t = aft c 0 := by simp [nv, e1]
  have e3 : nn c n 2 t d = cnt c 0 d := by simp [nn, e1]
  have e4 : ng 2 t = false := by simp [ng]
  rw [e1, e2, e3, e4]
  clear e1 e2 e3 e4
  have h6 : t = 6 ∨ t ≤ 5 := by omega
  rcases h6 with rfl | h6
  · have h7 : True := trivial
    go_enter Tryd.func29, Tryd.ntmps29
    go_wp2_with fail
    refine (drawn_any _ _ _ _ ((hw.alloc _).alloc _) hc0 hc (by omega) (by omega) hd0 hd).mono ?_
    rintro e w1 ⟨rfl, hb⟩
    obtain ⟨c0, c1, c2, c3, f0, f1, f2, f3⟩ := Four.later (k := w.heap.size + 1) (x := .int .u8 0) (y := .int .i64 0) (z := .int .i64 0) (u := .int .i64 0) hb (by simp [Four])
    have hB := hB0.trans (hb.mono (by simp; omega))
    clear hB0 hb
    go_wp2_with fail
    exact bodyPost_ret (v := .tuple #[.agg #[.int .u8 c, .int .i64 (aft c 0), .int .i64 (cnt c 0 d), .int .i64 0], .bool false]) (by simp [results, Tryd.results29, go_sem, *]) rfl ⟨rfl, (by repeat (first | assumption | exact Below.refl _ _ | refine Below.setCell ?_ (by simp) _ | refine Below.alloc ?_ (Nat.le_refl _) _ | refine Below.alloc ?_ (by simp) _))⟩
  · have h6b : (t == 6) = false := by simp; omega
    go_enter Tryd.func29, Tryd.ntmps29
    go_wp2_with fail
    refine (drawn_any _ _ _ _ ((hw.alloc _).alloc _) hc0 hc (by omega) (by omega) hd0 hd).mono ?_
    rintro e w1 ⟨rfl, hb⟩
    obtain ⟨c0, c1, c2, c3, f0, f1, f2, f3⟩ := Four.later (k := w.heap.size + 1) (x := .int .u8 0) (y := .int .i64 0) (z := .int .i64 0) (u := .int .i64 0) hb (by simp [Four])
    have hB := hB0.trans (hb.mono (by simp; omega))
    clear hB0 hb
    go_wp2_with fail
    exact bodyPost_ret (v := .tuple #[.agg #[.int .u8 c, .int .i64 (aft c 0), .int .i64 (cnt c 0 d), .int .i64 0], .bool false]) (by simp [results, Tryd.results29, go_sem, *]) rfl ⟨rfl, (by repeat (first | assumption | exact Below.refl _ _ | refine Below.setCell ?_ (by simp) _ | refine Below.alloc ?_ (Nat.le_refl _) _ | refine Below.alloc ?_ (by simp) _))⟩
theorem step_3a (c v n t d : Int) (w : World) (hw : Win w) (hc0 : 0 ≤ c) (hc : c ≤ 3) (h0 : 0 ≤ t) (h : t ≤ 6) (hd0 : 0 ≤ d) (hd : d ≤ 1099511627776) (hn0 : 0 ≤ n) (hn : n ≤ 1023) (h5 : t ≤ 5) :
    Calls Tryd.prog 29 #[.agg #[.int .u8 c, .int .i64 v, .int .i64 n, .int .i64 t], .int .u8 3, .int .i64 d] w fun e w' => e = .returned (.tuple #[.agg #[.int .u8 c, .int .i64 (nv c v 3 t), .int .i64 (nn c n 3 t d), .int .i64 (nt 3 t)], .bool (ng 3 t)]) ∧ Below w.heap.size w w' := by
  have hB0 : Below w.heap.size w ((w.alloc (.cells #[.int .u8 c, .int .i64 v, .int .i64 n, .int .i64 t] 23)).alloc (.cells #[.int .u8 0, .int .i64 0, .int .i64 0, .int .i64 0] 23)) := ((Below.refl _ _).alloc (Nat.le_refl _) _).alloc (by simp) _
  have h6 : t ≠ 6 := by omega
  have e1 : nt 3 t = t + 1 := by simp [nt, h6]
  have e2 : nv c v 3 t = aft c (t + 1) := by simp [nv, e1]
  have e3 : nn c n 3 t d = cnt c (t + 1) d := by simp [nn, e1]
  have e4 : ng 3 t = false := by simp [ng, h6]
  rw [e1, e2, e3, e4]
  clear e1 e2 e3 e4
  have h6b : (t == 6) = false := by simp; omega
  clear h6
  go_enter Tryd.func29, Tryd.ntmps29
  go_wp2_with fail
  refine (drawn_any _ _ _ _ ((hw.alloc _).alloc _) hc0 hc (by omega) (by omega) hd0 hd).mono ?_
  rintro e w1 ⟨rfl, hb⟩
  obtain ⟨c0, c1, c2, c3, f0, f1, f2, f3⟩ := Four.later (k := w.heap.size + 1) (x := .int .u8 0) (y := .int .i64 0) (z := .int .i64 0) (u := .int .i64 0) hb (by simp [Four])
  have hB := hB0.trans (hb.mono (by simp; omega))
  clear hB0 hb
  go_wp2_with fail
  exact bodyPost_ret (v := .tuple #[.agg #[.int .u8 c, .int .i64 (aft c (t + 1)), .int .i64 (cnt c (t + 1) d), .int .i64 (t + 1)], .bool false]) (by simp [results, Tryd.results29, go_sem, *]) rfl ⟨rfl, (by repeat (first | assumption | exact Below.refl _ _ | refine Below.setCell ?_ (by simp) _ | refine Below.alloc ?_ (Nat.le_refl _) _ | refine Below.alloc ?_ (by simp) _))⟩
theorem step_3b (c v n t d : Int) (w : World) (hw : Win w) (hc0 : 0 ≤ c) (hc : c ≤ 3) (h0 : 0 ≤ t) (h : t ≤ 6) (hd0 : 0 ≤ d) (hd : d ≤ 1099511627776) (hn0 : 0 ≤ n) (hn : n ≤ 1023) (h6 : t = 6) :
    Calls Tryd.prog 29 #[.agg #[.int .u8 c, .int .i64 v, .int .i64 n, .int .i64 t], .int .u8 3, .int .i64 d] w fun e w' => e = .returned (.tuple #[.agg #[.int .u8 c, .int .i64 (nv c v 3 t), .int .i64 (nn c n 3 t d), .int .i64 (nt 3 t)], .bool (ng 3 t)]) ∧ Below w.heap.size w w' := by
  have hB0 : Below w.heap.size w ((w.alloc (.cells #[.int .u8 c, .int .i64 v, .int .i64 n, .int .i64 t] 23)).alloc (.cells #[.int .u8 0, .int .i64 0, .int .i64 0, .int .i64 0] 23)) := ((Below.refl _ _).alloc (Nat.le_refl _) _).alloc (by simp) _
  subst h6
  have e1 : nt 3 6 = 0 := by simp [nt]
  have e2 : nv c v 3 6 = aft c 0 := by simp [nv, e1]
  have e3 : nn c n 3 6 d = cnt c 0 d := by simp [nn, e1]
  have e4 : ng 3 6 = true := by simp [ng]
  rw [e1, e2, e3, e4]
  clear e1 e2 e3 e4
  go_enter Tryd.func29, Tryd.ntmps29
  go_wp2_with fail
  refine (drawn_any _ _ _ _ ((hw.alloc _).alloc _) hc0 hc (by omega) (by omega) hd0 hd).mono ?_
  rintro e w1 ⟨rfl, hb⟩
  obtain ⟨c0, c1, c2, c3, f0, f1, f2, f3⟩ := Four.later (k := w.heap.size + 1) (x := .int .u8 0) (y := .int .i64 0) (z := .int .i64 0) (u := .int .i64 0) hb (by simp [Four])
  have hB := hB0.trans (hb.mono (by simp; omega))
  clear hB0 hb
  go_wp2_with fail
  exact bodyPost_ret (v := .tuple #[.agg #[.int .u8 c, .int .i64 (aft c 0), .int .i64 (cnt c 0 d), .int .i64 0], .bool true]) (by simp [results, Tryd.results29, go_sem, *]) rfl ⟨rfl, (by repeat (first | assumption | exact Below.refl _ _ | refine Below.setCell ?_ (by simp) _ | refine Below.alloc ?_ (Nat.le_refl _) _ | refine Below.alloc ?_ (by simp) _))⟩
end Go.Proofs.YtdikdhjfcnocdaaDoor
