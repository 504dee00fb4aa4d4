/- Contracts of Window, Check, drawn, New and their references. Each holds for every input of its kind. -/
import Derived.Test.YtdikdhjfcnocdaaDoorA
namespace Go.Proofs.YtdikdhjfcnocdaaDoor
open Go.RowKit
/-- block k holds four values at its head, and they may be written -/
def Four (w : World) (k : Nat) (x y z u : Value) : Prop := w.cell? ⟨k, 0, none⟩ = some x ∧ w.cell? ⟨k, 1, none⟩ = some y ∧ w.cell? ⟨k, 2, none⟩ = some z ∧ w.cell? ⟨k, 3, none⟩ = some u ∧
  w.frozen? ⟨k, 0, none⟩ = false ∧ w.frozen? ⟨k, 1, none⟩ = false ∧ w.frozen? ⟨k, 2, none⟩ = false ∧ w.frozen? ⟨k, 3, none⟩ = false
theorem Four.later {W W' : World} {k : Nat} {x y z u : Value} (hb : Below W.heap.size W W') (h : Four W k x y z u) : Four W' k x y z u := by
  obtain ⟨h1, h2, h3, h4, h5, h6, h7, h8⟩ := h
  exact ⟨Go.Proofs.YtdikdhjfcnocdaaDoor.later hb h1, Go.Proofs.YtdikdhjfcnocdaaDoor.later hb h2, Go.Proofs.YtdikdhjfcnocdaaDoor.later hb h3, Go.Proofs.YtdikdhjfcnocdaaDoor.later hb h4, laterF hb h1 h5, laterF hb h2 h6, laterF hb h3 h7, laterF hb h4 h8⟩
theorem Four.lt {w : World} {k : Nat} {x y z u : Value} (h : Four w k x y z u) : k < w.heap.size := World.block_lt_of_cell? w _ h.1
/-- what Window answers -/
def wndOk (c f : Int) : Bool := decide (c ≤ 3) && decide (0 ≤ f) && decide (f ≤ 6)
def wnde (c f : Int) : Int := if wndOk c f then 0 else 2
def wnd (c f : Int) : Int := if wndOk c f then aft c f else 0
theorem wndOk_true {c f : Int} (h : wndOk c f = true) : c ≤ 3 ∧ 0 ≤ f ∧ f ≤ 6 := by simp [wndOk] at h; omega
theorem wndOk_false {c f : Int} (h : wndOk c f = false) : 3 < c ∨ f < 0 ∨ 6 < f := by
  rcases Int.lt_or_le 3 c with h1 | h1
  · exact .inl h1
  · rcases Int.lt_or_le f 0 with h2 | h2
    · exact .inr (.inl h2)
    · rcases Int.lt_or_le 6 f with h3 | h3
      · exact .inr (.inr h3)
      · simp [wndOk, h1, h2, h3] at h
theorem Win.alloc {w : World} (h : Win w) (o : Obj) : Win (w.alloc o) := h.later ((Below.refl _ _).alloc (Nat.le_refl _) _)
theorem Window_any (c f : Int) (w : World) (hw : Win w) (hc0 : 0 ≤ c) (hc1 : c ≤ 255) :
    Calls Tryd.prog 11 #[.int .u8 c, .int .i64 f] w fun e w' => e = .returned (.tuple #[.int .i64 (wnd c f), .int .i64 (wnde c f)]) ∧ Below w.heap.size w w' := by
  cases hk : wndOk c f
  · have e1 : wnd c f = 0 := by simp [wnd, hk]
    have e2 : wnde c f = 2 := by simp [wnde, hk]
    rw [e1, e2]
    clear e1 e2
    by_cases h1 : 3 < c
    · clear hk
      go_enter Tryd.func11, Tryd.ntmps11
      go_wp2_with fail
      go_ret2
      exact ⟨rfl, Below.refl _ _⟩
    · by_cases h2 : f < 0
      · clear hk
        go_enter Tryd.func11, Tryd.ntmps11
        go_wp2_with fail
        go_ret2
        exact ⟨rfl, Below.refl _ _⟩
      · have h3 : 6 < f := by have := wndOk_false hk; omega
        clear hk
        go_enter Tryd.func11, Tryd.ntmps11
        go_wp2_with fail
        go_ret2
        exact ⟨rfl, Below.refl _ _⟩
  · have e1 : wnd c f = aft c f := by simp [wnd, hk]
    have e2 : wnde c f = 0 := by simp [wnde, hk]
    rw [e1, e2]
    obtain ⟨h1, h2, h3⟩ := wndOk_true hk
    clear e1 e2 hk
    go_enter Tryd.func11, Tryd.ntmps11
    go_wp2_with fail
    refine (after_any _ _ _ hw hc0 h1 h2 h3).mono ?_
    rintro e w1 ⟨rfl, hb⟩
    go_wp2_with fail
    go_ret2
    exact ⟨rfl, hb⟩
/-- what Check answers -/
def bOk (c v n t : Int) : Bool := wndOk c t && decide (v = aft c t) && decide (0 ≤ n) && decide (n ≤ aft c t)
def bke (c v n t : Int) : Int := if bOk c v n t then 0 else 8
theorem bOk_true {c v n t : Int} (h : bOk c v n t = true) : c ≤ 3 ∧ 0 ≤ t ∧ t ≤ 6 ∧ v = aft c t ∧ 0 ≤ n ∧ n ≤ aft c t := by
  simp only [bOk, Bool.and_eq_true, decide_eq_true_eq] at h
  obtain ⟨⟨⟨h1, h2⟩, h3⟩, h4⟩ := h
  obtain ⟨h5, h6, h7⟩ := wndOk_true h1
  exact ⟨h5, h6, h7, h2, h3, h4⟩
theorem Check_any (c v n t : Int) (w : World) (hw : Win w) (hc0 : 0 ≤ c) (hc1 : c ≤ 255) :
    Calls Tryd.prog 17 #[.agg #[.int .u8 c, .int .i64 v, .int .i64 n, .int .i64 t]] w fun e w' => e = .returned (.int .i64 (bke c v n t)) ∧ Below w.heap.size w w' := by
  have hB0 : Below w.heap.size w (w.alloc (.cells #[.int .u8 c, .int .i64 v, .int .i64 n, .int .i64 t] 23)) := (Below.refl _ _).alloc (Nat.le_refl _) _
  have no : bOk c v n t = false → bke c v n t = 8 := fun h => by simp [bke, h]
  have yes : bOk c v n t = true → bke c v n t = 0 := fun h => by simp [bke, h]
  have NO := Lib.hid no
  have YES := Lib.hid yes
  clear no yes
  cases hk : wndOk c t
  · have he : wnde c t = 2 := by simp [wnde, hk]
    have hf : bOk c v n t = false := by simp [bOk, hk]
    rw [NO.out hf]
    clear hf hk
    go_enter Tryd.func17, Tryd.ntmps17
    go_wp2_with fail
    refine (Window_any _ _ _ (hw.alloc _) hc0 hc1).mono ?_
    rintro e w1 ⟨rfl, hb⟩
    have hB := hB0.trans (hb.mono hB0.size)
    clear hB0 hb
    go_wp2_with fail
    go_ret
    exact ⟨rfl, hB⟩
  · have he : wnde c t = 0 := by simp [wnde, hk]
    have hv : wnd c t = aft c t := by simp [wnd, hk]
    by_cases h1 : v = aft c t
    · subst h1
      have h1b : (aft c t != aft c t) = false := by simp
      by_cases h2 : 0 ≤ n
      · by_cases h3 : n ≤ aft c t
        · have hf : bOk c (aft c t) n t = true := by simp [bOk, hk, h2, h3]
          rw [YES.out hf]
          clear hf hk
          go_enter Tryd.func17, Tryd.ntmps17
          go_wp2_with fail
          refine (Window_any _ _ _ (hw.alloc _) hc0 hc1).mono ?_
          rintro e w1 ⟨rfl, hb⟩
          obtain ⟨c0, c1, c2, c3, _, _, _, _⟩ := Four.later (k := w.heap.size) (x := .int .u8 c) (y := .int .i64 (aft c t)) (z := .int .i64 n) (u := .int .i64 t) hb (by simp [Four])
          have hB := hB0.trans (hb.mono hB0.size)
          clear hB0 hb
          go_wp2_with fail
          go_ret
          exact ⟨rfl, hB⟩
        · have hf : bOk c (aft c t) n t = false := by simp [bOk, h3]
          rw [NO.out hf]
          clear hf hk
          go_enter Tryd.func17, Tryd.ntmps17
          go_wp2_with fail
          refine (Window_any _ _ _ (hw.alloc _) hc0 hc1).mono ?_
          rintro e w1 ⟨rfl, hb⟩
          obtain ⟨c0, c1, c2, c3, _, _, _, _⟩ := Four.later (k := w.heap.size) (x := .int .u8 c) (y := .int .i64 (aft c t)) (z := .int .i64 n) (u := .int .i64 t) hb (by simp [Four])
          have hB := hB0.trans (hb.mono hB0.size)
          clear hB0 hb
          go_wp2_with fail
          go_ret
          exact ⟨rfl, hB⟩
      · have hf : bOk c (aft c t) n t = false := by simp [bOk, h2]
        rw [NO.out hf]
        clear hf hk
        go_enter Tryd.func17, Tryd.ntmps17
        go_wp2_with fail
        refine (Window_any _ _ _ (hw.alloc _) hc0 hc1).mono ?_
        rintro e w1 ⟨rfl, hb⟩
        obtain ⟨c0, c1, c2, c3, _, _, _, _⟩ := Four.later (k := w.heap.size) (x := .int .u8 c) (y := .int .i64 (aft c t)) (z := .int .i64 n) (u := .int .i64 t) hb (by simp [Four])
        have hB := hB0.trans (hb.mono hB0.size)
        clear hB0 hb
        go_wp2_with fail
        go_ret
        exact ⟨rfl, hB⟩
    · have hf : bOk c v n t = false := by simp [bOk, h1]
      have h2 : (v != aft c t) = true := by simp; omega
      rw [NO.out hf]
      clear hf hk
      go_enter Tryd.func17, Tryd.ntmps17
      go_wp2_with fail
      refine (Window_any _ _ _ (hw.alloc _) hc0 hc1).mono ?_
      rintro e w1 ⟨rfl, hb⟩
      obtain ⟨c0, c1, c2, c3, _, _, _, _⟩ := Four.later (k := w.heap.size) (x := .int .u8 c) (y := .int .i64 v) (z := .int .i64 n) (u := .int .i64 t) hb (by simp [Four])
      have hB := hB0.trans (hb.mono hB0.size)
      clear hB0 hb
      go_wp2_with fail
      go_ret
      exact ⟨rfl, hB⟩
/-- is a draw in range? -/
def drw (d : Int) : Bool := decide (0 ≤ d) && decide (d ≤ 1099511627776)
theorem drw_true {d : Int} (h : drw d = true) : 0 ≤ d ∧ d ≤ 1099511627776 := by simpa [drw] using h
theorem ret_bool {a b : Bool} (h : a = b) : Ending.returned (.bool a) = .returned (.bool b) := by rw [h]
theorem odd_any (d : Int) (w : World) : Calls Tryd.prog 25 #[.int .i64 d] w fun e w' => e = .returned (.bool (!drw d)) ∧ w = w' := by
  by_cases h0 : 0 ≤ d
  · by_cases h1 : d ≤ 1099511627776
    · have hd : drw d = true := by simp [drw, h0, h1]
      rw [hd]
      clear hd
      go_enter Tryd.func25, Tryd.ntmps25
      go_wp2
      go_ret
      exact ⟨ret_bool (by simp <;> omega), rfl⟩
    · have hd : drw d = false := by simp [drw, h1]
      have h2 : 1099511627776 < d := by omega
      rw [hd]
      clear hd h1
      go_enter Tryd.func25, Tryd.ntmps25
      go_wp2
      go_ret
      exact ⟨ret_bool (by simp <;> omega), rfl⟩
  · have hd : drw d = false := by simp [drw, h0]
    have h2 : d < 0 := by omega
    rw [hd]
    clear hd h0
    go_enter Tryd.func25, Tryd.ntmps25
    go_wp2
    go_ret
    exact ⟨rfl, rfl⟩
theorem Fits_any (d : Int) (w : World) : Calls Tryd.prog 27 #[.int .i64 d] w fun e w' => e = .returned (.bool (drw d)) ∧ w = w' := by
  by_cases h0 : 0 ≤ d
  · by_cases h1 : d ≤ 1099511627776
    · have hd : drw d = true := by simp [drw, h0, h1]
      rw [hd]
      clear hd
      go_enter Tryd.func27, Tryd.ntmps27
      go_wp2
      go_ret
      exact ⟨ret_bool (by simp <;> omega), rfl⟩
    · have hd : drw d = false := by simp [drw, h1]
      have h2 : 1099511627776 < d := by omega
      rw [hd]
      clear hd h1
      go_enter Tryd.func27, Tryd.ntmps27
      go_wp2
      go_ret
      exact ⟨ret_bool (by simp <;> omega), rfl⟩
  · have hd : drw d = false := by simp [drw, h0]
    have h2 : d < 0 := by omega
    rw [hd]
    clear hd h0
    go_enter Tryd.func27, Tryd.ntmps27
    go_wp2
    go_ret
    exact ⟨rfl, rfl⟩
/-- the count drawn -/
def cnt (c f d : Int) : Int := d % (aft c f + 1)
theorem drawn_any (c f d : Int) (w : World) (hw : Win w) (hc0 : 0 ≤ c) (hc : c ≤ 3) (h0 : 0 ≤ f) (h : f ≤ 6) (hd0 : 0 ≤ d) (hd : d ≤ 1099511627776) :
    Calls Tryd.prog 26 #[.int .u8 c, .int .i64 f, .int .i64 d] w fun e w' => e = .returned (.agg #[.int .u8 c, .int .i64 (aft c f), .int .i64 (cnt c f d), .int .i64 f]) ∧ Below w.heap.size w w' := by
  have hB0 : Below w.heap.size w (w.alloc (.cells #[.int .u8 0, .int .i64 0, .int .i64 0, .int .i64 0] 23)) := (Below.refl _ _).alloc (Nat.le_refl _) _
  obtain ⟨a1, a2⟩ := aft_bd c f h0 h
  have ec : cnt c f d = d % (aft c f + 1) := rfl
  have EC := Lib.hid ec
  clear ec
  go_enter Tryd.func26, Tryd.ntmps26
  go_wp2_with fail
  refine (after_any _ _ _ (hw.alloc _) hc0 hc h0 h).mono ?_
  rintro e w1 ⟨rfl, hb⟩
  obtain ⟨c0, c1, c2, c3, f0, f1, f2, f3⟩ := Four.later (k := w.heap.size) (x := .int .u8 0) (y := .int .i64 0) (z := .int .i64 0) (u := .int .i64 0) hb (by simp [Four])
  have hB := hB0.trans (hb.mono hB0.size)
  clear hB0 hb
  go_wp2_with fail
  rw [EC.out]
  exact bodyPost_ret (v := .agg #[.int .u8 c, .int .i64 (aft c f), .int .i64 (d % (aft c f + 1)), .int .i64 f]) (by simp [results, Tryd.results26, go_sem, *]) rfl ⟨rfl, (((hB.setCell (p := ⟨w.heap.size, 0, none⟩) (Nat.le_refl _) _).setCell (p := ⟨w.heap.size, 1, none⟩) (Nat.le_refl _) _).setCell (p := ⟨w.heap.size, 2, none⟩) (Nat.le_refl _) _).setCell (p := ⟨w.heap.size, 3, none⟩) (Nat.le_refl _) _⟩
end Go.Proofs.YtdikdhjfcnocdaaDoor
