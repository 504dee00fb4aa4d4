/- Contracts of the functions of clocks that call the local time, and of their references. -/
import Derived.Test.YtpbpmabnmakdoaaA
import Derived.Test.YtpbpmabnmakdoaaQ
namespace Go.Proofs.Ytpbpmabnmakdoaa
open Go.RowKit
theorem bcell {W w1 : World} (hb : Below W.heap.size W w1) : (∀ b o, b < W.heap.size → w1.cell? ⟨b, o, none⟩ = W.cell? ⟨b, o, none⟩) ∧ (∀ b o, b < W.heap.size → w1.frozen? ⟨b, o, none⟩ = W.frozen? ⟨b, o, none⟩) :=
  ⟨fun b o h => hb.cell (p := ⟨b, o, none⟩) h, fun b o h => hb.frozen (p := ⟨b, o, none⟩) h⟩

theorem rtime_any (o p n : Int) (w : World) (hv : vck o p = true) (h0 : 0 ≤ n) (h1 : n ≤ 4398046511104) :
    Calls Try.prog 30 #[.agg #[.int .i64 o, .int .i64 p], .int .i64 n] w fun e w' => e = .returned (.int .i64 (ltime o p n)) ∧ Below w.heap.size w w' := by
  obtain ⟨a1, a2, a3, a4⟩ := vck_true hv
  obtain ⟨b1, b2⟩ := mul_bd (a := n) (b := p) (A := 4398046511104) (B := 100) (by omega) (by omega) (by omega) (by omega)
  have hw4 := IntWalk.wrap64_in (n * p) (by omega)
  obtain ⟨q3, q4⟩ := tdiv_floor (a := n * p) (show (0 : Int) < 1000000 by omega)
  have f1 := tdiv_facts (a := n * p) (show (0 : Int) < 1000000 by omega)
  have Q3 := Lib.hid q3; have Q4 := Lib.hid q4; clear q3 q4 hv
  have q1 : -4611686018427387904 ≤ (n * p).tdiv 1000000 * 1000000 := by omega
  have q2 : (n * p).tdiv 1000000 * 1000000 ≤ 4611686018427387904 := by omega
  clear f1
  by_cases hc : (n * p).tdiv 1000000 * 1000000 ≤ n * p
  · go_enter Try.func30, Try.ntmps30
    go_wp2_with fail
    go_ret
    exact ⟨by rw [ltime, ← Q3.out hc]; rfl, (Below.refl _ _).alloc (Nat.le_refl _) _⟩
  · go_enter Try.func30, Try.ntmps30
    go_wp2_with fail
    go_ret
    exact ⟨by rw [ltime, ← Q4.out hc]; rfl, (Below.refl _ _).alloc (Nat.le_refl _) _⟩
/-- the error of a clock at a time -/
def aske (o p n : Int) : Int := if vck o p then (if 0 ≤ n ∧ n ≤ 1099511627776 then 0 else 2) else 8
theorem asked_any (o p n : Int) (w : World) : Calls Try.prog 31 #[.agg #[.int .i64 o, .int .i64 p], .int .i64 n] w fun e w' => e = .returned (.int .i64 (aske o p n)) ∧ Below w.heap.size w w' := by
  cases hv : vck o p
  · have h8 : aske o p n = 8 := by simp [aske, hv]
    have hc : cke o p = 8 := by simp [cke, hv]
    have H8 := Lib.hid h8; clear h8
    go_enter Try.func31, Try.ntmps31
    go_wp2_with (go_at_call 19; refine (check_any _ _ _).mono ?_; rintro e w' ⟨rfl, hb⟩)
    go_ret
    exact ⟨by rw [H8.out]; rfl, ((Below.refl _ _).alloc (Nat.le_refl _) _).trans (hb.mono (by simp))⟩
  · have hc : cke o p = 0 := by simp [cke, hv]
    have hy : (0 ≤ n ∧ n ≤ 1099511627776) → aske o p n = 0 := fun h => by simp [aske, hv, h]
    have hn : ¬ (0 ≤ n ∧ n ≤ 1099511627776) → aske o p n = 2 := fun h => by simp only [aske, hv, if_true]; rw [if_neg h]
    have HY := Lib.hid hy; have HN := Lib.hid hn; clear hy hn
    go_enter Try.func31, Try.ntmps31
    go_wp2_with (go_at_call 19; refine (check_any _ _ _).mono ?_; rintro e w' ⟨rfl, hb⟩)
    all_goals
      go_ret
      refine ⟨?_, ((Below.refl _ _).alloc (Nat.le_refl _) _).trans (hb.mono (by simp))⟩
      first
        | rw [HY.out (by omega)]; rfl
        | rw [HN.out (by omega)]; rfl
theorem rasked_any (o p n : Int) (w : World) : Calls Try.prog 32 #[.agg #[.int .i64 o, .int .i64 p], .int .i64 n] w fun e w' => e = .returned (.int .i64 (aske o p n)) ∧ Below w.heap.size w w' := by
  cases hv : vck o p
  · have h8 : aske o p n = 8 := by simp [aske, hv]
    have hc : cke o p = 8 := by simp [cke, hv]
    have H8 := Lib.hid h8; clear h8
    go_enter Try.func32, Try.ntmps32
    go_wp2_with (go_at_call 20; refine (rcheck_any _ _ _).mono ?_; rintro e w' ⟨rfl, hb⟩)
    go_ret
    exact ⟨by rw [H8.out]; rfl, ((Below.refl _ _).alloc (Nat.le_refl _) _).trans (hb.mono (by simp))⟩
  · have hc : cke o p = 0 := by simp [cke, hv]
    have hy : (0 ≤ n ∧ n ≤ 1099511627776) → aske o p n = 0 := fun h => by simp [aske, hv, h]
    have hn : ¬ (0 ≤ n ∧ n ≤ 1099511627776) → aske o p n = 2 := fun h => by simp only [aske, hv, if_true]; rw [if_neg h]
    have HY := Lib.hid hy; have HN := Lib.hid hn; clear hy hn
    go_enter Try.func32, Try.ntmps32
    go_wp2_with (go_at_call 20; refine (rcheck_any _ _ _).mono ?_; rintro e w' ⟨rfl, hb⟩)
    all_goals
      go_ret
      refine ⟨?_, ((Below.refl _ _).alloc (Nat.le_refl _) _).trans (hb.mono (by simp))⟩
      first
        | rw [HY.out (by omega)]; rfl
        | rw [HN.out (by omega)]; rfl
theorem local_lo (o p n : Int) (hv : vck o p = true) (h0 : 0 ≤ n) (h1 : n ≤ 4398046511104) : -6000000000000 ≤ ltime o p n ∧ ltime o p n ≤ 6000000000000 := by
  obtain ⟨a1, a2, a3, a4⟩ := vck_true hv
  obtain ⟨b1, b2⟩ := mul_bd (a := n) (b := p) (A := 4398046511104) (B := 100) (by omega) (by omega) (by omega) (by omega)
  unfold ltime
  omega
/-- the offset after adopting -/
def newo (o p n s : Int) : Int := o + max (s - ltime o p n) 0
theorem adopt_stay (o p n s : Int) (w : World) (hv : vck o p = true) (h0 : 0 ≤ n) (h1 : n ≤ 1099511627776) (h2 : -8796093022208 ≤ s) (h3 : s ≤ 8796093022208) (hc : s < ltime o p n) :
    Calls Try.prog 28 #[.agg #[.int .i64 o, .int .i64 p], .int .i64 n, .int .i64 s] w fun e w' => e = .returned (.tuple #[.agg #[.int .i64 (o), .int .i64 (p)], .int .i64 0]) ∧ Below w.heap.size w w' := by
  have hk : cke o p = 0 := by simp [cke, hv]
  have hc2 : s - ltime o p n < 0 := by omega
  obtain ⟨l1, l2⟩ := local_lo o p n hv h0 (by omega)
  obtain ⟨a1, a2, a3, a4⟩ := vck_true hv
  have hw1 := IntWalk.i64_in (s - ltime o p n) (by omega)
  have hw2 := IntWalk.i64_in (o) (by omega)
  obtain ⟨W, hW⟩ : ∃ W, W = (w.alloc (.cells #[.int .i64 o, .int .i64 p] 33)).alloc (.cells #[.int .i64 0, .int .i64 0] 33) := ⟨_, rfl⟩
  have p0 := Past.cell (W := W) (b := w.heap.size) (o := 0) (x := .int .i64 o) (by rw [hW]; simp)
  have p1 := Past.cell (W := W) (b := w.heap.size) (o := 1) (x := .int .i64 p) (by rw [hW]; simp)
  have f0 := Past.frozen (W := W) (b := w.heap.size) (o := 0) (x := .int .i64 o) (by rw [hW]; simp) (z := false) (by rw [hW]; simp)
  have r0 := Past.cell (W := W) (b := w.heap.size + 1) (o := 0) (x := .int .i64 0) (by rw [hW]; simp)
  have r1 := Past.cell (W := W) (b := w.heap.size + 1) (o := 1) (x := .int .i64 0) (by rw [hW]; simp)
  have g0 := Past.frozen (W := W) (b := w.heap.size + 1) (o := 0) (x := .int .i64 0) (by rw [hW]; simp) (z := false) (by rw [hW]; simp)
  have g1 := Past.frozen (W := W) (b := w.heap.size + 1) (o := 1) (x := .int .i64 0) (by rw [hW]; simp) (z := false) (by rw [hW]; simp)
  have hB0 : Below w.heap.size w W := by rw [hW]; exact ((Below.refl _ _).alloc (Nat.le_refl _) _).alloc (by simp) _
  have hsz : w.heap.size ≤ W.heap.size := by rw [hW]; simp; omega
  have HW := Lib.hid hW
  go_enter Try.func28, Try.ntmps28
  go_wp2_with fail
  rw [← HW.out]
  clear hW
  refine wp_region_qt (C := fun w' => ∃ v : Past W, w' = v.w) 10 (by kernel_rfl) (by kernel_rfl) (by kernel_rfl) (Past.drew0 _) ?_
  simp only [List.take_succ_cons, List.take_zero, List.drop_succ_cons, List.drop_zero]
  repeat (quiet_step ((go_at_call 27; exact Past.call (fun w => local_any _ _ _ w hv h0 (by omega)) _)))
  refine wpQuiet_nil ?_
  intro _ hw'
  obtain ⟨v, hw''⟩ := hw'
  subst hw''
  go_wp2_with fail
  refine (check_any _ _ _).mono ?_
  rintro e w1 ⟨rfl, hb⟩
  have b0 := later hb (b := w.heap.size) (o := 0) (x := .int .i64 (o)) (by simp [go_sem, *])
  have b1 := later hb (b := w.heap.size) (o := 1) (x := .int .i64 p) (by simp [go_sem, p1])
  have b2 := later hb (b := w.heap.size + 1) (o := 0) (x := .int .i64 0) (by simp [go_sem, r0])
  have b3 := later hb (b := w.heap.size + 1) (o := 1) (x := .int .i64 0) (by simp [go_sem, r1])
  have b4 := laterF hb (b := w.heap.size + 1) (o := 0) (x := .int .i64 0) (by simp [go_sem, r0]) (z := false) (by simp [go_sem, g0])
  have b5 := laterF hb (b := w.heap.size + 1) (o := 1) (x := .int .i64 0) (by simp [go_sem, r1]) (z := false) (by simp [go_sem, g1])
  have hB1 : Below w.heap.size w w1 := (hB0.trans ((v.2.mono hsz).setCell (p := ⟨w.heap.size, 0, none⟩) (Nat.le_refl _) _)).trans (hb.mono (by have := v.2.size; simp [go_sem, Past.w] at *; omega))
  clear p0 p1 f0 r0 r1 g0 g1 HW
  go_wp2_with fail
  exact bodyPost_ret (v := .tuple #[.agg #[.int .i64 (o), .int .i64 (p)], .int .i64 0]) (by simp [results, Try.results28, go_sem, *]) rfl ⟨rfl, (hB1.setCell (p := ⟨w.heap.size + 1, 0, none⟩) (by simp) _).setCell (p := ⟨w.heap.size + 1, 1, none⟩) (by simp) _⟩
theorem adopt_yes (o p n s : Int) (w : World) (hv : vck o p = true) (h0 : 0 ≤ n) (h1 : n ≤ 1099511627776) (h2 : -8796093022208 ≤ s) (h3 : s ≤ 8796093022208) (hc : ltime o p n ≤ s) (hk : vck (o + (s - ltime o p n)) p = true) :
    Calls Try.prog 28 #[.agg #[.int .i64 o, .int .i64 p], .int .i64 n, .int .i64 s] w fun e w' => e = .returned (.tuple #[.agg #[.int .i64 (o + (s - ltime o p n)), .int .i64 (p)], .int .i64 0]) ∧ Below w.heap.size w w' := by
  have hck : cke (o + (s - ltime o p n)) p = 0 := by simp [cke, hk]
  obtain ⟨l1, l2⟩ := local_lo o p n hv h0 (by omega)
  obtain ⟨a1, a2, a3, a4⟩ := vck_true hv
  have hw1 := IntWalk.i64_in (s - ltime o p n) (by omega)
  have hw2 := IntWalk.i64_in (o + (s - ltime o p n)) (by omega)
  obtain ⟨W, hW⟩ : ∃ W, W = (w.alloc (.cells #[.int .i64 o, .int .i64 p] 33)).alloc (.cells #[.int .i64 0, .int .i64 0] 33) := ⟨_, rfl⟩
  have p0 := Past.cell (W := W) (b := w.heap.size) (o := 0) (x := .int .i64 o) (by rw [hW]; simp)
  have p1 := Past.cell (W := W) (b := w.heap.size) (o := 1) (x := .int .i64 p) (by rw [hW]; simp)
  have f0 := Past.frozen (W := W) (b := w.heap.size) (o := 0) (x := .int .i64 o) (by rw [hW]; simp) (z := false) (by rw [hW]; simp)
  have r0 := Past.cell (W := W) (b := w.heap.size + 1) (o := 0) (x := .int .i64 0) (by rw [hW]; simp)
  have r1 := Past.cell (W := W) (b := w.heap.size + 1) (o := 1) (x := .int .i64 0) (by rw [hW]; simp)
  have g0 := Past.frozen (W := W) (b := w.heap.size + 1) (o := 0) (x := .int .i64 0) (by rw [hW]; simp) (z := false) (by rw [hW]; simp)
  have g1 := Past.frozen (W := W) (b := w.heap.size + 1) (o := 1) (x := .int .i64 0) (by rw [hW]; simp) (z := false) (by rw [hW]; simp)
  have hB0 : Below w.heap.size w W := by rw [hW]; exact ((Below.refl _ _).alloc (Nat.le_refl _) _).alloc (by simp) _
  have hsz : w.heap.size ≤ W.heap.size := by rw [hW]; simp; omega
  have HW := Lib.hid hW
  go_enter Try.func28, Try.ntmps28
  go_wp2_with fail
  rw [← HW.out]
  clear hW
  refine wp_region_qt (C := fun w' => ∃ v : Past W, w' = v.w) 10 (by kernel_rfl) (by kernel_rfl) (by kernel_rfl) (Past.drew0 _) ?_
  simp only [List.take_succ_cons, List.take_zero, List.drop_succ_cons, List.drop_zero]
  repeat (quiet_step ((go_at_call 27; exact Past.call (fun w => local_any _ _ _ w hv h0 (by omega)) _)))
  refine wpQuiet_nil ?_
  intro _ hw'
  obtain ⟨v, hw''⟩ := hw'
  subst hw''
  go_wp2_with fail
  refine (check_any _ _ _).mono ?_
  rintro e w1 ⟨rfl, hb⟩
  have b0 := later hb (b := w.heap.size) (o := 0) (x := .int .i64 (o + (s - ltime o p n))) (by simp [go_sem, *])
  have b1 := later hb (b := w.heap.size) (o := 1) (x := .int .i64 p) (by simp [go_sem, p1])
  have b2 := later hb (b := w.heap.size + 1) (o := 0) (x := .int .i64 0) (by simp [go_sem, r0])
  have b3 := later hb (b := w.heap.size + 1) (o := 1) (x := .int .i64 0) (by simp [go_sem, r1])
  have b4 := laterF hb (b := w.heap.size + 1) (o := 0) (x := .int .i64 0) (by simp [go_sem, r0]) (z := false) (by simp [go_sem, g0])
  have b5 := laterF hb (b := w.heap.size + 1) (o := 1) (x := .int .i64 0) (by simp [go_sem, r1]) (z := false) (by simp [go_sem, g1])
  have hB1 : Below w.heap.size w w1 := (hB0.trans ((v.2.mono hsz).setCell (p := ⟨w.heap.size, 0, none⟩) (Nat.le_refl _) _)).trans (hb.mono (by have := v.2.size; simp [go_sem, Past.w] at *; omega))
  clear p0 p1 f0 r0 r1 g0 g1 HW
  go_wp2_with fail
  exact bodyPost_ret (v := .tuple #[.agg #[.int .i64 (o + (s - ltime o p n)), .int .i64 (p)], .int .i64 0]) (by simp [results, Try.results28, go_sem, *]) rfl ⟨rfl, (hB1.setCell (p := ⟨w.heap.size + 1, 0, none⟩) (by simp) _).setCell (p := ⟨w.heap.size + 1, 1, none⟩) (by simp) _⟩
theorem adopt_no (o p n s : Int) (w : World) (hv : vck o p = true) (h0 : 0 ≤ n) (h1 : n ≤ 1099511627776) (h2 : -8796093022208 ≤ s) (h3 : s ≤ 8796093022208) (hc : ltime o p n ≤ s) (hk : vck (o + (s - ltime o p n)) p = false) :
    Calls Try.prog 28 #[.agg #[.int .i64 o, .int .i64 p], .int .i64 n, .int .i64 s] w fun e w' => e = .returned (.tuple #[.agg #[.int .i64 (0), .int .i64 (0)], .int .i64 8]) ∧ Below w.heap.size w w' := by
  have hck : cke (o + (s - ltime o p n)) p = 8 := by simp [cke, hk]
  obtain ⟨l1, l2⟩ := local_lo o p n hv h0 (by omega)
  obtain ⟨a1, a2, a3, a4⟩ := vck_true hv
  have hw1 := IntWalk.i64_in (s - ltime o p n) (by omega)
  have hw2 := IntWalk.i64_in (o + (s - ltime o p n)) (by omega)
  obtain ⟨W, hW⟩ : ∃ W, W = (w.alloc (.cells #[.int .i64 o, .int .i64 p] 33)).alloc (.cells #[.int .i64 0, .int .i64 0] 33) := ⟨_, rfl⟩
  have p0 := Past.cell (W := W) (b := w.heap.size) (o := 0) (x := .int .i64 o) (by rw [hW]; simp)
  have p1 := Past.cell (W := W) (b := w.heap.size) (o := 1) (x := .int .i64 p) (by rw [hW]; simp)
  have f0 := Past.frozen (W := W) (b := w.heap.size) (o := 0) (x := .int .i64 o) (by rw [hW]; simp) (z := false) (by rw [hW]; simp)
  have r0 := Past.cell (W := W) (b := w.heap.size + 1) (o := 0) (x := .int .i64 0) (by rw [hW]; simp)
  have r1 := Past.cell (W := W) (b := w.heap.size + 1) (o := 1) (x := .int .i64 0) (by rw [hW]; simp)
  have g0 := Past.frozen (W := W) (b := w.heap.size + 1) (o := 0) (x := .int .i64 0) (by rw [hW]; simp) (z := false) (by rw [hW]; simp)
  have g1 := Past.frozen (W := W) (b := w.heap.size + 1) (o := 1) (x := .int .i64 0) (by rw [hW]; simp) (z := false) (by rw [hW]; simp)
  have hB0 : Below w.heap.size w W := by rw [hW]; exact ((Below.refl _ _).alloc (Nat.le_refl _) _).alloc (by simp) _
  have hsz : w.heap.size ≤ W.heap.size := by rw [hW]; simp; omega
  have HW := Lib.hid hW
  go_enter Try.func28, Try.ntmps28
  go_wp2_with fail
  rw [← HW.out]
  clear hW
  refine wp_region_qt (C := fun w' => ∃ v : Past W, w' = v.w) 10 (by kernel_rfl) (by kernel_rfl) (by kernel_rfl) (Past.drew0 _) ?_
  simp only [List.take_succ_cons, List.take_zero, List.drop_succ_cons, List.drop_zero]
  repeat (quiet_step ((go_at_call 27; exact Past.call (fun w => local_any _ _ _ w hv h0 (by omega)) _)))
  refine wpQuiet_nil ?_
  intro _ hw'
  obtain ⟨v, hw''⟩ := hw'
  subst hw''
  go_wp2_with fail
  refine (check_any _ _ _).mono ?_
  rintro e w1 ⟨rfl, hb⟩
  have b0 := later hb (b := w.heap.size) (o := 0) (x := .int .i64 (o + (s - ltime o p n))) (by simp [go_sem, *])
  have b1 := later hb (b := w.heap.size) (o := 1) (x := .int .i64 p) (by simp [go_sem, p1])
  have b2 := later hb (b := w.heap.size + 1) (o := 0) (x := .int .i64 0) (by simp [go_sem, r0])
  have b3 := later hb (b := w.heap.size + 1) (o := 1) (x := .int .i64 0) (by simp [go_sem, r1])
  have b4 := laterF hb (b := w.heap.size + 1) (o := 0) (x := .int .i64 0) (by simp [go_sem, r0]) (z := false) (by simp [go_sem, g0])
  have b5 := laterF hb (b := w.heap.size + 1) (o := 1) (x := .int .i64 0) (by simp [go_sem, r1]) (z := false) (by simp [go_sem, g1])
  have hB1 : Below w.heap.size w w1 := (hB0.trans ((v.2.mono hsz).setCell (p := ⟨w.heap.size, 0, none⟩) (Nat.le_refl _) _)).trans (hb.mono (by have := v.2.size; simp [go_sem, Past.w] at *; omega))
  clear p0 p1 f0 r0 r1 g0 g1 HW
  go_wp2_with fail
  exact bodyPost_ret (v := .tuple #[.agg #[.int .i64 (0), .int .i64 (0)], .int .i64 8]) (by simp [results, Try.results28, go_sem, *]) rfl ⟨rfl, (hB1.setCell (p := ⟨w.heap.size + 1, 0, none⟩) (by simp) _).setCell (p := ⟨w.heap.size + 1, 1, none⟩) (by simp) _⟩
end Go.Proofs.Ytpbpmabnmakdoaa
