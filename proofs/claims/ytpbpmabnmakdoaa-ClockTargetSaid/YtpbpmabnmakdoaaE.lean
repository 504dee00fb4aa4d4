/- Contracts of Target and its reference. Each holds for every input. -/
import Derived.Test.YtpbpmabnmakdoaaD
import Derived.Test.YtpbpmabnmakdoaaS
namespace Go.Proofs.Ytpbpmabnmakdoaa
open Go.RowKit
theorem ltime_succ (o p n : Int) (hp : -100 ≤ p) : ltime o p n ≤ ltime o p (n + 1) := by
  unfold ltime
  have h1 : (n + 1) * p = n * p + p := by rw [Int.add_mul, Int.one_mul]
  rw [h1]
  omega
theorem ltime_mono (o p n : Int) (hp : -100 ≤ p) (k : Nat) : ltime o p n ≤ ltime o p (n + k) := by
  induction k with
  | zero => simp
  | succ k ih => exact Int.le_trans ih (by have := ltime_succ o p (n + k) hp; simpa [Int.add_assoc] using this)
theorem ltime_le (o p m n : Int) (hp : -100 ≤ p) (h : m ≤ n) : ltime o p m ≤ ltime o p n := by
  have := ltime_mono o p m hp (n - m).toNat
  rwa [show m + ((n - m).toNat : Int) = n by omega] at this
/-- the next target: the least multiple of the step that is at least L -/
def ceilm (L step : Int) : Int := -(-L / step) * step
theorem ceilm_bd (L step : Int) (h : 0 < step) : L ≤ ceilm L step ∧ ceilm L step < L + step := by
  unfold ceilm
  have h1 := Int.mul_ediv_add_emod (-L) step
  have h2 := Int.emod_nonneg (-L) (show step ≠ 0 by omega)
  have h3 := Int.emod_lt_of_pos (-L) h
  rw [Int.mul_comm] at h1
  rw [Int.neg_mul]
  omega
/-- has the clock reached the stamp after d? -/
def reached (o p n s : Int) (d : Int) : Bool := decide (s ≤ ltime o p (n + d))
theorem target1_any (o p n s d : Int) (b : Nat) (w : World) (hv : vck o p = true) (h0 : 0 ≤ n) (h1 : n ≤ 1099511627776) (h2 : 0 ≤ d) (h3 : d ≤ 1099511627776)
    (c0 : w.cell? ⟨b, 0, none⟩ = some (.int .i64 o)) (c1 : w.cell? ⟨b, 1, none⟩ = some (.int .i64 p)) (c2 : w.cell? ⟨b + 1, 0, none⟩ = some (.int .i64 n)) (c3 : w.cell? ⟨b + 2, 0, none⟩ = some (.int .i64 s)) :
    Calls Try.prog 35 #[.int .i64 d, .pointer (some ⟨b, 0, none⟩), .pointer (some ⟨b + 1, 0, none⟩), .pointer (some ⟨b + 2, 0, none⟩)] w fun e w' => e = .returned (.bool (reached o p n s d)) ∧ Below w.heap.size w w' := by
  have p0 := Past.cell c0
  have p1 := Past.cell c1
  have p2 := Past.cell c2
  have p3 := Past.cell c3
  have hw := IntWalk.i64_in (n + d) (by omega)
  go_enter Try.func35, Try.ntmps35
  go_wp2_with fail
  refine wp_region_quiet (C := fun w' => ∃ v : Past w, w' = v.w) (by kernel_rfl) (by kernel_rfl) (Past.drew0 _) ?_
  repeat (quiet_step ((go_at_call 27; exact Past.call (fun w => local_any _ _ _ w hv (by omega) (by omega)) _)))
  refine wpQuiet_nil ?_
  intro _ hw'
  obtain ⟨v, hw''⟩ := hw'
  subst hw''
  go_wp2_with fail
  go_ret
  exact ⟨rfl, v.2⟩
theorem enters35 : Enters 35 := fun args w => by kernel_rfl
/-- what Target answers -/
def Terr (o p n u : Int) : Int := if aske o p n = 0 then (if 1 ≤ u ∧ u ≤ 65535 then 0 else 2) else aske o p n
def Tstamp (o p n u : Int) : Int := if Terr o p n u = 0 then ceilm (ltime o p n) (u * 1024) else 0
def Tat (o p n u : Int) : Int := if Terr o p n u = 0 then n + lst (reached o p n (ceilm (ltime o p n) (u * 1024))) (2 * (u * 1024)).toNat else 0
theorem target_ok (o p n u : Int) (w : World) (ha : aske o p n = 0) (hu : 1 ≤ u) (hu' : u ≤ 65535) :
    Calls Try.prog 17 #[.agg #[.int .i64 o, .int .i64 p], .int .i64 n, .int .i64 u] w fun e w' => e = .returned (.tuple #[.int .i64 (n + lst (reached o p n (ceilm (ltime o p n) (u * 1024))) (2 * (u * 1024)).toNat), .int .i64 (ceilm (ltime o p n) (u * 1024)), .int .i64 0]) ∧ Below w.heap.size w w' := by
  obtain ⟨hv, h0, h1⟩ := aske_zero ha
  obtain ⟨l1, l2⟩ := local_lo o p n hv h0 (by omega)
  obtain ⟨m1, m2⟩ := ceilm_bd (ltime o p n) (u * 1024) (by omega)
  have hce : ceilm (ltime o p n) (u * 1024) = -(-ltime o p n / (u * 1024)) * (u * 1024) := rfl
  have HCE := Lib.hid hce
  have hw1 : RowKit.wrap64 (-(-ltime o p n / (u * 1024)) * (u * 1024)) = ceilm (ltime o p n) (u * 1024) := by rw [← hce]; exact IntWalk.wrap64_in _ (by omega)
  have hd1 := tdiv_bd (a := -ltime o p n) (b := u * 1024) (by omega)
  have hd2 : -7000000000000 ≤ -ltime o p n / (u * 1024) := Int.le_ediv_of_mul_le (by omega) (by omega)
  have hd3 : -ltime o p n / (u * 1024) ≤ 7000000000000 := Int.ediv_le_of_le_mul (by omega) (by omega)
  clear hd1 hce
  have hB0 : Below w.heap.size w (((w.alloc (.cells #[.int .i64 o, .int .i64 p] 33)).alloc (.cells #[.int .i64 n] 3)).alloc (.cells #[.int .i64 0] 3)) := (((Below.refl _ _).alloc (Nat.le_refl _) _).alloc (by simp) _).alloc (by simp; omega) _
  go_enter Try.func17, Try.ntmps17
  go_wp2_with fail
  refine (asked_any _ _ _ _).mono ?_
  rintro e w1 ⟨rfl, hb⟩
  have c0 := later hb (b := w.heap.size) (o := 0) (x := .int .i64 o) (by simp [go_sem])
  have c1 := later hb (b := w.heap.size) (o := 1) (x := .int .i64 p) (by simp [go_sem])
  have c2 := later hb (b := w.heap.size + 1) (o := 0) (x := .int .i64 n) (by simp [go_sem])
  have c3 := later hb (b := w.heap.size + 2) (o := 0) (x := .int .i64 0) (by simp [go_sem])
  have c4 := laterF hb (b := w.heap.size + 2) (o := 0) (x := .int .i64 0) (by simp [go_sem]) (z := false) (by simp [go_sem])
  have hB := hB0.trans (hb.mono (by simp; omega))
  clear hB0 hb
  go_wp2_with fail
  refine (local_any _ _ _ _ hv h0 (by omega)).mono ?_
  rintro e w2 ⟨rfl, hb⟩
  have d0 := later hb c0
  have d1 := later hb c1
  have d2 := later hb c2
  have d3 := later hb c3
  have d4 := laterF hb c3 c4
  have hB2 := hB.trans (hb.mono hB.size)
  clear hB hb c0 c1 c2 c3 c4
  go_wp2_with fail
  refine (floor_any _ _ _ (by omega) (by omega) (by omega) (by omega)).mono ?_
  rintro e w3 ⟨rfl, rfl⟩
  go_wp2_with fail
  have s0 : ∃ W, W = w2.setCell { block := w.heap.size + 1 + 1, off := 0 } (Value.int IntKind.i64 (ceilm (ltime o p n) (u * 1024))) := ⟨_, rfl⟩
  obtain ⟨W, hW⟩ := s0
  have e0 : W.cell? ⟨w.heap.size, 0, none⟩ = some (.int .i64 o) := by rw [hW]; simp [go_sem, d0]
  have e1 : W.cell? ⟨w.heap.size, 1, none⟩ = some (.int .i64 p) := by rw [hW]; simp [go_sem, d1]
  have e2 : W.cell? ⟨w.heap.size + 1, 0, none⟩ = some (.int .i64 n) := by rw [hW]; simp [go_sem, d2]
  have e3 : W.cell? ⟨w.heap.size + 1 + 1, 0, none⟩ = some (.int .i64 (ceilm (ltime o p n) (u * 1024))) := by rw [hW]; simp [go_sem, d3]
  have e4 : W.frozen? ⟨w.heap.size + 1 + 1, 0, none⟩ = false := by rw [hW]; simp [go_sem, d4]
  have hB3 : Below w.heap.size w W := by rw [hW]; exact hB2.setCell (p := ⟨w.heap.size + 1 + 1, 0, none⟩) (by simp; omega) _
  rw [← hW]
  clear hW d0 d1 d2 d3 d4 hB2 w2 w1
  refine (search_int _ (by omega) (by omega) 35 _ (reached o p n (ceilm (ltime o p n) (u * 1024))) _ enters35 ?_ ?_).mono ?_
  · intro i w' hi hj hbw
    exact target1_any o p n _ i _ _ hv h0 h1 hi (by omega) (later hbw e0) (later hbw e1) (later hbw e2) (later hbw e3)
  · intro i j h2 h3 h4 h5
    unfold reached at *
    simp only [decide_eq_true_eq] at *
    have := ltime_le o p (n + i) (n + j) (by have := vck_true hv; omega) (by omega)
    omega
  rintro e w3 ⟨rfl, hb⟩
  have d0 := later hb e2
  have d1 := later hb e3
  have d2 := laterF hb e3 e4
  have hB4 := hB3.trans (hb.mono hB3.size)
  clear e0 e1 e2 e3 e4 hB3 hb
  have p0 := Past.cell d0
  have p1 := Past.cell d1
  have p2 := Past.frozen d1 d2
  have hl := (lst_spec (reached o p n (ceilm (ltime o p n) (u * 1024))) (2 * (u * 1024)).toNat).1
  have hw2 := IntWalk.i64_in (n + lst (reached o p n (ceilm (ltime o p n) (u * 1024))) (2 * (u * 1024)).toNat) (by omega)
  clear d0 d1 d2 hl
  go_wp2_with fail
  refine wp_region_qt (C := fun w' => ∃ v : Past w3, w' = v.w) 5 (by kernel_rfl) (by kernel_rfl) (by kernel_rfl) (Past.drew0 _) ?_
  simp only [List.take_succ_cons, List.take_zero, List.drop_succ_cons, List.drop_zero]
  repeat (quiet_step (fail))
  refine wpQuiet_nil ?_
  intro _ hw'
  obtain ⟨v, hw''⟩ := hw'
  subst hw''
  go_wp2_with fail
  exact bodyPost_ret (v := .tuple #[.int .i64 (n + lst (reached o p n (ceilm (ltime o p n) (u * 1024))) (2 * (u * 1024)).toNat), .int .i64 (ceilm (ltime o p n) (u * 1024)), .int .i64 0]) (by simp [results, Try.results17, go_sem, *]) rfl ⟨rfl, (hB4.trans (v.2.mono hB4.size)).setCell (p := ⟨w.heap.size + 1 + 1, 0, none⟩) (by simp; omega) _⟩
theorem Target_any (o p n u : Int) (w : World) :
    Calls Try.prog 17 #[.agg #[.int .i64 o, .int .i64 p], .int .i64 n, .int .i64 u] w fun e w' => e = .returned (.tuple #[.int .i64 (Tat o p n u), .int .i64 (Tstamp o p n u), .int .i64 (Terr o p n u)]) ∧ Below w.heap.size w w' := by
  by_cases ha : aske o p n = 0
  · by_cases hu : 1 ≤ u ∧ u ≤ 65535
    · have e : Terr o p n u = 0 := by unfold Terr; rw [if_pos ha, if_pos hu]
      have e1 : Tstamp o p n u = ceilm (ltime o p n) (u * 1024) := if_pos e
      have e2 : Tat o p n u = n + lst (reached o p n (ceilm (ltime o p n) (u * 1024))) (2 * (u * 1024)).toNat := if_pos e
      rw [e, e1, e2]
      exact target_ok o p n u w ha hu.1 hu.2
    · have e : Terr o p n u = 2 := by unfold Terr; rw [if_pos ha, if_neg hu]
      have e1 : Tstamp o p n u = 0 := by unfold Tstamp; rw [e]; rfl
      have e2 : Tat o p n u = 0 := by unfold Tat; rw [e]; rfl
      rw [e, e1, e2]
      clear e e1 e2
      have hB0 : Below w.heap.size w (((w.alloc (.cells #[.int .i64 o, .int .i64 p] 33)).alloc (.cells #[.int .i64 n] 3)).alloc (.cells #[.int .i64 0] 3)) := (((Below.refl _ _).alloc (Nat.le_refl _) _).alloc (by simp) _).alloc (by simp; omega) _
      rcases (show u < 1 ∨ 65535 < u by omega) with h3 | h3
      all_goals
        clear hu
        go_enter Try.func17, Try.ntmps17
        go_wp2_with fail
        refine (asked_any _ _ _ _).mono ?_
        rintro e w1 ⟨rfl, hb⟩
        have c3 := later hb (b := w.heap.size + 1 + 1) (o := 0) (x := .int .i64 0) (by simp [go_sem])
        have c4 := laterF hb (b := w.heap.size + 1 + 1) (o := 0) (x := .int .i64 0) (by simp [go_sem]) (z := false) (by simp [go_sem])
        have hB := hB0.trans (hb.mono (by simp; omega))
        clear hB0 hb
        go_wp2_with fail
        exact bodyPost_ret (v := .tuple #[.int .i64 0, .int .i64 0, .int .i64 2]) (by simp [results, Try.results17, go_sem, *]) rfl ⟨rfl, hB.setCell (p := ⟨w.heap.size + 1 + 1, 0, none⟩) (by simp; omega) _⟩
  · have e : Terr o p n u = aske o p n := by unfold Terr; rw [if_neg ha]
    have e1 : Tstamp o p n u = 0 := by unfold Tstamp; rw [e, if_neg ha]
    have e2 : Tat o p n u = 0 := by unfold Tat; rw [e, if_neg ha]
    rw [e, e1, e2]
    clear e e1 e2
    have hB0 : Below w.heap.size w (((w.alloc (.cells #[.int .i64 o, .int .i64 p] 33)).alloc (.cells #[.int .i64 n] 3)).alloc (.cells #[.int .i64 0] 3)) := (((Below.refl _ _).alloc (Nat.le_refl _) _).alloc (by simp) _).alloc (by simp; omega) _
    have hne : (aske o p n != 0) = true := by simpa using ha
    go_enter Try.func17, Try.ntmps17
    go_wp2_with fail
    refine (asked_any _ _ _ _).mono ?_
    rintro e w1 ⟨rfl, hb⟩
    have c3 := later hb (b := w.heap.size + 1 + 1) (o := 0) (x := .int .i64 0) (by simp [go_sem])
    have c4 := laterF hb (b := w.heap.size + 1 + 1) (o := 0) (x := .int .i64 0) (by simp [go_sem]) (z := false) (by simp [go_sem])
    have hB := hB0.trans (hb.mono (by simp; omega))
    clear hB0 hb
    go_wp2_with fail
    exact bodyPost_ret (v := .tuple #[.int .i64 0, .int .i64 0, .int .i64 (aske o p n)]) (by simp [results, Try.results17, go_sem, *]) rfl ⟨rfl, hB.setCell (p := ⟨w.heap.size + 1 + 1, 0, none⟩) (by simp; omega) _⟩
end Go.Proofs.Ytpbpmabnmakdoaa
