/- Contract of the reference's Target. It holds for every input. -/
import Derived.Test.YtpbpmabnmakdoaaE
namespace Go.Proofs.Ytpbpmabnmakdoaa
open Go.RowKit
theorem ceilm_eq {L step m : Int} (h : 0 < step) (h1 : L ≤ m * step) (h2 : m * step < L + step) : m * step = ceilm L step := by
  unfold ceilm
  have : -L / step = -m := div_uniq h (by rw [Int.neg_mul]; omega) (by rw [Int.neg_mul]; omega)
  rw [this, Int.neg_neg]
theorem tgt_start (L step : Int) (h : 0 < step) : L.tdiv step * step < L + step ∧ L - step < L.tdiv step * step := by
  have f := tdiv_facts (a := L) h
  rcases Int.lt_or_le L 0 with g | g
  · have := f.2 g; omega
  · have := f.1 g; omega
theorem rtarget_ok (o p n u : Int) (w : World) (ha : aske o p n = 0) (hu : 1 ≤ u) (hu' : u ≤ 65535) :
    Calls Try.prog 18 #[.agg #[.int .i64 o, .int .i64 p], .int .i64 n, .int .i64 u] w fun e w' => e = .returned (.tuple #[.int .i64 (n + lst (reached o p n (ceilm (ltime o p n) (u * 1024))) (2 * (u * 1024)).toNat), .int .i64 (ceilm (ltime o p n) (u * 1024)), .int .i64 0]) ∧ Below w.heap.size w w' := by
  obtain ⟨hv, h0, h1⟩ := aske_zero ha
  obtain ⟨l1, l2⟩ := local_lo o p n hv h0 (by omega)
  obtain ⟨m1, m2⟩ := ceilm_bd (ltime o p n) (u * 1024) (by omega)
  obtain ⟨g1, g2⟩ := tgt_start (ltime o p n) (u * 1024) (by omega)
  have hd1 := tdiv_bd (a := ltime o p n) (b := u * 1024) (by omega)
  have hf := tdiv_facts (a := ltime o p n) (b := u * 1024) (by omega)
  have hd2 : -7000000000000 ≤ (ltime o p n).tdiv (u * 1024) := by omega
  have hd3 : (ltime o p n).tdiv (u * 1024) ≤ 7000000000000 := by omega
  have hw1 := IntWalk.wrap64_in ((ltime o p n).tdiv (u * 1024) * (u * 1024)) (by omega)
  clear hd1 hf
  have hB0 : Below w.heap.size w (w.alloc (.cells #[.int .i64 o, .int .i64 p] 33)) := (Below.refl _ _).alloc (Nat.le_refl _) _
  go_enter Try.func18, Try.ntmps18
  go_wp2_with fail
  refine (rasked_any _ _ _ _).mono ?_
  rintro e w1 ⟨rfl, hb⟩
  have c0 := later hb (b := w.heap.size) (o := 0) (x := .int .i64 o) (by simp [go_sem])
  have c1 := later hb (b := w.heap.size) (o := 1) (x := .int .i64 p) (by simp [go_sem])
  have hB := hB0.trans (hb.mono (by simp))
  clear hB0 hb
  go_wp2_with fail
  refine (rtime_any _ _ _ _ hv h0 (by omega)).mono ?_
  rintro e w2 ⟨rfl, hb⟩
  have d0 := later hb c0
  have d1 := later hb c1
  have hB2 := hB.trans (hb.mono hB.size)
  clear hB hb c0 c1
  go_wp2_with fail
  go_loop [12] (fun i => ∃ m : Int, ltime o p n - (u * 1024) < m * (u * 1024) ∧ m * (u * 1024) < ltime o p n + (u * 1024) ∧ i = .int .i64 (m * (u * 1024))) (fun i => (ltime o p n + 1 - intOf i).toNat)
  case atStart => exact ⟨_, g2, g1, rfl⟩
  case round =>
    obtain ⟨m, k1, k2, rfl⟩ := hrel
    by_cases hlt : m * (u * 1024) < ltime o p n
    · go_wp2_with fail
      go_round
      case rel => exact ⟨m + 1, by rw [Int.add_mul]; omega, by rw [Int.add_mul]; omega, by rw [Int.add_mul, Int.one_mul]⟩
      case measure => simp [intOf]; omega
    · have e : m * (u * 1024) = ceilm (ltime o p n) (u * 1024) := ceilm_eq (by omega) (by omega) k2
      rw [e] at hlt
      rw [e]
      clear k1 k2 e
      generalize hs : ceilm (ltime o p n) (u * 1024) = s at *
      have HS := Lib.hid hs
      clear hs
      go_wp2_with fail
      go_loopw [13, 14] (fun i j wr => ∃ a b : Nat, a ≤ b ∧ (b : Int) ≤ 2 * (u * 1024) ∧ i = .int .i64 (n + a) ∧ j = .int .i64 (n + b) ∧ Hid (∀ i : Int, 0 ≤ i → i < a → reached o p n s i = false) ∧ Hid ((b : Int) < 2 * (u * 1024) → reached o p n s b = true) ∧ wr.cell? ⟨w.heap.size, 0, none⟩ = some (.int .i64 o) ∧ wr.cell? ⟨w.heap.size, 1, none⟩ = some (.int .i64 p) ∧ Below w.heap.size w wr) (fun i j _ => (intOf j - intOf i).toNat)
      case atStart => exact ⟨0, (2 * (u * 1024)).toNat, Nat.zero_le _, by omega, by simp, by congr 1; omega, by intro i; omega, by intro; omega, d0, d1, hB2⟩
      case round =>
        obtain ⟨a, b, hab, hb2, rfl, rfl, q1, q2, e0, e1, hB⟩ := hrel
        by_cases hlt2 : a < b
        · have hmid : ∃ c : Nat, c = a + (b - a) / 2 := ⟨_, rfl⟩
          obtain ⟨c, hc⟩ := hmid
          have hc2 : n + (a : Int) + (n + b - (n + a)) / 2 = n + c := by omega
          have HC2 := Lib.hid hc2
          have hc3 : a ≤ c := by omega
          have hc4 : c < b := by omega
          clear hc2 hc
          go_wp2_with fail
          rw [HC2.out]
          refine (rtime_any _ _ _ _ hv (by omega) (by omega)).mono ?_
          rintro e w3 ⟨rfl, hb3⟩
          have r0 := later hb3 e0
          have r1 := later hb3 e1
          have hB3 := hB.trans (hb3.mono hB.size)
          clear hb3 e0 e1
          by_cases hr : s ≤ ltime o p (n + c)
          · go_wp2_with fail
            go_roundw
            case rel => exact ⟨a, c, by omega, by omega, rfl, rfl, q1, (fun _ => by simp [reached, hr]), r0, r1, hB3⟩
            case measure => simp [intOf]; omega
          · go_wp2_with fail
            go_roundw
            case rel => exact ⟨c + 1, b, by omega, hb2, by go_num, rfl, (fun i hi hj => by
              have := ltime_le o p (n + i) (n + c) (by have := vck_true hv; omega) (by omega)
              unfold reached
              simp only [decide_eq_false_iff_not]
              omega), q2, r0, r1, hB3⟩
            case measure => simp [intOf]; omega
        · have hba : b = a := by omega
          subst hba
          have hl : lst (reached o p n s) (2 * (u * 1024)).toNat = b := lst_eq (by omega) q1.out (fun h => q2.out (by omega))
          have HL := Lib.hid hl
          clear hl
          go_wp2_with fail
          go_ret3
          exact ⟨by rw [HS.out, HL.out]; rfl, hB⟩
theorem rTarget_any (o p n u : Int) (w : World) :
    Calls Try.prog 18 #[.agg #[.int .i64 o, .int .i64 p], .int .i64 n, .int .i64 u] w fun e w' => e = .returned (.tuple #[.int .i64 (Tat o p n u), .int .i64 (Tstamp o p n u), .int .i64 (Terr o p n u)]) ∧ Below w.heap.size w w' := by
  by_cases ha : aske o p n = 0
  · by_cases hu : 1 ≤ u ∧ u ≤ 65535
    · have e : Terr o p n u = 0 := by unfold Terr; rw [if_pos ha, if_pos hu]
      have e1 : Tstamp o p n u = ceilm (ltime o p n) (u * 1024) := if_pos e
      have e2 : Tat o p n u = n + lst (reached o p n (ceilm (ltime o p n) (u * 1024))) (2 * (u * 1024)).toNat := if_pos e
      rw [e, e1, e2]
      exact rtarget_ok o p n u w ha hu.1 hu.2
    · have e : Terr o p n u = 2 := by unfold Terr; rw [if_pos ha, if_neg hu]
      have e1 : Tstamp o p n u = 0 := by unfold Tstamp; rw [e]; rfl
      have e2 : Tat o p n u = 0 := by unfold Tat; rw [e]; rfl
      rw [e, e1, e2]
      clear e e1 e2
      have hB0 : Below w.heap.size w (w.alloc (.cells #[.int .i64 o, .int .i64 p] 33)) := (Below.refl _ _).alloc (Nat.le_refl _) _
      rcases (show u < 1 ∨ 65535 < u by omega) with h3 | h3
      all_goals
        clear hu
        go_enter Try.func18, Try.ntmps18
        go_wp2_with fail
        refine (rasked_any _ _ _ _).mono ?_
        rintro e w1 ⟨rfl, hb⟩
        have hB := hB0.trans (hb.mono (by simp))
        clear hB0 hb
        go_wp2_with fail
        go_ret3
        exact ⟨rfl, hB⟩
  · have e : Terr o p n u = aske o p n := by unfold Terr; rw [if_neg ha]
    have e1 : Tstamp o p n u = 0 := by unfold Tstamp; rw [e, if_neg ha]
    have e2 : Tat o p n u = 0 := by unfold Tat; rw [e, if_neg ha]
    rw [e, e1, e2]
    clear e e1 e2
    have hB0 : Below w.heap.size w (w.alloc (.cells #[.int .i64 o, .int .i64 p] 33)) := (Below.refl _ _).alloc (Nat.le_refl _) _
    have hne : (aske o p n != 0) = true := by simpa using ha
    have hne2 : (aske o p n == 0) = false := by simpa using ha
    go_enter Try.func18, Try.ntmps18
    go_wp2_with fail
    refine (rasked_any _ _ _ _).mono ?_
    rintro e w1 ⟨rfl, hb⟩
    have hB := hB0.trans (hb.mono (by simp))
    clear hB0 hb
    go_wp2_with fail
    go_ret3
    exact ⟨rfl, hB⟩
end Go.Proofs.Ytpbpmabnmakdoaa
