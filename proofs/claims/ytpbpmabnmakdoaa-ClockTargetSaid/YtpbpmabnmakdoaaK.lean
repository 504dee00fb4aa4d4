/- The walk of ClockTarget: it returns true for every clock, time and number of units. -/
import Derived.Test.YtpbpmabnmakdoaaI
namespace Go.Proofs.Ytpbpmabnmakdoaa
open Go.RowKit
/-- what Target's answers mean -/
theorem target_facts (o p n u : Int) (h : Terr o p n u = 0) :
    aske o p n = 0 ∧ 1 ≤ u ∧ u ≤ 65535 ∧ Tstamp o p n u = ceilm (ltime o p n) (u * 1024) ∧ (∃ k : Int, Tstamp o p n u = k * (u * 1024)) ∧ Lof o p n ≤ Tstamp o p n u ∧ Tstamp o p n u < Lof o p n + u * 1024 ∧ n ≤ Tat o p n u ∧ Tstamp o p n u ≤ ltime o p (Tat o p n u) ∧
    (n < Tat o p n u → ltime o p (Tat o p n u - 1) < Tstamp o p n u) ∧ Tat o p n u ≤ 1300000000000 := by
  have ha : aske o p n = 0 := by
    unfold Terr at h
    split at h
    · assumption
    · exact h
  have hu : 1 ≤ u ∧ u ≤ 65535 := by
    unfold Terr at h
    rw [if_pos ha] at h
    split at h
    · assumption
    · cases h
  have e1 : Tstamp o p n u = ceilm (ltime o p n) (u * 1024) := if_pos h
  have e2 : Tat o p n u = n + lst (reached o p n (ceilm (ltime o p n) (u * 1024))) (2 * (u * 1024)).toNat := if_pos h
  have e3 : Lof o p n = ltime o p n := if_pos ha
  obtain ⟨hv, h0, h1⟩ := aske_zero ha
  obtain ⟨v1, v2, v3, v4⟩ := vck_true hv
  obtain ⟨c1, c2⟩ := ceilm_bd (ltime o p n) (u * 1024) (by omega)
  obtain ⟨s1, s2, s3⟩ := lst_spec (reached o p n (ceilm (ltime o p n) (u * 1024))) (2 * (u * 1024)).toNat
  rw [e1, e2, e3]
  refine ⟨ha, hu.1, hu.2, rfl, ⟨_, rfl⟩, c1, c2, by omega, ?_, ?_, by omega⟩
  · rcases Nat.lt_or_ge (lst (reached o p n (ceilm (ltime o p n) (u * 1024))) (2 * (u * 1024)).toNat) (2 * (u * 1024)).toNat with hlt | hge
    · have := s3 hlt
      rw [reached, decide_eq_true_eq] at this
      exact this
    · -- none below: impossible
      exfalso
      have hf := s2 ((2 * (u * 1024)).toNat - 1) (by omega)
      rw [reached, decide_eq_false_iff_not] at hf
      obtain ⟨f1, f2, f3⟩ := mono_facts o p n (n + (((2 * (u * 1024)).toNat - 1 : Nat) : Int)) v3 v4 (by omega)
      omega
  · intro hgt
    have hf := s2 (lst (reached o p n (ceilm (ltime o p n) (u * 1024))) (2 * (u * 1024)).toNat - 1) (by omega)
    rw [reached, decide_eq_false_iff_not] at hf
    have e : n + (lst (reached o p n (ceilm (ltime o p n) (u * 1024))) (2 * (u * 1024)).toNat : Int) - 1 = n + ((lst (reached o p n (ceilm (ltime o p n) (u * 1024))) (2 * (u * 1024)).toNat - 1 : Nat) : Int) := by omega
    rw [e]
    omega
theorem lof_at (o p n : Int) (h : vck o p = true) (h0 : 0 ≤ n) (h1 : n ≤ 1099511627776) : aske o p n = 0 ∧ Lof o p n = ltime o p n := by
  have e : aske o p n = 0 := by unfold aske; rw [if_pos h, if_pos ⟨h0, h1⟩]
  exact ⟨e, if_pos e⟩
set_option maxHeartbeats 1000000 in
theorem law_target (o p n u : Int) (w : World) :
    Calls Try.prog 7 #[.agg #[.int .i64 o, .int .i64 p], .int .i64 n, .int .i64 u] w fun e w' => e = .returned (.bool true) ∧ Below w.heap.size w w' := by
  have hB0 : Below w.heap.size w (w.alloc (.cells #[.int .i64 o, .int .i64 p] 33)) := (Below.refl _ _).alloc (Nat.le_refl _) _
  by_cases ht : Terr o p n u = 0
  · obtain ⟨ha, u1, u2, -, hk, f1, f2, f3, f4, f5, f6⟩ := target_facts o p n u ht
    obtain ⟨hv, h0, h1⟩ := aske_zero ha
    obtain ⟨v1, v2, v3, v4⟩ := vck_true hv
    obtain ⟨k1, k2⟩ := local_lo o p n hv h0 (by omega)
    have hlo : Lof o p n = ltime o p n := if_pos ha
    have k3 : -6000000000000 ≤ Lof o p n := by omega
    have k4 : Lof o p n ≤ 6000000000000 := by omega
    have hmod : (Tstamp o p n u).tmod (u * 1024) = 0 := by
      obtain ⟨k, hk⟩ := hk
      rw [hk]; exact Int.mul_tmod_left _ _
    clear hlo k1 k2 hk
    by_cases hm : Tat o p n u ≤ 1099511627776
    · obtain ⟨g1, g2⟩ := lof_at o p (Tat o p n u) hv (by omega) hm
      have f4' : Tstamp o p n u ≤ Lof o p (Tat o p n u) := by omega
      clear g2 f4
      by_cases hn : n < Tat o p n u
      · obtain ⟨g3, g4⟩ := lof_at o p (Tat o p n u - 1) hv (by omega) (by omega)
        have f5' : Lof o p (Tat o p n u - 1) < Tstamp o p n u := by rw [g4]; exact f5 hn
        clear g4 f5
        go_enter Try.func7, Try.ntmps7
        go_wp2_with fail
        refine (alive_any _).mono ?_
        rintro e w1 ⟨rfl, hb⟩
        have t1 := Two.later (k := w.heap.size) (x := .int .i64 o) (y := .int .i64 p) hb (by simp [Two, go_sem])
        have hB1 := hB0.trans (hb.mono hB0.size)
        clear hB0 hb
        obtain ⟨c0, c1, _, _⟩ := id t1
        go_wp2_with fail
        refine (Target_any _ _ _ _ _).mono ?_
        rintro e w2 ⟨rfl, hb⟩
        have t2 := Two.later hb t1
        have hB2 := hB1.trans (hb.mono hB1.size)
        clear hB1 hb t1 c0 c1
        obtain ⟨c0, c1, _, _⟩ := id t2
        go_wp2_with fail
        refine (Local_any _ _ _ _).mono ?_
        rintro e w3 ⟨rfl, hb⟩
        have t3 := Two.later hb t2
        have hB3 := hB2.trans (hb.mono hB2.size)
        clear hB2 hb t2 c0 c1
        obtain ⟨c0, c1, _, _⟩ := id t3
        go_wp2_with fail
        refine (Local_any _ _ _ _).mono ?_
        rintro e w4 ⟨rfl, hb⟩
        have t4 := Two.later hb t3
        have hB4 := hB3.trans (hb.mono hB3.size)
        clear hB3 hb t3 c0 c1
        obtain ⟨c0, c1, _, _⟩ := id t4
        go_wp2_with fail
        refine (Local_any _ _ _ _).mono ?_
        rintro e w5 ⟨rfl, hb⟩
        have hB5 := hB4.trans (hb.mono hB4.size)
        clear hB4 hb t4 c0 c1
        go_wp2_with fail
        go_ret
        exact ⟨rfl, hB5⟩
      · have hn2 : Tat o p n u = n := by omega
        rw [hn2] at f4'
        rw [hn2] at g1
        clear f5 hn f3 f6
        go_enter Try.func7, Try.ntmps7
        go_wp2_with fail
        refine (alive_any _).mono ?_
        rintro e w1 ⟨rfl, hb⟩
        have t1 := Two.later (k := w.heap.size) (x := .int .i64 o) (y := .int .i64 p) hb (by simp [Two, go_sem])
        have hB1 := hB0.trans (hb.mono hB0.size)
        clear hB0 hb
        obtain ⟨c0, c1, _, _⟩ := id t1
        go_wp2_with fail
        refine (Target_any _ _ _ _ _).mono ?_
        rintro e w2 ⟨rfl, hb⟩
        have t2 := Two.later hb t1
        have hB2 := hB1.trans (hb.mono hB1.size)
        clear hB1 hb t1 c0 c1
        obtain ⟨c0, c1, _, _⟩ := id t2
        go_wp2_with fail
        refine (Local_any _ _ _ _).mono ?_
        rintro e w3 ⟨rfl, hb⟩
        have t3 := Two.later hb t2
        have hB3 := hB2.trans (hb.mono hB2.size)
        clear hB2 hb t2 c0 c1
        obtain ⟨c0, c1, _, _⟩ := id t3
        go_wp2_with fail
        refine (Local_any _ _ _ _).mono ?_
        rintro e w4 ⟨rfl, hb⟩
        have t4 := Two.later hb t3
        have hB4 := hB3.trans (hb.mono hB3.size)
        clear hB3 hb t3 c0 c1
        obtain ⟨c0, c1, _, _⟩ := id t4
        go_wp2_with fail
        go_ret
        exact ⟨rfl, hB4⟩
    · have hm2 : 1099511627776 < Tat o p n u := by omega
      clear hm
      go_enter Try.func7, Try.ntmps7
      go_wp2_with fail
      refine (alive_any _).mono ?_
      rintro e w1 ⟨rfl, hb⟩
      have t1 := Two.later (k := w.heap.size) (x := .int .i64 o) (y := .int .i64 p) hb (by simp [Two, go_sem])
      have hB1 := hB0.trans (hb.mono hB0.size)
      clear hB0 hb
      obtain ⟨c0, c1, _, _⟩ := id t1
      go_wp2_with fail
      refine (Target_any _ _ _ _ _).mono ?_
      rintro e w2 ⟨rfl, hb⟩
      have t2 := Two.later hb t1
      have hB2 := hB1.trans (hb.mono hB1.size)
      clear hB1 hb t1 c0 c1
      obtain ⟨c0, c1, _, _⟩ := id t2
      go_wp2_with fail
      go_ret
      exact ⟨rfl, hB2⟩
  · have e1 : Tstamp o p n u = 0 := if_neg ht
    have e2 : Tat o p n u = 0 := if_neg ht
    have hne : (Terr o p n u != 0) = true := by simpa using ht
    have hne2 : (Terr o p n u == 0) = false := by simpa using ht
    clear ht
    go_enter Try.func7, Try.ntmps7
    go_wp2_with fail
    refine (alive_any _).mono ?_
    rintro e w1 ⟨rfl, hb⟩
    have t1 := Two.later (k := w.heap.size) (x := .int .i64 o) (y := .int .i64 p) hb (by simp [Two, go_sem])
    have hB1 := hB0.trans (hb.mono hB0.size)
    clear hB0 hb
    obtain ⟨c0, c1, _, _⟩ := id t1
    go_wp2_with fail
    refine (Target_any _ _ _ _ _).mono ?_
    rintro e w2 ⟨rfl, hb⟩
    have t2 := Two.later hb t1
    have hB2 := hB1.trans (hb.mono hB1.size)
    clear hB1 hb t1 c0 c1
    obtain ⟨c0, c1, _, _⟩ := id t2
    go_wp2_with fail
    go_ret
    exact ⟨rfl, hB2⟩
end Go.Proofs.Ytpbpmabnmakdoaa
