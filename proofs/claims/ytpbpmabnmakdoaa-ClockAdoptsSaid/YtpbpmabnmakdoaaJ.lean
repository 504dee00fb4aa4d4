/- The walk of ClockAdopts: it returns true for every clock, time and stamp. -/
import Derived.Test.YtpbpmabnmakdoaaI
namespace Go.Proofs.Ytpbpmabnmakdoaa
open Go.RowKit
theorem newo_time (o p n s : Int) : ltime (newo o p n s) p n = max (ltime o p n) s := by unfold newo ltime; omega
theorem again_facts (o p n s : Int) (h : Aerr o p n s = 0) : Aerr (Aof o p n s) (App o p n s) n s = 0 ∧ Aof (Aof o p n s) (App o p n s) n s = Aof o p n s ∧ App (Aof o p n s) (App o p n s) n s = App o p n s ∧ App o p n s = p ∧ aske o p n = 0 ∧ aske (Aof o p n s) (App o p n s) n = 0 ∧ Lof (Aof o p n s) (App o p n s) n = max (Lof o p n) s := by
  have e1 : Aof o p n s = newo o p n s := if_pos h
  have e2 : App o p n s = p := if_pos h
  rw [e1, e2]
  have ha : aske o p n = 0 := by
    unfold Aerr at h
    split at h
    · assumption
    · exact h
  have hs : -2199023255552 ≤ s ∧ s ≤ 2199023255552 := by
    unfold Aerr at h
    rw [if_pos ha] at h
    split at h
    · assumption
    · cases h
  have hk : cke (newo o p n s) p = 0 := by
    unfold Aerr at h
    rw [if_pos ha, if_pos hs] at h
    exact h
  have hv2 := cke_vck.1.1 hk
  obtain ⟨hv, h0, h1⟩ := aske_zero ha
  have ha2 : aske (newo o p n s) p n = 0 := by unfold aske; rw [if_pos hv2, if_pos ⟨h0, h1⟩]
  have hn : newo (newo o p n s) p n s = newo o p n s := by
    have := newo_time o p n s
    rw [newo, this]; omega
  have hA : Aerr (newo o p n s) p n s = 0 := by unfold Aerr; rw [if_pos ha2, if_pos hs, hn, hk]
  refine ⟨hA, ?_, ?_, rfl, ha, ha2, ?_⟩
  · unfold Aof; rw [if_pos hA, hn]
  · unfold App; rw [if_pos hA]
  · unfold Lof; rw [if_pos ha2, if_pos ha, newo_time]
theorem law_adopts (o p n s : Int) (w : World) :
    Calls Try.prog 6 #[.agg #[.int .i64 o, .int .i64 p], .int .i64 n, .int .i64 s] w fun e w' => e = .returned (.bool true) ∧ Below w.heap.size w w' := by
  have hB0 : Below w.heap.size w (w.alloc (.cells #[.int .i64 o, .int .i64 p] 33)) := (Below.refl _ _).alloc (Nat.le_refl _) _
  by_cases ha : Aerr o p n s = 0
  · obtain ⟨f1, f2, f3, f4, f5, f6, f7⟩ := again_facts o p n s ha
    rw [f4] at f1 f2 f3 f6 f7
    rcases Int.lt_trichotomy (Lof o p n) s with hc | hc | hc
    · rw [show max (Lof o p n) s = s by omega] at f7
      go_enter Try.func6, Try.ntmps6
      go_wp2_with fail
      refine (alive_any _).mono ?_
      rintro e w1 ⟨rfl, hb⟩
      have t1 := Two.later (k := w.heap.size) (x := .int .i64 o) (y := .int .i64 p) hb (by simp [Two, go_sem])
      have hB1 := hB0.trans (hb.mono hB0.size)
      clear hB0 hb
      obtain ⟨c0, c1, _, _⟩ := id t1
      go_wp2_with fail
      refine (Adopt_any _ _ _ _ _).mono ?_
      rintro e w2 ⟨rfl, hb⟩
      have t2 := Two.later hb t1
      have hB2 := hB1.trans (hb.mono hB1.size)
      have lt2 : w.heap.size < w2.heap.size := World.block_lt_of_cell? w2 _ t2.1
      clear hB1 hb t1 c0 c1
      obtain ⟨c0, c1, _, _⟩ := id t2
      go_wp2_with fail
      refine (Local_any _ _ _ _).mono ?_
      rintro e w3 ⟨rfl, hb⟩
      have t3 := Two.later (k := w.heap.size) (x := .int .i64 o) (y := .int .i64 p) hb (by simp [Two, go_sem, *])
      have u3 := Two.later (k := w2.heap.size) (x := .int .i64 (Aof o p n s)) (y := .int .i64 p) hb (by simp [Two, go_sem])
      have hB3 := (hB2.alloc hB2.size _).trans (hb.mono (by have := hB2.size; simp; omega))
      clear hB2 hb t2 c0 c1
      obtain ⟨c0, c1, _, _⟩ := id t3
      obtain ⟨i0, i1, _, _⟩ := id u3
      go_wp2_with fail
      refine (Local_any _ _ _ _).mono ?_
      rintro e w4 ⟨rfl, hb⟩
      have t4 := Two.later hb t3
      have u4 := Two.later hb u3
      have hB4 := hB3.trans (hb.mono hB3.size)
      clear hB3 hb t3 u3 c0 c1 i0 i1
      obtain ⟨c0, c1, _, _⟩ := id t4
      obtain ⟨i0, i1, _, _⟩ := id u4
      go_wp2_with fail
      refine (Adopt_any _ _ _ _ _).mono ?_
      rintro e w5 ⟨rfl, hb⟩
      have t5 := Two.later hb t4
      have u5 := Two.later hb u4
      have hB5 := hB4.trans (hb.mono hB4.size)
      have lt5 : w.heap.size < w5.heap.size := World.block_lt_of_cell? w5 _ t5.1
      have lt6 : w2.heap.size < w5.heap.size := World.block_lt_of_cell? w5 _ u5.1
      clear hB4 hb t4 u4 c0 c1 i0 i1
      obtain ⟨c0, c1, _, _⟩ := id t5
      obtain ⟨i0, i1, _, _⟩ := id u5
      go_wp2_with fail
      go_ret
      exact ⟨rfl, hB5.alloc hB5.size _⟩
    · rw [show max (Lof o p n) s = s by omega] at f7
      go_enter Try.func6, Try.ntmps6
      go_wp2_with fail
      refine (alive_any _).mono ?_
      rintro e w1 ⟨rfl, hb⟩
      have t1 := Two.later (k := w.heap.size) (x := .int .i64 o) (y := .int .i64 p) hb (by simp [Two, go_sem])
      have hB1 := hB0.trans (hb.mono hB0.size)
      clear hB0 hb
      obtain ⟨c0, c1, _, _⟩ := id t1
      go_wp2_with fail
      refine (Adopt_any _ _ _ _ _).mono ?_
      rintro e w2 ⟨rfl, hb⟩
      have t2 := Two.later hb t1
      have hB2 := hB1.trans (hb.mono hB1.size)
      have lt2 : w.heap.size < w2.heap.size := World.block_lt_of_cell? w2 _ t2.1
      clear hB1 hb t1 c0 c1
      obtain ⟨c0, c1, _, _⟩ := id t2
      go_wp2_with fail
      refine (Local_any _ _ _ _).mono ?_
      rintro e w3 ⟨rfl, hb⟩
      have t3 := Two.later (k := w.heap.size) (x := .int .i64 o) (y := .int .i64 p) hb (by simp [Two, go_sem, *])
      have u3 := Two.later (k := w2.heap.size) (x := .int .i64 (Aof o p n s)) (y := .int .i64 p) hb (by simp [Two, go_sem])
      have hB3 := (hB2.alloc hB2.size _).trans (hb.mono (by have := hB2.size; simp; omega))
      clear hB2 hb t2 c0 c1
      obtain ⟨c0, c1, _, _⟩ := id t3
      obtain ⟨i0, i1, _, _⟩ := id u3
      go_wp2_with fail
      refine (Local_any _ _ _ _).mono ?_
      rintro e w4 ⟨rfl, hb⟩
      have t4 := Two.later hb t3
      have u4 := Two.later hb u3
      have hB4 := hB3.trans (hb.mono hB3.size)
      clear hB3 hb t3 u3 c0 c1 i0 i1
      obtain ⟨c0, c1, _, _⟩ := id t4
      obtain ⟨i0, i1, _, _⟩ := id u4
      go_wp2_with fail
      refine (Adopt_any _ _ _ _ _).mono ?_
      rintro e w5 ⟨rfl, hb⟩
      have t5 := Two.later hb t4
      have u5 := Two.later hb u4
      have hB5 := hB4.trans (hb.mono hB4.size)
      have lt5 : w.heap.size < w5.heap.size := World.block_lt_of_cell? w5 _ t5.1
      have lt6 : w2.heap.size < w5.heap.size := World.block_lt_of_cell? w5 _ u5.1
      clear hB4 hb t4 u4 c0 c1 i0 i1
      obtain ⟨c0, c1, _, _⟩ := id t5
      obtain ⟨i0, i1, _, _⟩ := id u5
      go_wp2_with fail
      go_ret
      exact ⟨rfl, hB5.alloc hB5.size _⟩
    · rw [show max (Lof o p n) s = Lof o p n by omega] at f7
      go_enter Try.func6, Try.ntmps6
      go_wp2_with fail
      refine (alive_any _).mono ?_
      rintro e w1 ⟨rfl, hb⟩
      have t1 := Two.later (k := w.heap.size) (x := .int .i64 o) (y := .int .i64 p) hb (by simp [Two, go_sem])
      have hB1 := hB0.trans (hb.mono hB0.size)
      clear hB0 hb
      obtain ⟨c0, c1, _, _⟩ := id t1
      go_wp2_with fail
      refine (Adopt_any _ _ _ _ _).mono ?_
      rintro e w2 ⟨rfl, hb⟩
      have t2 := Two.later hb t1
      have hB2 := hB1.trans (hb.mono hB1.size)
      have lt2 : w.heap.size < w2.heap.size := World.block_lt_of_cell? w2 _ t2.1
      clear hB1 hb t1 c0 c1
      obtain ⟨c0, c1, _, _⟩ := id t2
      go_wp2_with fail
      refine (Local_any _ _ _ _).mono ?_
      rintro e w3 ⟨rfl, hb⟩
      have t3 := Two.later (k := w.heap.size) (x := .int .i64 o) (y := .int .i64 p) hb (by simp [Two, go_sem, *])
      have u3 := Two.later (k := w2.heap.size) (x := .int .i64 (Aof o p n s)) (y := .int .i64 p) hb (by simp [Two, go_sem])
      have hB3 := (hB2.alloc hB2.size _).trans (hb.mono (by have := hB2.size; simp; omega))
      clear hB2 hb t2 c0 c1
      obtain ⟨c0, c1, _, _⟩ := id t3
      obtain ⟨i0, i1, _, _⟩ := id u3
      go_wp2_with fail
      refine (Local_any _ _ _ _).mono ?_
      rintro e w4 ⟨rfl, hb⟩
      have t4 := Two.later hb t3
      have u4 := Two.later hb u3
      have hB4 := hB3.trans (hb.mono hB3.size)
      clear hB3 hb t3 u3 c0 c1 i0 i1
      obtain ⟨c0, c1, _, _⟩ := id t4
      obtain ⟨i0, i1, _, _⟩ := id u4
      go_wp2_with fail
      refine (Adopt_any _ _ _ _ _).mono ?_
      rintro e w5 ⟨rfl, hb⟩
      have t5 := Two.later hb t4
      have u5 := Two.later hb u4
      have hB5 := hB4.trans (hb.mono hB4.size)
      have lt5 : w.heap.size < w5.heap.size := World.block_lt_of_cell? w5 _ t5.1
      have lt6 : w2.heap.size < w5.heap.size := World.block_lt_of_cell? w5 _ u5.1
      clear hB4 hb t4 u4 c0 c1 i0 i1
      obtain ⟨c0, c1, _, _⟩ := id t5
      obtain ⟨i0, i1, _, _⟩ := id u5
      go_wp2_with fail
      go_ret
      exact ⟨rfl, hB5.alloc hB5.size _⟩
  · have g1 : Aof o p n s = 0 := if_neg ha
    have g2 : App o p n s = 0 := if_neg ha
    have hne : (Aerr o p n s != 0) = true := by simpa using ha
    clear ha
    go_enter Try.func6, Try.ntmps6
    go_wp2_with fail
    refine (alive_any _).mono ?_
    rintro e w1 ⟨rfl, hb⟩
    have t1 := Two.later (k := w.heap.size) (x := .int .i64 o) (y := .int .i64 p) hb (by simp [Two, go_sem])
    have hB1 := hB0.trans (hb.mono hB0.size)
    clear hB0 hb
    obtain ⟨c0, c1, _, _⟩ := id t1
    go_wp2_with fail
    refine (Adopt_any _ _ _ _ _).mono ?_
    rintro e w2 ⟨rfl, hb⟩
    have t2 := Two.later hb t1
    have hB2 := hB1.trans (hb.mono hB1.size)
    have lt2 : w.heap.size < w2.heap.size := World.block_lt_of_cell? w2 _ t2.1
    clear hB1 hb t1 c0 c1
    obtain ⟨c0, c1, _, _⟩ := id t2
    go_wp2_with fail
    go_ret
    exact ⟨rfl, hB2.alloc hB2.size _⟩
end Go.Proofs.Ytpbpmabnmakdoaa
