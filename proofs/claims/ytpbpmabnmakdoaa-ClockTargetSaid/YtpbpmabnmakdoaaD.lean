/- Contracts of Adopt and its reference. Each holds for every input. -/
import Derived.Test.YtpbpmabnmakdoaaC
namespace Go.Proofs.Ytpbpmabnmakdoaa
open Go.RowKit
theorem aerr_bad {o p n s : Int} (h : aske o p n ≠ 0) : Aerr o p n s = aske o p n ∧ Aof o p n s = 0 ∧ App o p n s = 0 := by
  have e : Aerr o p n s = aske o p n := by unfold Aerr; rw [if_neg h]
  refine ⟨e, ?_, ?_⟩
  · unfold Aof; rw [e, if_neg h]
  · unfold App; rw [e, if_neg h]
theorem aerr_arg {o p n s : Int} (h : aske o p n = 0) (h2 : ¬ (-2199023255552 ≤ s ∧ s ≤ 2199023255552)) : Aerr o p n s = 2 ∧ Aof o p n s = 0 ∧ App o p n s = 0 := by
  have e : Aerr o p n s = 2 := by unfold Aerr; rw [if_pos h, if_neg h2]
  refine ⟨e, ?_, ?_⟩
  · unfold Aof; rw [e]; rfl
  · unfold App; rw [e]; rfl
theorem aerr_go {o p n s : Int} (h : aske o p n = 0) (h2 : -2199023255552 ≤ s ∧ s ≤ 2199023255552) :
    Aerr o p n s = cke (newo o p n s) p ∧ Aof o p n s = ado o p n s ∧ App o p n s = adp o p n s := by
  have e : Aerr o p n s = cke (newo o p n s) p := by unfold Aerr; rw [if_pos h, if_pos h2]
  refine ⟨e, ?_, ?_⟩
  · unfold Aof; rw [e]; rfl
  · unfold App; rw [e]; rfl
theorem Adopt_any (o p n s : Int) (w : World) :
    Calls Try.prog 15 #[.agg #[.int .i64 o, .int .i64 p], .int .i64 n, .int .i64 s] w fun e w' => e = .returned (.tuple #[.agg #[.int .i64 (Aof o p n s), .int .i64 (App o p n s)], .int .i64 (Aerr o p n s)]) ∧ Below w.heap.size w w' := by
  have hB0 : Below w.heap.size w ((w.alloc (.cells #[.int .i64 o, .int .i64 p] 33)).alloc (.cells #[.int .i64 0, .int .i64 0] 33)) := ((Below.refl _ _).alloc (Nat.le_refl _) _).alloc (by simp) _
  by_cases ha : aske o p n = 0
  · by_cases h2 : -2199023255552 ≤ s ∧ s ≤ 2199023255552
    · obtain ⟨e1, e2, e3⟩ := aerr_go ha h2
      rw [e1, e2, e3]
      clear e1 e2 e3
      obtain ⟨h2, h3⟩ := h2
      go_enter Try.func15, Try.ntmps15
      go_wp2_with fail
      refine (asked_any _ _ _ _).mono ?_
      rintro e w1 ⟨rfl, hb⟩
      obtain ⟨c0, c1, c2, c3⟩ := Two.later (k := w.heap.size) (x := .int .i64 o) (y := .int .i64 p) hb (by simp [Two])
      have t := Two.later (k := w.heap.size + 1) (x := .int .i64 0) (y := .int .i64 0) hb (by simp [Two])
      have hB := hB0.trans (hb.mono (by simp; omega))
      clear hB0 hb
      go_wp2_with fail
      refine (adopt_any _ _ _ _ _ ha (by omega) (by omega)).mono ?_
      rintro e w2 ⟨rfl, hb2⟩
      obtain ⟨d0, d1, d2, d3⟩ := Two.later hb2 t
      have hB2 := hB.trans (hb2.mono hB.size)
      clear hb2 hB t c0 c1 c2 c3
      go_wp2_with fail
      exact bodyPost_ret (v := .tuple #[.agg #[.int .i64 (ado o p n s), .int .i64 (adp o p n s)], .int .i64 (cke (newo o p n s) p)]) (by simp [results, Try.results15, go_sem, *]) rfl ⟨rfl, (hB2.setCell (p := ⟨w.heap.size + 1, 0, none⟩) (by simp) _).setCell (p := ⟨w.heap.size + 1, 1, none⟩) (by simp) _⟩
    · obtain ⟨e1, e2, e3⟩ := aerr_arg ha h2
      rw [e1, e2, e3]
      clear e1 e2 e3
      go_enter Try.func15, Try.ntmps15
      go_wp2_with fail
      refine (asked_any _ _ _ _).mono ?_
      rintro e w1 ⟨rfl, hb⟩
      obtain ⟨d0, d1, d2, d3⟩ := Two.later (k := w.heap.size + 1) (x := .int .i64 0) (y := .int .i64 0) hb (by simp [Two])
      have hB := hB0.trans (hb.mono (by simp; omega))
      clear hB0 hb
      by_cases h3 : s < -2199023255552
      · clear h2
        go_wp2_with fail
        exact bodyPost_ret (v := .tuple #[.agg #[.int .i64 0, .int .i64 0], .int .i64 2]) (by simp [results, Try.results15, go_sem, *]) rfl ⟨rfl, (hB.setCell (p := ⟨w.heap.size + 1, 0, none⟩) (by simp) _).setCell (p := ⟨w.heap.size + 1, 1, none⟩) (by simp) _⟩
      · have h4 : 2199023255552 < s := by omega
        clear h2
        go_wp2_with fail
        exact bodyPost_ret (v := .tuple #[.agg #[.int .i64 0, .int .i64 0], .int .i64 2]) (by simp [results, Try.results15, go_sem, *]) rfl ⟨rfl, (hB.setCell (p := ⟨w.heap.size + 1, 0, none⟩) (by simp) _).setCell (p := ⟨w.heap.size + 1, 1, none⟩) (by simp) _⟩
  · obtain ⟨e1, e2, e3⟩ := aerr_bad (s := s) ha
    rw [e1, e2, e3]
    clear e1 e2 e3
    have hne : (aske o p n != 0) = true := by simpa using ha
    go_enter Try.func15, Try.ntmps15
    go_wp2_with fail
    refine (asked_any _ _ _ _).mono ?_
    rintro e w1 ⟨rfl, hb⟩
    obtain ⟨d0, d1, d2, d3⟩ := Two.later (k := w.heap.size + 1) (x := .int .i64 0) (y := .int .i64 0) hb (by simp [Two])
    have hB := hB0.trans (hb.mono (by simp; omega))
    clear hB0 hb
    go_wp2_with fail
    exact bodyPost_ret (v := .tuple #[.agg #[.int .i64 0, .int .i64 0], .int .i64 (aske o p n)]) (by simp [results, Try.results15, go_sem, *]) rfl ⟨rfl, (hB.setCell (p := ⟨w.heap.size + 1, 0, none⟩) (by simp) _).setCell (p := ⟨w.heap.size + 1, 1, none⟩) (by simp) _⟩
theorem rAdopted_any (o p n s : Int) (w : World) (hv : vck o p = true) (h0 : 0 ≤ n) (h1 : n ≤ 1099511627776) (h2 : -8796093022208 ≤ s) (h3 : s ≤ 8796093022208) :
    Calls Try.prog 29 #[.agg #[.int .i64 o, .int .i64 p], .int .i64 n, .int .i64 s] w fun e w' => e = .returned (.agg #[.int .i64 (newo o p n s), .int .i64 p]) ∧ Below w.heap.size w w' := by
  have hB0 : Below w.heap.size w ((w.alloc (.cells #[.int .i64 o, .int .i64 p] 33)).alloc (.cells #[.int .i64 0, .int .i64 0] 33)) := ((Below.refl _ _).alloc (Nat.le_refl _) _).alloc (by simp) _
  obtain ⟨l1, l2⟩ := local_lo o p n hv h0 (by omega)
  obtain ⟨a1, a2, a3, a4⟩ := vck_true hv
  by_cases hc : ltime o p n < s
  · have e : newo o p n s = o + s - ltime o p n := by unfold newo; omega
    rw [e]
    clear e
    go_enter Try.func29, Try.ntmps29
    go_wp2_with fail
    refine (rtime_any _ _ _ _ hv h0 (by omega)).mono ?_
    rintro e w1 ⟨rfl, hb⟩
    obtain ⟨c0, c1, c2, c3⟩ := Two.later (k := w.heap.size) (x := .int .i64 o) (y := .int .i64 p) hb (by simp [Two])
    obtain ⟨d0, d1, d2, d3⟩ := Two.later (k := w.heap.size + 1) (x := .int .i64 0) (y := .int .i64 0) hb (by simp [Two])
    have hB := hB0.trans (hb.mono (by simp; omega))
    clear hB0 hb
    go_wp2_with fail
    exact bodyPost_ret (v := .agg #[.int .i64 (o + s - ltime o p n), .int .i64 p]) (by simp [results, Try.results29, go_sem, *]) rfl ⟨rfl, ((hB.setCell (p := ⟨w.heap.size, 0, none⟩) (by simp) _).setCell (p := ⟨w.heap.size + 1, 0, none⟩) (by simp) _).setCell (p := ⟨w.heap.size + 1, 1, none⟩) (by simp) _⟩
  · have e : newo o p n s = o := by unfold newo; omega
    rw [e]
    clear e
    go_enter Try.func29, Try.ntmps29
    go_wp2_with fail
    refine (rtime_any _ _ _ _ hv h0 (by omega)).mono ?_
    rintro e w1 ⟨rfl, hb⟩
    obtain ⟨c0, c1, c2, c3⟩ := Two.later (k := w.heap.size) (x := .int .i64 o) (y := .int .i64 p) hb (by simp [Two])
    obtain ⟨d0, d1, d2, d3⟩ := Two.later (k := w.heap.size + 1) (x := .int .i64 0) (y := .int .i64 0) hb (by simp [Two])
    have hB := hB0.trans (hb.mono (by simp; omega))
    clear hB0 hb
    go_wp2_with fail
    exact bodyPost_ret (v := .agg #[.int .i64 o, .int .i64 p]) (by simp [results, Try.results29, go_sem, *]) rfl ⟨rfl, (hB.setCell (p := ⟨w.heap.size + 1, 0, none⟩) (by simp) _).setCell (p := ⟨w.heap.size + 1, 1, none⟩) (by simp) _⟩
theorem rAdopt_any (o p n s : Int) (w : World) :
    Calls Try.prog 16 #[.agg #[.int .i64 o, .int .i64 p], .int .i64 n, .int .i64 s] w fun e w' => e = .returned (.tuple #[.agg #[.int .i64 (Aof o p n s), .int .i64 (App o p n s)], .int .i64 (Aerr o p n s)]) ∧ Below w.heap.size w w' := by
  have hB0 : Below w.heap.size w ((w.alloc (.cells #[.int .i64 o, .int .i64 p] 33)).alloc (.cells #[.int .i64 0, .int .i64 0] 33)) := ((Below.refl _ _).alloc (Nat.le_refl _) _).alloc (by simp) _
  by_cases ha : aske o p n = 0
  · have hne : (aske o p n == 0) = true := by simpa using ha
    by_cases h2 : -2199023255552 ≤ s ∧ s ≤ 2199023255552
    · obtain ⟨e1, e2, e3⟩ := aerr_go ha h2
      rw [e1, e2, e3]
      clear e1 e2 e3
      obtain ⟨h2, h3⟩ := h2
      obtain ⟨hv, h0, h1⟩ := aske_zero ha
      cases hk : vck (newo o p n s) p
      · have ck : cke (newo o p n s) p = 8 := by simp [cke, hk]
        have e2 : ado o p n s = 0 := by simp [ado, ck]
        have e3 : adp o p n s = 0 := by simp [adp, ck]
        rw [e2, e3, ck]
        clear e2 e3
        go_enter Try.func16, Try.ntmps16
        go_wp2_with fail
        refine (rasked_any _ _ _ _).mono ?_
        rintro e w1 ⟨rfl, hb⟩
        obtain ⟨c0, c1, c2, c3⟩ := Two.later (k := w.heap.size) (x := .int .i64 o) (y := .int .i64 p) hb (by simp [Two])
        have t := Two.later (k := w.heap.size + 1) (x := .int .i64 0) (y := .int .i64 0) hb (by simp [Two])
        have hB := hB0.trans (hb.mono (by simp; omega))
        clear hB0 hb
        go_wp2_with fail
        refine (rAdopted_any _ _ _ _ _ hv h0 h1 (by omega) (by omega)).mono ?_
        rintro e w2 ⟨rfl, hb2⟩
        have t2 := Two.later hb2 t
        have hB2 := hB.trans (hb2.mono hB.size)
        have lt2 := World.block_lt_of_cell? w2 _ t2.1
        clear hb2 hB t c0 c1 c2 c3
        obtain ⟨d0, d1, d2, d3⟩ := t2
        go_wp2_with fail
        refine (rcheck_any _ _ _).mono ?_
        rintro e w3 ⟨rfl, hb3⟩
        obtain ⟨i0, i1, i2, i3⟩ := Two.later (k := w.heap.size + 1) (x := .int .i64 0) (y := .int .i64 0) hb3 (by simp [Two, go_sem, *])
        obtain ⟨j0, j1, _, _⟩ := Two.later (k := w2.heap.size) (x := .int .i64 (newo o p n s)) (y := .int .i64 p) hb3 (by simp [Two, go_sem])
        have hB3 := (hB2.alloc hB2.size _).trans (hb3.mono (by have := hB2.size; simp; omega))
        clear hb3 hB2 d0 d1 d2 d3 lt2
        go_wp2_with fail
        exact bodyPost_ret (v := .tuple #[.agg #[.int .i64 (0), .int .i64 (0)], .int .i64 8]) (by simp [results, Try.results16, go_sem, *]) rfl ⟨rfl, (hB3.setCell (p := ⟨w.heap.size + 1, 0, none⟩) (by simp) _).setCell (p := ⟨w.heap.size + 1, 1, none⟩) (by simp) _⟩
      · have ck : cke (newo o p n s) p = 0 := by simp [cke, hk]
        have e2 : ado o p n s = newo o p n s := by simp [ado, ck]
        have e3 : adp o p n s = p := by simp [adp, ck]
        rw [e2, e3, ck]
        clear e2 e3
        go_enter Try.func16, Try.ntmps16
        go_wp2_with fail
        refine (rasked_any _ _ _ _).mono ?_
        rintro e w1 ⟨rfl, hb⟩
        obtain ⟨c0, c1, c2, c3⟩ := Two.later (k := w.heap.size) (x := .int .i64 o) (y := .int .i64 p) hb (by simp [Two])
        have t := Two.later (k := w.heap.size + 1) (x := .int .i64 0) (y := .int .i64 0) hb (by simp [Two])
        have hB := hB0.trans (hb.mono (by simp; omega))
        clear hB0 hb
        go_wp2_with fail
        refine (rAdopted_any _ _ _ _ _ hv h0 h1 (by omega) (by omega)).mono ?_
        rintro e w2 ⟨rfl, hb2⟩
        have t2 := Two.later hb2 t
        have hB2 := hB.trans (hb2.mono hB.size)
        have lt2 := World.block_lt_of_cell? w2 _ t2.1
        clear hb2 hB t c0 c1 c2 c3
        obtain ⟨d0, d1, d2, d3⟩ := t2
        go_wp2_with fail
        refine (rcheck_any _ _ _).mono ?_
        rintro e w3 ⟨rfl, hb3⟩
        obtain ⟨i0, i1, i2, i3⟩ := Two.later (k := w.heap.size + 1) (x := .int .i64 0) (y := .int .i64 0) hb3 (by simp [Two, go_sem, *])
        obtain ⟨j0, j1, _, _⟩ := Two.later (k := w2.heap.size) (x := .int .i64 (newo o p n s)) (y := .int .i64 p) hb3 (by simp [Two, go_sem])
        have hB3 := (hB2.alloc hB2.size _).trans (hb3.mono (by have := hB2.size; simp; omega))
        clear hb3 hB2 d0 d1 d2 d3 lt2
        go_wp2_with fail
        exact bodyPost_ret (v := .tuple #[.agg #[.int .i64 (newo o p n s), .int .i64 (p)], .int .i64 0]) (by simp [results, Try.results16, go_sem, *]) rfl ⟨rfl, (hB3.setCell (p := ⟨w.heap.size + 1, 0, none⟩) (by simp) _).setCell (p := ⟨w.heap.size + 1, 1, none⟩) (by simp) _⟩
    · obtain ⟨e1, e2, e3⟩ := aerr_arg ha h2
      rw [e1, e2, e3]
      clear e1 e2 e3
      by_cases h3 : s < -2199023255552
      · clear h2
        go_enter Try.func16, Try.ntmps16
        go_wp2_with fail
        refine (rasked_any _ _ _ _).mono ?_
        rintro e w1 ⟨rfl, hb⟩
        obtain ⟨d0, d1, d2, d3⟩ := Two.later (k := w.heap.size + 1) (x := .int .i64 0) (y := .int .i64 0) hb (by simp [Two])
        have hB := hB0.trans (hb.mono (by simp; omega))
        clear hB0 hb
        go_wp2_with fail
        exact bodyPost_ret (v := .tuple #[.agg #[.int .i64 0, .int .i64 0], .int .i64 2]) (by simp [results, Try.results16, go_sem, *]) rfl ⟨rfl, (hB.setCell (p := ⟨w.heap.size + 1, 0, none⟩) (by simp) _).setCell (p := ⟨w.heap.size + 1, 1, none⟩) (by simp) _⟩
      · have h4 : 2199023255552 < s := by omega
        clear h2
        go_enter Try.func16, Try.ntmps16
        go_wp2_with fail
        refine (rasked_any _ _ _ _).mono ?_
        rintro e w1 ⟨rfl, hb⟩
        obtain ⟨d0, d1, d2, d3⟩ := Two.later (k := w.heap.size + 1) (x := .int .i64 0) (y := .int .i64 0) hb (by simp [Two])
        have hB := hB0.trans (hb.mono (by simp; omega))
        clear hB0 hb
        go_wp2_with fail
        exact bodyPost_ret (v := .tuple #[.agg #[.int .i64 0, .int .i64 0], .int .i64 2]) (by simp [results, Try.results16, go_sem, *]) rfl ⟨rfl, (hB.setCell (p := ⟨w.heap.size + 1, 0, none⟩) (by simp) _).setCell (p := ⟨w.heap.size + 1, 1, none⟩) (by simp) _⟩
  · obtain ⟨e1, e2, e3⟩ := aerr_bad (s := s) ha
    rw [e1, e2, e3]
    clear e1 e2 e3
    have hne : (aske o p n == 0) = false := by simpa using ha
    have hne2 : (aske o p n != 0) = true := by simpa using ha
    go_enter Try.func16, Try.ntmps16
    go_wp2_with fail
    refine (rasked_any _ _ _ _).mono ?_
    rintro e w1 ⟨rfl, hb⟩
    obtain ⟨d0, d1, d2, d3⟩ := Two.later (k := w.heap.size + 1) (x := .int .i64 0) (y := .int .i64 0) hb (by simp [Two])
    have hB := hB0.trans (hb.mono (by simp; omega))
    clear hB0 hb
    go_wp2_with fail
    exact bodyPost_ret (v := .tuple #[.agg #[.int .i64 0, .int .i64 0], .int .i64 (aske o p n)]) (by simp [results, Try.results16, go_sem, *]) rfl ⟨rfl, (hB.setCell (p := ⟨w.heap.size + 1, 0, none⟩) (by simp) _).setCell (p := ⟨w.heap.size + 1, 1, none⟩) (by simp) _⟩
end Go.Proofs.Ytpbpmabnmakdoaa
