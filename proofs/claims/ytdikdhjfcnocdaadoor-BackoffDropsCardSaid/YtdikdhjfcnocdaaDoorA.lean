/- Contracts of the functions that reckon windows, and of their references. The table of windows reads as the program lays it (Win). -/
import Derived.Test.YtdikdhjfcnocdaaDoorProg
import Derived.Test.YtdikdhjfcnocdaaDoorQ
import Derived.WalkKit
import Derived.WalkSmall
import Derived.BigQuiet
import Derived.Lib.Hide
namespace Go.Proofs.YtdikdhjfcnocdaaDoor
open Go.RowKit
/-- the table of windows as the program's text lays it -/
def Win (w : World) : Prop := w.cell? ⟨0, 0, none⟩ = some (.int .i64 15) ∧ w.cell? ⟨0, 1, none⟩ = some (.int .i64 1023) ∧ w.cell? ⟨0, 2, none⟩ = some (.int .i64 15) ∧ w.cell? ⟨0, 3, none⟩ = some (.int .i64 1023) ∧
  w.cell? ⟨0, 4, none⟩ = some (.int .i64 7) ∧ w.cell? ⟨0, 5, none⟩ = some (.int .i64 15) ∧ w.cell? ⟨0, 6, none⟩ = some (.int .i64 3) ∧ w.cell? ⟨0, 7, none⟩ = some (.int .i64 7)
theorem Win.later {W W' : World} (hb : Below W.heap.size W W') (h : Win W) : Win W' :=
  ⟨Go.Proofs.YtdikdhjfcnocdaaDoor.later hb h.1, Go.Proofs.YtdikdhjfcnocdaaDoor.later hb h.2.1, Go.Proofs.YtdikdhjfcnocdaaDoor.later hb h.2.2.1, Go.Proofs.YtdikdhjfcnocdaaDoor.later hb h.2.2.2.1, Go.Proofs.YtdikdhjfcnocdaaDoor.later hb h.2.2.2.2.1, Go.Proofs.YtdikdhjfcnocdaaDoor.later hb h.2.2.2.2.2.1, Go.Proofs.YtdikdhjfcnocdaaDoor.later hb h.2.2.2.2.2.2.1, Go.Proofs.YtdikdhjfcnocdaaDoor.later hb h.2.2.2.2.2.2.2⟩
theorem Win.pos {W : World} (h : Win W) : 0 < W.heap.size := World.block_lt_of_cell? W _ h.1
/-- the smallest and the largest window of a category -/
def wlo (c : Int) : Int := if c ≤ 1 then 15 else if c = 2 then 7 else 3
def whi (c : Int) : Int := if c ≤ 1 then 1023 else if c = 2 then 15 else 7
/-- the window after f failures -/
def aft (c f : Int) : Int := min (whi c) ((wlo c + 1) * 2 ^ f.toNat - 1)
theorem pow7 (f : Int) (h0 : 0 ≤ f) (h : f ≤ 6) : (1 : Int) ≤ 2 ^ f.toNat ∧ (2 : Int) ^ f.toNat ≤ 64 := by
  have : f = 0 ∨ f = 1 ∨ f = 2 ∨ f = 3 ∨ f = 4 ∨ f = 5 ∨ f = 6 := by omega
  rcases this with rfl | rfl | rfl | rfl | rfl | rfl | rfl <;> decide
theorem aft_bd (c f : Int) (h0 : 0 ≤ f) (h : f ≤ 6) : 3 ≤ aft c f ∧ aft c f ≤ 1023 := by
  obtain ⟨h1, h2⟩ := pow7 f h0 h
  unfold aft wlo whi
  generalize (2 : Int) ^ f.toNat = x at *
  split <;> (try split) <;> omega
theorem after_any (c f : Int) (w : World) (hw : Win w) (hc0 : 0 ≤ c) (hc : c ≤ 3) (h0 : 0 ≤ f) (h : f ≤ 6) :
    Calls Tryd.prog 24 #[.int .u8 c, .int .i64 f] w fun e w' => e = .returned (.int .i64 (aft c f)) ∧ Below w.heap.size w w' := by
  have hpos := hw.pos
  obtain ⟨p1, p2⟩ := pow7 f h0 h
  have hcc : c = 0 ∨ c = 1 ∨ c = 2 ∨ c = 3 := by omega
  obtain ⟨w0, w1, w2, w3, w4, w5, w6, w7⟩ := hw
  have hx : ∃ x : Int, x = 2 ^ f.toNat := ⟨_, rfl⟩
  rcases hcc with rfl | rfl | rfl | rfl
  · have ha : aft 0 f = min (1023 : Int) ((16 : Int) * 2 ^ f.toNat - 1) := rfl
    have HA := Lib.hid ha
    clear ha
    have p0 := Past.cell (W := (w.alloc (.cells #[.int .i64 15, .int .i64 1023] 69))) (b := w.heap.size) (o := 0) (x := .int .i64 15) (by simp)
    have q0 := Past.cell (W := (w.alloc (.cells #[.int .i64 15, .int .i64 1023] 69))) (b := w.heap.size) (o := 1) (x := .int .i64 1023) (by simp)
    have e0 := IntWalk.i64_in (16 : Int) (by omega)
    have e1 := IntWalk.i64_in ((16 : Int) * 2 ^ f.toNat) (by omega)
    have e2 := IntWalk.i64_in ((16 : Int) * 2 ^ f.toNat - 1) (by omega)
    by_cases hlt : (16 : Int) * (2 : Int) ^ f.toNat - 1 < (1023 : Int)
    all_goals
      go_enter Tryd.func24, Tryd.ntmps24
      go_wp2_with fail
      refine wp_region_quiet (C := fun w' => ∃ v : Past (w.alloc (.cells #[.int .i64 15, .int .i64 1023] 69)), w' = v.w) (by kernel_rfl) (by kernel_rfl) (Past.drew0 _) ?_
      repeat (quiet_step (fail))
      refine wpQuiet_nil ?_
      intro _ hw'
      obtain ⟨v, hw''⟩ := hw'
      subst hw''
      clear e0 e1 e2 hx
      go_wp2_with fail
      go_ret
      refine ⟨?_, ((Below.refl _ _).alloc (Nat.le_refl _) _).trans (v.2.mono (by simp))⟩
      rw [HA.out]
      first
        | (rw [show min (1023 : Int) ((16 : Int) * (2 : Int) ^ f.toNat - 1) = (16 : Int) * (2 : Int) ^ f.toNat - 1 from by omega]; rfl)
        | (rw [show min (1023 : Int) ((16 : Int) * (2 : Int) ^ f.toNat - 1) = (1023 : Int) from by omega]; rfl)
  · have ha : aft 1 f = min (1023 : Int) ((16 : Int) * 2 ^ f.toNat - 1) := rfl
    have HA := Lib.hid ha
    clear ha
    have p0 := Past.cell (W := (w.alloc (.cells #[.int .i64 15, .int .i64 1023] 69))) (b := w.heap.size) (o := 0) (x := .int .i64 15) (by simp)
    have q0 := Past.cell (W := (w.alloc (.cells #[.int .i64 15, .int .i64 1023] 69))) (b := w.heap.size) (o := 1) (x := .int .i64 1023) (by simp)
    have e0 := IntWalk.i64_in (16 : Int) (by omega)
    have e1 := IntWalk.i64_in ((16 : Int) * 2 ^ f.toNat) (by omega)
    have e2 := IntWalk.i64_in ((16 : Int) * 2 ^ f.toNat - 1) (by omega)
    by_cases hlt : (16 : Int) * (2 : Int) ^ f.toNat - 1 < (1023 : Int)
    all_goals
      go_enter Tryd.func24, Tryd.ntmps24
      go_wp2_with fail
      refine wp_region_quiet (C := fun w' => ∃ v : Past (w.alloc (.cells #[.int .i64 15, .int .i64 1023] 69)), w' = v.w) (by kernel_rfl) (by kernel_rfl) (Past.drew0 _) ?_
      repeat (quiet_step (fail))
      refine wpQuiet_nil ?_
      intro _ hw'
      obtain ⟨v, hw''⟩ := hw'
      subst hw''
      clear e0 e1 e2 hx
      go_wp2_with fail
      go_ret
      refine ⟨?_, ((Below.refl _ _).alloc (Nat.le_refl _) _).trans (v.2.mono (by simp))⟩
      rw [HA.out]
      first
        | (rw [show min (1023 : Int) ((16 : Int) * (2 : Int) ^ f.toNat - 1) = (16 : Int) * (2 : Int) ^ f.toNat - 1 from by omega]; rfl)
        | (rw [show min (1023 : Int) ((16 : Int) * (2 : Int) ^ f.toNat - 1) = (1023 : Int) from by omega]; rfl)
  · have ha : aft 2 f = min (15 : Int) ((8 : Int) * 2 ^ f.toNat - 1) := rfl
    have HA := Lib.hid ha
    clear ha
    have p0 := Past.cell (W := (w.alloc (.cells #[.int .i64 7, .int .i64 15] 69))) (b := w.heap.size) (o := 0) (x := .int .i64 7) (by simp)
    have q0 := Past.cell (W := (w.alloc (.cells #[.int .i64 7, .int .i64 15] 69))) (b := w.heap.size) (o := 1) (x := .int .i64 15) (by simp)
    have e0 := IntWalk.i64_in (8 : Int) (by omega)
    have e1 := IntWalk.i64_in ((8 : Int) * 2 ^ f.toNat) (by omega)
    have e2 := IntWalk.i64_in ((8 : Int) * 2 ^ f.toNat - 1) (by omega)
    by_cases hlt : (8 : Int) * (2 : Int) ^ f.toNat - 1 < (15 : Int)
    all_goals
      go_enter Tryd.func24, Tryd.ntmps24
      go_wp2_with fail
      refine wp_region_quiet (C := fun w' => ∃ v : Past (w.alloc (.cells #[.int .i64 7, .int .i64 15] 69)), w' = v.w) (by kernel_rfl) (by kernel_rfl) (Past.drew0 _) ?_
      repeat (quiet_step (fail))
      refine wpQuiet_nil ?_
      intro _ hw'
      obtain ⟨v, hw''⟩ := hw'
      subst hw''
      clear e0 e1 e2 hx
      go_wp2_with fail
      go_ret
      refine ⟨?_, ((Below.refl _ _).alloc (Nat.le_refl _) _).trans (v.2.mono (by simp))⟩
      rw [HA.out]
      first
        | (rw [show min (15 : Int) ((8 : Int) * (2 : Int) ^ f.toNat - 1) = (8 : Int) * (2 : Int) ^ f.toNat - 1 from by omega]; rfl)
        | (rw [show min (15 : Int) ((8 : Int) * (2 : Int) ^ f.toNat - 1) = (15 : Int) from by omega]; rfl)
  · have ha : aft 3 f = min (7 : Int) ((4 : Int) * 2 ^ f.toNat - 1) := rfl
    have HA := Lib.hid ha
    clear ha
    have p0 := Past.cell (W := (w.alloc (.cells #[.int .i64 3, .int .i64 7] 69))) (b := w.heap.size) (o := 0) (x := .int .i64 3) (by simp)
    have q0 := Past.cell (W := (w.alloc (.cells #[.int .i64 3, .int .i64 7] 69))) (b := w.heap.size) (o := 1) (x := .int .i64 7) (by simp)
    have e0 := IntWalk.i64_in (4 : Int) (by omega)
    have e1 := IntWalk.i64_in ((4 : Int) * 2 ^ f.toNat) (by omega)
    have e2 := IntWalk.i64_in ((4 : Int) * 2 ^ f.toNat - 1) (by omega)
    by_cases hlt : (4 : Int) * (2 : Int) ^ f.toNat - 1 < (7 : Int)
    all_goals
      go_enter Tryd.func24, Tryd.ntmps24
      go_wp2_with fail
      refine wp_region_quiet (C := fun w' => ∃ v : Past (w.alloc (.cells #[.int .i64 3, .int .i64 7] 69)), w' = v.w) (by kernel_rfl) (by kernel_rfl) (Past.drew0 _) ?_
      repeat (quiet_step (fail))
      refine wpQuiet_nil ?_
      intro _ hw'
      obtain ⟨v, hw''⟩ := hw'
      subst hw''
      clear e0 e1 e2 hx
      go_wp2_with fail
      go_ret
      refine ⟨?_, ((Below.refl _ _).alloc (Nat.le_refl _) _).trans (v.2.mono (by simp))⟩
      rw [HA.out]
      first
        | (rw [show min (7 : Int) ((4 : Int) * (2 : Int) ^ f.toNat - 1) = (4 : Int) * (2 : Int) ^ f.toNat - 1 from by omega]; rfl)
        | (rw [show min (7 : Int) ((4 : Int) * (2 : Int) ^ f.toNat - 1) = (7 : Int) from by omega]; rfl)
end Go.Proofs.YtdikdhjfcnocdaaDoor
