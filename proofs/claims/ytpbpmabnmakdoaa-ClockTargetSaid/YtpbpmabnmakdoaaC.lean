/- Contracts of Local, Adopt and their references. Each holds for every input. -/
import Derived.Test.YtpbpmabnmakdoaaB
namespace Go.Proofs.Ytpbpmabnmakdoaa
open Go.RowKit
/-- what Adopt answers -/
def newo' (o p n s : Int) : Int := newo o p n s
def Aerr (o p n s : Int) : Int := if aske o p n = 0 then (if -2199023255552 ≤ s ∧ s ≤ 2199023255552 then cke (newo o p n s) p else 2) else aske o p n
def Aof (o p n s : Int) : Int := if Aerr o p n s = 0 then newo o p n s else 0
def App (o p n s : Int) : Int := if Aerr o p n s = 0 then p else 0
theorem aske_zero {o p n : Int} (h : aske o p n = 0) : vck o p = true ∧ 0 ≤ n ∧ n ≤ 1099511627776 := by
  unfold aske at h
  split at h
  · split at h
    · rename_i h1 h2; exact ⟨h1, h2⟩
    · cases h
  · cases h
theorem cke_vck {o p : Int} : (cke o p = 0 ↔ vck o p = true) ∧ (cke o p ≠ 0 → cke o p = 8) := by
  unfold cke; cases vck o p <;> simp
def ado (o p n s : Int) : Int := if cke (newo o p n s) p = 0 then newo o p n s else 0
def adp (o p n s : Int) : Int := if cke (newo o p n s) p = 0 then p else 0
theorem adopt_any (o p n s : Int) (w : World) (ha : aske o p n = 0) (h2 : -8796093022208 ≤ s) (h3 : s ≤ 8796093022208) :
    Calls Try.prog 28 #[.agg #[.int .i64 o, .int .i64 p], .int .i64 n, .int .i64 s] w fun e w' =>
      e = .returned (.tuple #[.agg #[.int .i64 (ado o p n s), .int .i64 (adp o p n s)], .int .i64 (cke (newo o p n s) p)]) ∧ Below w.heap.size w w' := by
  unfold ado adp
  obtain ⟨hv, h0, h1⟩ := aske_zero ha
  rcases Int.lt_or_le s (ltime o p n) with hc | hc
  · have e : newo o p n s = o := by unfold newo; omega
    have hk : cke o p = 0 := cke_vck.1.2 hv
    rw [e, hk]
    exact adopt_stay o p n s w hv h0 h1 h2 h3 hc
  · have e : newo o p n s = o + (s - ltime o p n) := by unfold newo; omega
    rw [e]
    cases hk : vck (o + (s - ltime o p n)) p
    · have : cke (o + (s - ltime o p n)) p = 8 := by simp [cke, hk]
      rw [this]
      exact adopt_no o p n s w hv h0 h1 h2 h3 hc hk
    · have : cke (o + (s - ltime o p n)) p = 0 := by simp [cke, hk]
      rw [this]
      exact adopt_yes o p n s w hv h0 h1 h2 h3 hc hk
/-- what Local answers -/
def Lof (o p n : Int) : Int := if aske o p n = 0 then ltime o p n else 0
theorem Local_any (o p n : Int) (w : World) :
    Calls Try.prog 13 #[.agg #[.int .i64 o, .int .i64 p], .int .i64 n] w fun e w' => e = .returned (.tuple #[.int .i64 (Lof o p n), .int .i64 (aske o p n)]) ∧ Below w.heap.size w w' := by
  by_cases ha : aske o p n = 0
  · obtain ⟨hv, h0, h1⟩ := aske_zero ha
    have hl : Lof o p n = ltime o p n := if_pos ha
    have HL := Lib.hid hl; clear hl
    go_enter Try.func13, Try.ntmps13
    go_wp2_with fail
    refine (asked_any _ _ _ _).mono ?_
    rintro e w1 ⟨rfl, hb⟩
    have c0 := later hb (b := w.heap.size) (o := 0) (x := .int .i64 o) (by simp)
    have c1 := later hb (b := w.heap.size) (o := 1) (x := .int .i64 p) (by simp)
    have hB := ((Below.refl w.heap.size w).alloc (Nat.le_refl _) _).trans (hb.mono (by simp))
    go_wp2_with fail
    refine (local_any _ _ _ _ hv h0 (by omega)).mono ?_
    rintro e w2 ⟨rfl, hb2⟩
    have hB2 := hB.trans (hb2.mono hB.size)
    go_wp2_with fail
    go_ret2
    exact ⟨by rw [HL.out, ha]; rfl, hB2⟩
  · have hl : Lof o p n = 0 := if_neg ha
    have HL := Lib.hid hl; clear hl
    have hne : (aske o p n != 0) = true := by simpa using ha
    go_enter Try.func13, Try.ntmps13
    go_wp2_with fail
    refine (asked_any _ _ _ _).mono ?_
    rintro e w1 ⟨rfl, hb⟩
    have hB := ((Below.refl w.heap.size w).alloc (Nat.le_refl _) _).trans (hb.mono (by simp))
    go_wp2_with fail
    go_ret2
    exact ⟨by rw [HL.out]; rfl, hB⟩
theorem rLocal_any (o p n : Int) (w : World) :
    Calls Try.prog 14 #[.agg #[.int .i64 o, .int .i64 p], .int .i64 n] w fun e w' => e = .returned (.tuple #[.int .i64 (Lof o p n), .int .i64 (aske o p n)]) ∧ Below w.heap.size w w' := by
  by_cases ha : aske o p n = 0
  · obtain ⟨hv, h0, h1⟩ := aske_zero ha
    have hl : Lof o p n = ltime o p n := if_pos ha
    have HL := Lib.hid hl; clear hl
    go_enter Try.func14, Try.ntmps14
    go_wp2_with fail
    refine (rasked_any _ _ _ _).mono ?_
    rintro e w1 ⟨rfl, hb⟩
    have c0 := later hb (b := w.heap.size) (o := 0) (x := .int .i64 o) (by simp)
    have c1 := later hb (b := w.heap.size) (o := 1) (x := .int .i64 p) (by simp)
    have hB := ((Below.refl w.heap.size w).alloc (Nat.le_refl _) _).trans (hb.mono (by simp))
    go_wp2_with fail
    refine (rtime_any _ _ _ _ hv h0 (by omega)).mono ?_
    rintro e w2 ⟨rfl, hb2⟩
    have hB2 := hB.trans (hb2.mono hB.size)
    go_wp2_with fail
    go_ret2
    exact ⟨by rw [HL.out, ha]; rfl, hB2⟩
  · have hl : Lof o p n = 0 := if_neg ha
    have HL := Lib.hid hl; clear hl
    have hne : (aske o p n != 0) = true := by simpa using ha
    go_enter Try.func14, Try.ntmps14
    go_wp2_with fail
    refine (rasked_any _ _ _ _).mono ?_
    rintro e w1 ⟨rfl, hb⟩
    have hB := ((Below.refl w.heap.size w).alloc (Nat.le_refl _) _).trans (hb.mono (by simp))
    go_wp2_with fail
    go_ret2
    exact ⟨by rw [HL.out]; rfl, hB⟩
end Go.Proofs.Ytpbpmabnmakdoaa
