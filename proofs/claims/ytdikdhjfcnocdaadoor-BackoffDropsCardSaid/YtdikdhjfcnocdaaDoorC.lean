/- Contracts of New and step, and of the reference's Window, Check, Fresh, New and Fail. -/
import Derived.Test.YtdikdhjfcnocdaaDoorB
namespace Go.Proofs.YtdikdhjfcnocdaaDoor
open Go.RowKit
/-- what New answers -/
def nOk (c d : Int) : Bool := decide (c ≤ 3) && drw d
def Nerr (c d : Int) : Int := if nOk c d then 0 else 2
def Nc (c d : Int) : Int := if nOk c d then c else 0
def Nw (c d : Int) : Int := if nOk c d then aft c 0 else 0
def Nn (c d : Int) : Int := if nOk c d then cnt c 0 d else 0
theorem New_yes {c d : Int} (h : nOk c d = true) : Nerr c d = 0 ∧ Nc c d = c ∧ Nw c d = aft c 0 ∧ Nn c d = cnt c 0 d := by simp [Nerr, Nc, Nw, Nn, h]
theorem New_no {c d : Int} (h : nOk c d = false) : Nerr c d = 2 ∧ Nc c d = 0 ∧ Nw c d = 0 ∧ Nn c d = 0 := by simp [Nerr, Nc, Nw, Nn, h]
theorem New_any (c d : Int) (w : World) (hw : Win w) (hc0 : 0 ≤ c) (hc1 : c ≤ 255) :
    Calls Tryd.prog 13 #[.int .u8 c, .int .i64 d] w fun e w' => e = .returned (.tuple #[.agg #[.int .u8 (Nc c d), .int .i64 (Nw c d), .int .i64 (Nn c d), .int .i64 0], .int .i64 (Nerr c d)]) ∧ Below w.heap.size w w' := by
  have hB0 : Below w.heap.size w (w.alloc (.cells #[.int .u8 0, .int .i64 0, .int .i64 0, .int .i64 0] 23)) := (Below.refl _ _).alloc (Nat.le_refl _) _
  by_cases h1 : c ≤ 3
  · cases hd : drw d
    · obtain ⟨e1, e2, e3, e4⟩ := New_no (c := c) (d := d) (by simp [nOk, hd])
      rw [e1, e2, e3, e4]
      clear e1 e2 e3 e4
      go_enter Tryd.func13, Tryd.ntmps13
      go_wp2_with (go_at_call 25; refine (odd_any _ _).mono ?_; rintro e w' ⟨rfl, rfl⟩)
      exact bodyPost_ret (v := .tuple #[.agg #[.int .u8 0, .int .i64 0, .int .i64 0, .int .i64 0], .int .i64 2]) (by simp [results, Tryd.results13, go_sem]) rfl ⟨rfl, (by repeat (first | assumption | exact Below.refl _ _ | refine Below.setCell ?_ (by simp) _ | refine Below.alloc ?_ (Nat.le_refl _) _ | refine Below.alloc ?_ (by simp) _))⟩
    · obtain ⟨e1, e2, e3, e4⟩ := New_yes (c := c) (d := d) (by simp [nOk, hd, h1])
      rw [e1, e2, e3, e4]
      clear e1 e2 e3 e4
      obtain ⟨d0, d1⟩ := drw_true hd
      go_enter Tryd.func13, Tryd.ntmps13
      go_wp2_with (go_at_call 25; refine (odd_any _ _).mono ?_; rintro e w' ⟨rfl, rfl⟩)
      refine (drawn_any _ _ _ _ (hw.alloc _) hc0 h1 (by omega) (by omega) d0 d1).mono ?_
      rintro e w1 ⟨rfl, hb⟩
      obtain ⟨c0, c1, c2, c3, f0, f1, f2, f3⟩ := Four.later (k := w.heap.size) (x := .int .u8 0) (y := .int .i64 0) (z := .int .i64 0) (u := .int .i64 0) hb (by simp [Four])
      have hB := hB0.trans (hb.mono hB0.size)
      clear hB0 hb
      go_wp2_with fail
      exact bodyPost_ret (v := .tuple #[.agg #[.int .u8 c, .int .i64 (aft c 0), .int .i64 (cnt c 0 d), .int .i64 0], .int .i64 0]) (by simp [results, Tryd.results13, go_sem, *]) rfl ⟨rfl, ((((hB).setCell (p := ⟨w.heap.size, 0, none⟩) (by simp) _).setCell (p := ⟨w.heap.size, 1, none⟩) (by simp) _).setCell (p := ⟨w.heap.size, 2, none⟩) (by simp) _).setCell (p := ⟨w.heap.size, 3, none⟩) (by simp) _⟩
  · obtain ⟨e1, e2, e3, e4⟩ := New_no (c := c) (d := d) (by simp [nOk, h1])
    have h2 : 3 < c := by omega
    rw [e1, e2, e3, e4]
    clear e1 e2 e3 e4 h1
    go_enter Tryd.func13, Tryd.ntmps13
    go_wp2_with (go_at_call 25; refine (odd_any _ _).mono ?_; rintro e w' ⟨rfl, rfl⟩)
    exact bodyPost_ret (v := .tuple #[.agg #[.int .u8 0, .int .i64 0, .int .i64 0, .int .i64 0], .int .i64 2]) (by simp [results, Tryd.results13, go_sem]) rfl ⟨rfl, (by repeat (first | assumption | exact Below.refl _ _ | refine Below.setCell ?_ (by simp) _ | refine Below.alloc ?_ (Nat.le_refl _) _ | refine Below.alloc ?_ (by simp) _))⟩
set_option maxHeartbeats 2000000 in
theorem rWindow_any (c f : Int) (w : World) (hc0 : 0 ≤ c) (hc1 : c ≤ 255) :
    Calls Tryd.prog 12 #[.int .u8 c, .int .i64 f] w fun e w' => e = .returned (.tuple #[.int .i64 (wnd c f), .int .i64 (wnde c f)]) ∧ Below w.heap.size w w' := by
  have hB0 : Below w.heap.size w ((w.alloc (.cells #[.int .i64 15, .int .i64 15, .int .i64 7, .int .i64 3] 3)).alloc (.cells #[.int .i64 1023, .int .i64 1023, .int .i64 15, .int .i64 7] 3)) := ((Below.refl _ _).alloc (Nat.le_refl _) _).alloc (by simp) _
  cases hk : wndOk c f
  · have e1 : wnd c f = 0 := by simp [wnd, hk]
    have e2 : wnde c f = 2 := by simp [wnde, hk]
    rw [e1, e2]
    clear e1 e2
    by_cases h1 : 3 < c
    · clear hk
      go_enter Tryd.func12, Tryd.ntmps12
      go_wp2_with fail
      go_ret2
      exact ⟨rfl, hB0⟩
    · by_cases h2 : f < 0
      · clear hk
        go_enter Tryd.func12, Tryd.ntmps12
        go_wp2_with fail
        go_ret2
        exact ⟨rfl, hB0⟩
      · have h3 : 6 < f := by have := wndOk_false hk; omega
        clear hk
        go_enter Tryd.func12, Tryd.ntmps12
        go_wp2_with fail
        go_ret2
        exact ⟨rfl, hB0⟩
  · have e1 : wnd c f = aft c f := by simp [wnd, hk]
    have e2 : wnde c f = 0 := by simp [wnde, hk]
    rw [e1, e2]
    obtain ⟨h1, h2, h3⟩ := wndOk_true hk
    clear e1 e2 hk
    have hcc : c = 0 ∨ c = 1 ∨ c = 2 ∨ c = 3 := by omega
    obtain ⟨p1, p2⟩ := pow7 f h2 h3
    rcases hcc with rfl | rfl | rfl | rfl
    · have ha : aft 0 f = min (1023 : Int) ((16 : Int) * 2 ^ f.toNat - 1) := rfl
      have HA := Lib.hid ha
      clear ha
      go_enter Tryd.func12, Tryd.ntmps12
      go_wp2_with fail
      go_loop [8, 9] (fun x i => ∃ k : Nat, k ≤ f ∧ i = .int .i64 k ∧ x = .int .i64 ((16 : Int) * 2 ^ k)) (fun _ i => (f - intOf i).toNat)
      case atStart => exact ⟨0, by omega, rfl, rfl⟩
      case round =>
        obtain ⟨k, hk, rfl, rfl⟩ := hrel
        have hk2 : k = f.toNat ∨ k < f := by omega
        obtain ⟨q1, q2⟩ := pow7 k (by omega) (by omega)
        simp only [Int.toNat_natCast] at q1 q2
        rcases hk2 with rfl | hk2
        · have hf : ((f.toNat : Nat) : Int) = f := by omega
          have hf2 : ¬ ((f.toNat : Nat) : Int) < f := by omega
          clear hf
          by_cases hlt : (1023 : Int) < (16 : Int) * (2 : Int) ^ f.toNat - 1
          all_goals try (exfalso; omega)
          all_goals
            go_wp2_with fail
            go_ret2
            refine ⟨?_, hB0⟩
            rw [HA.out]
            first
              | (rw [show min (1023 : Int) ((16 : Int) * (2 : Int) ^ f.toNat - 1) = (16 : Int) * (2 : Int) ^ f.toNat - 1 from by omega]; first | done | rfl)
              | (rw [show min (1023 : Int) ((16 : Int) * (2 : Int) ^ f.toNat - 1) = (1023 : Int) from by omega]; first | done | rfl)
        · go_wp2_with fail
          go_round
          case rel => exact ⟨k + 1, by omega, by go_num, by rw [Int.pow_succ, Int.mul_assoc]⟩
          case measure => simp [intOf]; omega
    · have ha : aft 1 f = min (1023 : Int) ((16 : Int) * 2 ^ f.toNat - 1) := rfl
      have HA := Lib.hid ha
      clear ha
      go_enter Tryd.func12, Tryd.ntmps12
      go_wp2_with fail
      go_loop [8, 9] (fun x i => ∃ k : Nat, k ≤ f ∧ i = .int .i64 k ∧ x = .int .i64 ((16 : Int) * 2 ^ k)) (fun _ i => (f - intOf i).toNat)
      case atStart => exact ⟨0, by omega, rfl, rfl⟩
      case round =>
        obtain ⟨k, hk, rfl, rfl⟩ := hrel
        have hk2 : k = f.toNat ∨ k < f := by omega
        obtain ⟨q1, q2⟩ := pow7 k (by omega) (by omega)
        simp only [Int.toNat_natCast] at q1 q2
        rcases hk2 with rfl | hk2
        · have hf : ((f.toNat : Nat) : Int) = f := by omega
          have hf2 : ¬ ((f.toNat : Nat) : Int) < f := by omega
          clear hf
          by_cases hlt : (1023 : Int) < (16 : Int) * (2 : Int) ^ f.toNat - 1
          all_goals try (exfalso; omega)
          all_goals
            go_wp2_with fail
            go_ret2
            refine ⟨?_, hB0⟩
            rw [HA.out]
            first
              | (rw [show min (1023 : Int) ((16 : Int) * (2 : Int) ^ f.toNat - 1) = (16 : Int) * (2 : Int) ^ f.toNat - 1 from by omega]; first | done | rfl)
              | (rw [show min (1023 : Int) ((16 : Int) * (2 : Int) ^ f.toNat - 1) = (1023 : Int) from by omega]; first | done | rfl)
        · go_wp2_with fail
          go_round
          case rel => exact ⟨k + 1, by omega, by go_num, by rw [Int.pow_succ, Int.mul_assoc]⟩
          case measure => simp [intOf]; omega
    · have ha : aft 2 f = min (15 : Int) ((8 : Int) * 2 ^ f.toNat - 1) := rfl
      have HA := Lib.hid ha
      clear ha
      go_enter Tryd.func12, Tryd.ntmps12
      go_wp2_with fail
      go_loop [8, 9] (fun x i => ∃ k : Nat, k ≤ f ∧ i = .int .i64 k ∧ x = .int .i64 ((8 : Int) * 2 ^ k)) (fun _ i => (f - intOf i).toNat)
      case atStart => exact ⟨0, by omega, rfl, rfl⟩
      case round =>
        obtain ⟨k, hk, rfl, rfl⟩ := hrel
        have hk2 : k = f.toNat ∨ k < f := by omega
        obtain ⟨q1, q2⟩ := pow7 k (by omega) (by omega)
        simp only [Int.toNat_natCast] at q1 q2
        rcases hk2 with rfl | hk2
        · have hf : ((f.toNat : Nat) : Int) = f := by omega
          have hf2 : ¬ ((f.toNat : Nat) : Int) < f := by omega
          clear hf
          by_cases hlt : (15 : Int) < (8 : Int) * (2 : Int) ^ f.toNat - 1
          all_goals try (exfalso; omega)
          all_goals
            go_wp2_with fail
            go_ret2
            refine ⟨?_, hB0⟩
            rw [HA.out]
            first
              | (rw [show min (15 : Int) ((8 : Int) * (2 : Int) ^ f.toNat - 1) = (8 : Int) * (2 : Int) ^ f.toNat - 1 from by omega]; first | done | rfl)
              | (rw [show min (15 : Int) ((8 : Int) * (2 : Int) ^ f.toNat - 1) = (15 : Int) from by omega]; first | done | rfl)
        · go_wp2_with fail
          go_round
          case rel => exact ⟨k + 1, by omega, by go_num, by rw [Int.pow_succ, Int.mul_assoc]⟩
          case measure => simp [intOf]; omega
    · have ha : aft 3 f = min (7 : Int) ((4 : Int) * 2 ^ f.toNat - 1) := rfl
      have HA := Lib.hid ha
      clear ha
      go_enter Tryd.func12, Tryd.ntmps12
      go_wp2_with fail
      go_loop [8, 9] (fun x i => ∃ k : Nat, k ≤ f ∧ i = .int .i64 k ∧ x = .int .i64 ((4 : Int) * 2 ^ k)) (fun _ i => (f - intOf i).toNat)
      case atStart => exact ⟨0, by omega, rfl, rfl⟩
      case round =>
        obtain ⟨k, hk, rfl, rfl⟩ := hrel
        have hk2 : k = f.toNat ∨ k < f := by omega
        obtain ⟨q1, q2⟩ := pow7 k (by omega) (by omega)
        simp only [Int.toNat_natCast] at q1 q2
        rcases hk2 with rfl | hk2
        · have hf : ((f.toNat : Nat) : Int) = f := by omega
          have hf2 : ¬ ((f.toNat : Nat) : Int) < f := by omega
          clear hf
          by_cases hlt : (7 : Int) < (4 : Int) * (2 : Int) ^ f.toNat - 1
          all_goals try (exfalso; omega)
          all_goals
            go_wp2_with fail
            go_ret2
            refine ⟨?_, hB0⟩
            rw [HA.out]
            first
              | (rw [show min (7 : Int) ((4 : Int) * (2 : Int) ^ f.toNat - 1) = (4 : Int) * (2 : Int) ^ f.toNat - 1 from by omega]; first | done | rfl)
              | (rw [show min (7 : Int) ((4 : Int) * (2 : Int) ^ f.toNat - 1) = (7 : Int) from by omega]; first | done | rfl)
        · go_wp2_with fail
          go_round
          case rel => exact ⟨k + 1, by omega, by go_num, by rw [Int.pow_succ, Int.mul_assoc]⟩
          case measure => simp [intOf]; omega
end Go.Proofs.YtdikdhjfcnocdaaDoor
