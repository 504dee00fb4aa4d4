/- The walk of BackoffDrops: it returns true for every input (the table of windows reads as the program lays it). -/
import Derived.Test.YtdikdhjfcnocdaaDoorH
namespace Go.Proofs.YtdikdhjfcnocdaaDoor
open Go.RowKit
set_option linter.unusedVariables false
/-- a slice of n elements, read in w; p is no address where n is nought -/
def Row (w : World) (p : Option Addr) (n : Nat) (f : Nat → Value) : Prop := ∀ i, i < n → ∃ a, p = some a ∧ w.cell? (a.add i) = some (f i)
theorem laterA {W W' : World} {p : Addr} {x : Value} (hb : Below W.heap.size W W') (h : W.cell? p = some x) : W'.cell? p = some x := (hb.cell (World.block_lt_of_cell? W p h)).trans h
theorem Four.set2 {w : World} {k : Nat} {x y z u : Value} (h : Four w k x y z u) (v : Value) : Four (w.setCell ⟨k, 2, none⟩ v) k x y v u := by
  obtain ⟨h1, h2, h3, h4, h5, h6, h7, h8⟩ := h
  simp [Four, go_sem, *]
theorem Step_fine (c t e d : Int) (w : World) (hw : Win w) (hc0 : 0 ≤ c) (hc : c ≤ 3) (t0 : 0 ≤ t) (t6 : t ≤ 6) (he0 : 2 ≤ e) (he1 : e ≤ 3) (d0 : 0 ≤ d) (d1 : d ≤ 1099511627776) :
    Calls Tryd.prog 15 #[.agg #[.int .u8 c, .int .i64 (aft c t), .int .i64 0, .int .i64 t], .int .u8 e, .int .i64 d] w fun x w' => x = .returned (.tuple #[.agg #[.int .u8 c, .int .i64 (aft c (nt e t)), .int .i64 (cnt c (nt e t) d), .int .i64 (nt e t)], .bool (ng e t), .int .i64 0]) ∧ Below w.heap.size w w' := by
  have hS := Step_any c (aft c t) 0 t e d w hw hc0 (by omega) (by omega) (by omega)
  have a := aft_bd c t t0 t6
  have hk : bOk c (aft c t) 0 t = true := by simp [bOk, wndOk, *]; omega
  have hd : (decide (e ≤ 3) && drw d) = true := by simp [drw, *]
  have hs : serr c (aft c t) 0 t e d = 0 := by simp [serr, hk, hd]
  obtain ⟨e1, e2, e3, e4, e5⟩ := s_ok hs
  rw [e1, e2, e3, e4, e5, hs, show nv c (aft c t) e t = aft c (nt e t) by simp [nv]; omega, show nn c 0 e t d = cnt c (nt e t) d by unfold nn; rw [if_neg (by omega), if_neg (by omega)]] at hS
  exact hS
set_option maxRecDepth 20000 in
set_option maxHeartbeats 4000000 in
theorem law_drops (c : Int) (p q : Option Addr) (nr cr nd cd : Nat) (B : Nat → Bool) (f : Nat → Int) (w : World) (hw : Win w) (hc0 : 0 ≤ c) (hc1 : c ≤ 255)
    (hr : Row w p nr fun i => .bool (B i)) (hd : Row w q nd fun i => .int .i64 (f i)) :
    Calls Tryd.prog 5 #[.int .u8 c, .slice p nr cr, .slice q nd cd] w fun x w' => x = .returned (.bool true) ∧ Below w.heap.size w w' := by
  have HR := Lib.hid hr
  have HD := Lib.hid hd
  clear hr hd
  go_enter Tryd.func5, Tryd.ntmps5
  go_wp2_with fail
  refine (alive_any _ hw).mono ?_
  rintro x w1 ⟨rfl, hb⟩
  have hB1 := hb
  clear hb
  by_cases g1 : nr ≤ 60
  · by_cases g2 : nd ≤ 100
    · go_wp2_with fail
      have hN := New_any c 0 w1 (hw.later hB1) hc0 hc1
      by_cases g3 : c ≤ 3
      · obtain ⟨e1, e2, e3, e4⟩ := New_yes (c := c) (d := 0) (by simp [nOk, drw, g3])
        rw [e1, e2, e3, e4] at hN
        refine hN.mono ?_
        clear hN e1 e2 e3 e4
        rintro x w2 ⟨rfl, hb⟩
        have hB2 := hB1.trans (hb.mono hB1.size)
        clear hb hB1
        have t2 := Four.new w2 (.int .u8 c) (.int .i64 (aft c 0)) (.int .i64 (cnt c 0 0)) (.int .i64 0) 23
        have hB := hB2.alloc hB2.size (.cells #[.int .u8 c, .int .i64 (aft c 0), .int .i64 (cnt c 0 0), .int .i64 0] 23)
        have hkb := hB2.size
        clear hB2
        go_wp2_with fail
        go_loopw [10, 11, 12, 13, 14] (fun xa xf xw xd xi wr => ∃ (a i m : Nat) (t N : Int), xa = .int .i64 a ∧ xf = .int .i64 t ∧ xw = .int .i64 m ∧ xd = .int .i64 m ∧ xi = .int .i64 i ∧ a ≤ nd ∧ i ≤ nr ∧ m ≤ i ∧ 0 ≤ t ∧ t ≤ 6 ∧ Hid (Four wr w2.heap.size (.int .u8 c) (.int .i64 (aft c t)) (.int .i64 N) (.int .i64 t)) ∧ Hid (Below w.heap.size w wr)) (fun _ _ _ _ i _ => (nr - intOf i).toNat)
        case atStart => exact ⟨0, 0, 0, 0, _, rfl, rfl, rfl, rfl, rfl, Nat.zero_le _, Nat.zero_le _, Nat.le_refl _, by omega, by omega, t2, hB⟩
        case round =>
          clear t2 hB
          obtain ⟨a, i, m, t, N, rfl, rfl, rfl, rfl, rfl, ha, hi, hm, t0, t6, hF, hB⟩ := hrel
          by_cases hlt : i < nr
          · obtain ⟨pa, rfl, hcell⟩ := HR.out i hlt
            replace hcell : w.cell? (pa.add i) = some (.bool (B i)) := hcell
            have b0 := laterA hB.out hcell
            by_cases had : a < nd
            · obtain ⟨qa, rfl, dcell⟩ := HD.out a had
              replace dcell : w.cell? (qa.add a) = some (.int .i64 (f a)) := dcell
              have f0 := laterA hB.out dcell
              rcases Int.lt_or_le (f a) 0 with d0 | d0
              · go_wp2_with fail
                go_ret
                exact ⟨rfl, hB.out⟩
              · rcases Int.lt_or_le 1099511627776 (f a) with d1 | d1
                · go_wp2_with fail
                  go_ret
                  exact ⟨rfl, hB.out⟩
                · cases hbi : B i
                  · rw [hbi] at hcell b0
                    by_cases h6 : t = 6
                    · subst h6
                      obtain ⟨c0, c1, c2, c3, _, _, z2, _⟩ := hF.out
                      go_wp2_with fail
                      have hB3 : Hid (Below w.heap.size w (wr.setCell ⟨w2.heap.size, 2, none⟩ (.int .i64 0))) := hB.out.setCell (p := ⟨w2.heap.size, 2, none⟩) hkb _
                      have hS := Step_fine c 6 3 (f a) _ (hw.later hB3.out) hc0 g3 t0 t6 (by omega) (by omega) (by omega) (by omega)
                      rw [show nt 3 6 = 0 by decide, show ng 3 6 = true by decide] at hS
                      refine hS.mono ?_
                      clear hS
                      rintro x w4 ⟨rfl, hb⟩
                      have hB4 := Lib.hid (hB3.out.trans (hb.mono hB3.out.size))
                      have hF4 := Lib.hid (Four.later hb (hF.out.set2 (.int .i64 0)))
                      have b4 := laterA hB4.out hcell
                      have l4 := World.block_lt_of_cell? _ _ b4
                      have lt4 := hF4.out.lt
                      clear hb hB3 hF hB c0 c1 c2 c3 z2 b0
                      obtain ⟨c0, c1, c2, c3, z0, z1, z2, z3⟩ := hF4.out
                      go_wp2_with fail
                      go_roundw
                      case rel => exact ⟨a + 1, i + 1, m + 1, 0, cnt c (0) (f a), by go_num, rfl, by go_num, by go_num, by go_num, by omega, by omega, by omega, by omega, by omega, (hF4.out.set4 _ _ _ _).alloc _, (bset4 hB4.out hkb).alloc (bset4 hB4.out hkb).size _⟩
                      case measure => simp [intOf]; omega
                    · have h7 : (t + 1 == 7) = false := by simp; omega
                      obtain ⟨c0, c1, c2, c3, _, _, z2, _⟩ := hF.out
                      go_wp2_with fail
                      have hB3 : Hid (Below w.heap.size w (wr.setCell ⟨w2.heap.size, 2, none⟩ (.int .i64 0))) := hB.out.setCell (p := ⟨w2.heap.size, 2, none⟩) hkb _
                      have hS := Step_fine c t 3 (f a) _ (hw.later hB3.out) hc0 g3 t0 t6 (by omega) (by omega) (by omega) (by omega)
                      rw [show nt 3 t = t + 1 by simp [nt]; omega, show ng 3 t = false by simp [ng]; omega] at hS
                      refine hS.mono ?_
                      clear hS
                      rintro x w4 ⟨rfl, hb⟩
                      have hB4 := Lib.hid (hB3.out.trans (hb.mono hB3.out.size))
                      have hF4 := Lib.hid (Four.later hb (hF.out.set2 (.int .i64 0)))
                      have b4 := laterA hB4.out hcell
                      have l4 := World.block_lt_of_cell? _ _ b4
                      have lt4 := hF4.out.lt
                      clear hb hB3 hF hB c0 c1 c2 c3 z2 b0
                      obtain ⟨c0, c1, c2, c3, z0, z1, z2, z3⟩ := hF4.out
                      go_wp2_with fail
                      go_roundw
                      case rel => exact ⟨a + 1, i + 1, m, t + 1, cnt c (t + 1) (f a), by go_num, by go_num, rfl, rfl, by go_num, by omega, by omega, by omega, by omega, by omega, (hF4.out.set4 _ _ _ _).alloc _, (bset4 hB4.out hkb).alloc (bset4 hB4.out hkb).size _⟩
                      case measure => simp [intOf]; omega
                  · rw [hbi] at hcell b0
                    obtain ⟨c0, c1, c2, c3, _, _, z2, _⟩ := hF.out
                    go_wp2_with fail
                    have hB3 : Hid (Below w.heap.size w (wr.setCell ⟨w2.heap.size, 2, none⟩ (.int .i64 0))) := hB.out.setCell (p := ⟨w2.heap.size, 2, none⟩) hkb _
                    have hS := Step_fine c t 2 (f a) _ (hw.later hB3.out) hc0 g3 t0 t6 (by omega) (by omega) (by omega) (by omega)
                    rw [show nt 2 t = 0 by rfl, show ng 2 t = false by rfl] at hS
                    refine hS.mono ?_
                    clear hS
                    rintro x w4 ⟨rfl, hb⟩
                    have hB4 := Lib.hid (hB3.out.trans (hb.mono hB3.out.size))
                    have hF4 := Lib.hid (Four.later hb (hF.out.set2 (.int .i64 0)))
                    have b4 := laterA hB4.out hcell
                    have l4 := World.block_lt_of_cell? _ _ b4
                    have lt4 := hF4.out.lt
                    clear hb hB3 hF hB c0 c1 c2 c3 z2 b0
                    obtain ⟨c0, c1, c2, c3, z0, z1, z2, z3⟩ := hF4.out
                    go_wp2_with fail
                    go_roundw
                    case rel => exact ⟨a + 1, i + 1, m, 0, cnt c (0) (f a), by go_num, rfl, rfl, rfl, by go_num, by omega, by omega, by omega, by omega, by omega, (hF4.out.set4 _ _ _ _).alloc _, (bset4 hB4.out hkb).alloc (bset4 hB4.out hkb).size _⟩
                    case measure => simp [intOf]; omega
            · cases hbi : B i
              · rw [hbi] at hcell b0
                by_cases h6 : t = 6
                · subst h6
                  obtain ⟨c0, c1, c2, c3, _, _, z2, _⟩ := hF.out
                  go_wp2_with fail
                  have hB3 : Hid (Below w.heap.size w (wr.setCell ⟨w2.heap.size, 2, none⟩ (.int .i64 0))) := hB.out.setCell (p := ⟨w2.heap.size, 2, none⟩) hkb _
                  have hS := Step_fine c 6 3 (0) _ (hw.later hB3.out) hc0 g3 t0 t6 (by omega) (by omega) (by omega) (by omega)
                  rw [show nt 3 6 = 0 by decide, show ng 3 6 = true by decide] at hS
                  refine hS.mono ?_
                  clear hS
                  rintro x w4 ⟨rfl, hb⟩
                  have hB4 := Lib.hid (hB3.out.trans (hb.mono hB3.out.size))
                  have hF4 := Lib.hid (Four.later hb (hF.out.set2 (.int .i64 0)))
                  have b4 := laterA hB4.out hcell
                  have l4 := World.block_lt_of_cell? _ _ b4
                  have lt4 := hF4.out.lt
                  clear hb hB3 hF hB c0 c1 c2 c3 z2 b0
                  obtain ⟨c0, c1, c2, c3, z0, z1, z2, z3⟩ := hF4.out
                  go_wp2_with fail
                  go_roundw
                  case rel => exact ⟨a, i + 1, m + 1, 0, cnt c (0) (0), rfl, rfl, by go_num, by go_num, by go_num, by omega, by omega, by omega, by omega, by omega, (hF4.out.set4 _ _ _ _).alloc _, (bset4 hB4.out hkb).alloc (bset4 hB4.out hkb).size _⟩
                  case measure => simp [intOf]; omega
                · have h7 : (t + 1 == 7) = false := by simp; omega
                  obtain ⟨c0, c1, c2, c3, _, _, z2, _⟩ := hF.out
                  go_wp2_with fail
                  have hB3 : Hid (Below w.heap.size w (wr.setCell ⟨w2.heap.size, 2, none⟩ (.int .i64 0))) := hB.out.setCell (p := ⟨w2.heap.size, 2, none⟩) hkb _
                  have hS := Step_fine c t 3 (0) _ (hw.later hB3.out) hc0 g3 t0 t6 (by omega) (by omega) (by omega) (by omega)
                  rw [show nt 3 t = t + 1 by simp [nt]; omega, show ng 3 t = false by simp [ng]; omega] at hS
                  refine hS.mono ?_
                  clear hS
                  rintro x w4 ⟨rfl, hb⟩
                  have hB4 := Lib.hid (hB3.out.trans (hb.mono hB3.out.size))
                  have hF4 := Lib.hid (Four.later hb (hF.out.set2 (.int .i64 0)))
                  have b4 := laterA hB4.out hcell
                  have l4 := World.block_lt_of_cell? _ _ b4
                  have lt4 := hF4.out.lt
                  clear hb hB3 hF hB c0 c1 c2 c3 z2 b0
                  obtain ⟨c0, c1, c2, c3, z0, z1, z2, z3⟩ := hF4.out
                  go_wp2_with fail
                  go_roundw
                  case rel => exact ⟨a, i + 1, m, t + 1, cnt c (t + 1) (0), rfl, by go_num, rfl, rfl, by go_num, by omega, by omega, by omega, by omega, by omega, (hF4.out.set4 _ _ _ _).alloc _, (bset4 hB4.out hkb).alloc (bset4 hB4.out hkb).size _⟩
                  case measure => simp [intOf]; omega
              · rw [hbi] at hcell b0
                obtain ⟨c0, c1, c2, c3, _, _, z2, _⟩ := hF.out
                go_wp2_with fail
                have hB3 : Hid (Below w.heap.size w (wr.setCell ⟨w2.heap.size, 2, none⟩ (.int .i64 0))) := hB.out.setCell (p := ⟨w2.heap.size, 2, none⟩) hkb _
                have hS := Step_fine c t 2 (0) _ (hw.later hB3.out) hc0 g3 t0 t6 (by omega) (by omega) (by omega) (by omega)
                rw [show nt 2 t = 0 by rfl, show ng 2 t = false by rfl] at hS
                refine hS.mono ?_
                clear hS
                rintro x w4 ⟨rfl, hb⟩
                have hB4 := Lib.hid (hB3.out.trans (hb.mono hB3.out.size))
                have hF4 := Lib.hid (Four.later hb (hF.out.set2 (.int .i64 0)))
                have b4 := laterA hB4.out hcell
                have l4 := World.block_lt_of_cell? _ _ b4
                have lt4 := hF4.out.lt
                clear hb hB3 hF hB c0 c1 c2 c3 z2 b0
                obtain ⟨c0, c1, c2, c3, z0, z1, z2, z3⟩ := hF4.out
                go_wp2_with fail
                go_roundw
                case rel => exact ⟨a, i + 1, m, 0, cnt c (0) (0), rfl, rfl, rfl, rfl, by go_num, by omega, by omega, by omega, by omega, by omega, (hF4.out.set4 _ _ _ _).alloc _, (bset4 hB4.out hkb).alloc (bset4 hB4.out hkb).size _⟩
                case measure => simp [intOf]; omega
          · go_wp2_with fail
            go_ret
            exact ⟨rfl, hB.out⟩
      · obtain ⟨e1, e2, e3, e4⟩ := New_no (c := c) (d := 0) (by simp [nOk, g3])
        rw [e1, e2, e3, e4] at hN
        refine hN.mono ?_
        clear hN e1 e2 e3 e4
        rintro x w2 ⟨rfl, hb⟩
        have g4 : 3 < c := by omega
        clear g3
        have hB2 := hB1.trans (hb.mono hB1.size)
        go_wp2_with fail
        go_ret
        exact ⟨rfl, hB2.alloc hB2.size _⟩
    · go_wp2_with fail
      go_ret
      exact ⟨rfl, hB1⟩
  · go_wp2_with fail
    go_ret
    exact ⟨rfl, hB1⟩
end Go.Proofs.YtdikdhjfcnocdaaDoor
