/- The sum of the sizes of a queue's items: the walk of a range over a function. No condition. -/
import Derived.RangeFuncNested
import Derived.RangeFuncBound
import Derived.RangeFuncCalls
import Derived.RangeFuncLeaves
import Derived.RangeFuncFrom
import Derived.Shelf.Abstract
import Derived.Shelf.RegionOpen
import Derived.WalkKit
import Derived.OwnWalkIn
import Derived.TacticsInMore
import Derived.LoopNIn
import Derived.LoopIn
import Derived.Test.YtjlljcencbppcaaM
import Derived.Test.YtjlljcencbppcaaC7
namespace Go.Proofs.Ytjlljcencbppcaa
open Go Go.RowKit Go.Shelf Go.Proofs.Ytjlljcencbppcaa.Vc
attribute [local go_sem] Oper.semAt_some
/-- the list's cells -/
def Row3 (n₀ : Nat) (w : World) (q : Option Addr) (n : Nat) (a : Int → Nat → Int) : Prop := ∀ j : Nat, j < n → ∃ p, q = some p ∧ p.block < n₀ ∧ ∀ g, g < 3 → w.cell? (p.add (j * 3 + g)) = some (.int .i64 (a (j : Int) g))
theorem Row3.below {n₀ : Nat} {A B : World} (h : Below n₀ A B) {q : Option Addr} {n : Nat} {a : Int → Nat → Int} (hr : Row3 n₀ A q n a) : Row3 n₀ B q n a := fun j hj => by
  obtain ⟨p, e, hb, hc⟩ := hr j hj
  exact ⟨p, e, hb, fun g hg => (h.cell (p := p.add (j * 3 + g)) (by rw [add_block]; exact hb)).trans (hc g hg)⟩
def upB (a : Int → Nat → Int) (k : Nat) : List Int := (List.range k).map fun (j : Nat) => a (j : Int) 1
theorem upB_succ (a : Int → Nat → Int) (k : Nat) : upB a (k + 1) = upB a k ++ [a (k : Int) 1] := by simp [upB, List.range_succ]
theorem upB_length (a : Int → Nat → Int) (k : Nat) : (upB a k).length = k := by simp [upB]
set_option maxRecDepth 100000 in
set_option maxHeartbeats 2000000 in
theorem sizes1_in (n : Nat) (hn : 1 ≤ n) (l Bs n₀ : Nat) (q : Option Addr) (len cap : Nat) (a : Int → Nat → Int) (hlen : len ≤ 1000) (W : World) (J Jx : List Int → World → Prop) (hJ : AbidesFrom W.heap.size J)
    (hY : ∀ pre x W1, J pre W1 → pre.length < len → YieldAt Fence.wide (n - 1) Try.prog l #[.int .i64 x] W1 fun e W' =>
      (e = .returned (.bool true) ∧ J (pre ++ [x]) W' ∧ Below n₀ W1 W') ∨ (e = .returned (.bool false) ∧ Jx (pre ++ [x]) W'))
    (hn₀ : n₀ ≤ W.heap.size) (hBs : W.cell? ⟨Bs, 0, none⟩ = some (.slice q len cap)) (hr : Row3 n₀ W q len a) (h0 : J [] W) :
    CallsIn Fence.wide n Try.prog 29 #[.func (.yield l) #[] #[], .pointer (some ⟨Bs, 0, none⟩)] W fun e W' => (∃ v, e = .returned v) ∧
      ((∃ ys, ys = upB a len ∧ J ys W') ∨ (∃ pre, (∃ k, k ≤ len ∧ pre = upB a k) ∧ Jx pre W')) := by
  refine callsIn_of_wp Try.func29 rfl trivial ?_ rfl
  simp only [Try.ntmps29, List.size_toArray, List.length_cons, List.length_nil, Nat.reduceAdd, Nat.reduceSub, Array.replicate_succ, Array.replicate_zero, List.push_toArray, List.append_toArray, List.nil_append, List.cons_append]
  gi_wp2
  gi_loopw [8] (fun i wr => ∃ k : Nat, k ≤ len ∧ i = .int .i64 k ∧ J (upB a k) wr ∧ Below n₀ W wr)
    (fun i _ => len - (intOf i).toNat)
  case atStart => exact ⟨0, Nat.zero_le _, rfl, h0, Below.refl _ _⟩
  case round =>
    obtain ⟨k, hk, rfl, hJs, hnx⟩ := hrel
    by_cases hlt : k < len
    · obtain ⟨fn, tmps, assign, body, hy, hR⟩ := hY _ (a (k : Int) 1) (wr.alloc (.cells #[.int .i64 (a k 0), .int .i64 (a k 1), .int .i64 (a k 2)] 34)) (hJ _ wr _ none hJs (World.grownBy_alloc wr _ none) (fun r e => by cases e)) (by rw [upB_length]; exact hlt)
      obtain ⟨p, rfl, hb, hc⟩ := (hr.below hnx) k hlt
      have c0 : wr.cell? (p.add (k * 3)) = some (.int .i64 (a k 0)) := hc 0 (by omega)
      have c1 : wr.cell? { block := (p.add (k * 3)).block, off := (p.add (k * 3)).off + 1 } = some (.int .i64 (a k 1)) := by
        have := hc 1 (by omega)
        rw [← add_add] at this
        exact this
      have c2 : wr.cell? { block := (p.add (k * 3)).block, off := (p.add (k * 3)).off + 2 } = some (.int .i64 (a k 2)) := by
        have := hc 2 (by omega)
        rw [← add_add] at this
        exact this
      clear hc
      gi_wp2
      refine hR.mono ?_
      rintro e W3 (⟨rfl, hJ3, hk3⟩ | ⟨rfl, hJx3⟩)
      · gi_wp2
        go_roundw
        case rel => exact ⟨k + 1, by omega, by simp, by rw [upB_succ]; exact hJ3, (hnx.alloc (Nat.le_trans hn₀ hnx.size) _).trans hk3⟩
        case measure => simp [intOf]; omega
      · gi_wp2
        refine bodyPost_ret (results_none rfl _ _ _) rfl ?_
        exact ⟨⟨_, rfl⟩, .inr ⟨_, ⟨k + 1, by omega, (upB_succ _ _).symm⟩, hJx3⟩⟩
    · obtain rfl : k = len := by omega
      gi_wp2
      go_end0
      exact ⟨⟨_, rfl⟩, .inl ⟨_, rfl, hJs⟩⟩
/-- the iterator's maker -/
theorem sizes_in (n : Nat) (q : Option Addr) (len cap : Nat) (u k : Int) (w : World) :
    CallsIn Fence.wide n Try.prog 27 #[.agg #[.slice q len cap, .int .i64 u, .int .i64 k]] w fun e w' => e = .returned (.func (.func 29) #[] #[.pointer (some ⟨w.heap.size, 0, none⟩)]) ∧ w' = w.alloc (.cells #[.slice q len cap, .int .i64 u, .int .i64 k] 26) := by
  refine callsIn_of_wp Try.func27 rfl trivial ?_ rfl
  simp only [Try.ntmps27, List.size_toArray, List.length_cons, List.length_nil, Nat.reduceAdd, Nat.reduceSub, Array.replicate_succ, Array.replicate_zero, List.push_toArray, List.append_toArray, List.nil_append, List.cons_append]
  gi_wp2
  go_ret
  exact ⟨rfl, rfl⟩
/-- what the arguments read as -/
theorem rdFifo {w : World} {args : List Value} {avs : List AV} (h : RdA w sig21.ins args avs) : ∃ q n c a u k, args = [.agg #[.slice q n c, .int .i64 u, .int .i64 k]] ∧ avs = [.a a, .i (n : Int), .i u, .i k] ∧ n ≤ c ∧ c ≤ maxLen ∧ (q = none → c = 0) ∧ Row3 w.heap.size w q n a := by
  cases args with
  | nil => exact h.elim
  | cons v vs =>
    obtain ⟨a, b, rfl, ⟨us, rfl, hl⟩, h2⟩ := h
    cases vs with
    | cons _ _ => exact h2.elim
    | nil =>
      obtain rfl : b = [] := h2
      match us, hl with
      | [s, u, k], hl =>
        obtain ⟨l1, r1, rfl, ⟨q, n, c, f, rfl, h3, h4, h5, rfl, h6⟩, l2, r2, rfl, ⟨u', rfl, rfl⟩, l3, r3, rfl, ⟨k', rfl, rfl⟩, h7⟩ := hl
        obtain rfl : r3 = [] := h7
        refine ⟨q, n, c, f, u', k', rfl, rfl, h3, h4, h5, fun j hj => ?_⟩
        obtain ⟨p, hp, hb, _⟩ := h6 (j : Int) 0 (.int .i64) (by omega) (by omega) rfl
        refine ⟨p, hp, hb, fun g hg => ?_⟩
        obtain ⟨p', hp', _, hc⟩ := h6 (j : Int) g (.int .i64) (by omega) (by omega) (by match g, hg with | 0, _ => rfl | 1, _ => rfl | 2, _ => rfl)
        rw [hp] at hp'
        obtain rfl := Option.some.inj hp'
        exact hc
theorem mkFifo {w : World} {q : Option Addr} {n c : Nat} {a : Int → Nat → Int} {u k : Int} (h1 : n ≤ c) (h2 : c ≤ maxLen) (h3 : q = none → c = 0) {n₀ : Nat} (hn : n₀ ≤ w.heap.size) (h4 : Row3 n₀ w q n a) : RdA w sig21.ins [.agg #[.slice q n c, .int .i64 u, .int .i64 k]] [.a a, .i (n : Int), .i u, .i k] := by
  refine ⟨[.a a, .i (n : Int), .i u, .i k], [], rfl, ⟨[.slice q n c, .int .i64 u, .int .i64 k], rfl, [.a a, .i (n : Int)], [.i u, .i k], rfl, ⟨q, n, c, a, rfl, h1, h2, h3, rfl, fun i f' kk i0 i1 hk => ?_⟩, [.i u], [.i k], rfl, ⟨u, rfl, rfl⟩, [.i k], [], rfl, ⟨k, rfl, rfl⟩, rfl⟩, rfl⟩
  obtain ⟨p, hp, hb, hc⟩ := h4 i.toNat (by omega)
  have hf : f' < 3 := (List.getElem?_eq_some_iff.1 hk).1
  refine ⟨p, hp, by omega, ?_⟩
  have := hc f' hf
  rw [show ((i.toNat : Nat) : Int) = i by omega] at this
  obtain rfl : kk = .int .i64 := by
    match f', hf, hk with
    | 0, _, hk => exact (Option.some.inj hk).symm
    | 1, _, hk => exact (Option.some.inj hk).symm
    | 2, _, hk => exact (Option.some.inj hk).symm
  exact this
theorem out21 (a : Int → Nat → Int) (n u k : Int) : (mkCon sig21 pre21 raw21).out [.a a, .i n, .i u, .i k] = [.i (byS a n u k), .i (ckQ a n u k)] := by
  show [AV.i (hidF byS a n u k), AV.i (hidF ckQ a n u k)] = _
  rw [hidF_eq, hidF_eq]
theorem gv1 {w : World} {N : Nat} (x : Int) : GvV N w ⟨false, [.int .i64]⟩ (.int .i64 x) [.i x] [] :=
  ⟨.int .i64, rfl, [.i x], [], [], [], rfl, rfl, ⟨x, rfl, rfl, rfl⟩, rfl, rfl⟩
theorem gv2 {w : World} {N : Nat} (x y : Int) : Gv N w [⟨false, [.int .i64]⟩, ⟨false, [.int .i64]⟩] (.tuple #[.int .i64 x, .int .i64 y]) [.i x, .i y] :=
  ⟨[.int .i64 x, .int .i64 y], [], rfl, ⟨[.i x], [.i y], [], [], rfl, rfl, gv1 x, ⟨[.i y], [], [], [], rfl, rfl, gv1 y, rfl, rfl⟩⟩, List.nodup_nil⟩
/-- Check -/
theorem check_any {w : World} {q : Option Addr} {n c : Nat} {a : Int → Nat → Int} {u k : Int} (h1 : n ≤ c) (h2 : c ≤ maxLen) (h3 : q = none → c = 0) {n₀ : Nat} (hn : n₀ ≤ w.heap.size) (h4 : Row3 n₀ w q n a) :
    Calls Try.prog 10 #[.agg #[.slice q n c, .int .i64 u, .int .i64 k]] w fun e w' => e = .returned (.int .i64 (ckQ a n u k)) ∧ Below w.heap.size w w' := by
  refine (ok10 [.agg #[.slice q n c, .int .i64 u, .int .i64 k]] _ w trivial (mkFifo h1 h2 h3 hn h4) trivial).mono ?_
  rintro e w' ⟨v, rfl, hb, hg⟩
  refine ⟨?_, hb⟩
  have e : (mkCon sig10 pre10 raw10).out [.a a, .i (n : Int), .i u, .i k] = [.i (ckQ a n u k)] := by
    show [AV.i (hidF ckQ a n u k)] = _
    rw [hidF_eq]
  rw [e] at hg
  obtain ⟨vs, os, rfl, hga, _⟩ := hg
  match vs, hga with
  | [v], ⟨l1, l2, o1, o2, hl, _, ⟨x, hx, l3, l4, o3, o4, hl2, _, hz, h6⟩, h5⟩ =>
    obtain rfl := List.cons.inj hx |>.1
    obtain ⟨z, rfl, rfl, _⟩ := hz
    obtain ⟨rfl, _⟩ := h6
    obtain ⟨rfl, _⟩ := h5
    rw [hl2] at hl
    simp only [List.append_nil, List.cons.injEq, and_true, AV.i.injEq] at hl
    rw [hl]; rfl
def sumW : List Int → Int := List.foldl (fun s v => wrap64 (s + v)) 0
theorem sumW_snoc (pre : List Int) (x : Int) : sumW (pre ++ [x]) = wrap64 (sumW pre + x) := by simp [sumW]
theorem cell_al {W : World} {a : Addr} {v : Value} (o : Obj) (h : W.cell? a = some v) : (W.alloc o).cell? a = some v := (((Below.refl W.heap.size W).alloc (Nat.le_refl _) o).cell (World.block_lt_of_cell? W a h)).trans h
theorem frozen_al {W : World} {a : Addr} {v : Value} (o : Obj) (h : W.cell? a = some v) (hf : W.frozen? a = false) : (W.alloc o).frozen? a = false := Below.frozen' ((Below.refl W.heap.size W).alloc (Nat.le_refl _) o) h hf
theorem sum_list {a : Int → Nat → Int} {n u k : Int} (h : ckQ a n u k = 0) : ∀ i : Nat, (i : Int) ≤ n → sumW (upB a i) = sumN (fun i => a i 1) i ∧ 0 ≤ sumN (fun i => a i 1) i ∧ sumN (fun i => a i 1) i ≤ 2304 * i
  | 0, _ => ⟨rfl, Int.le_refl _, Int.le_refl _⟩
  | i + 1, hi => by
    obtain ⟨e1, e2, e3⟩ := sum_list h i (by omega)
    have hr := ck_row h i (by omega) (by omega)
    have hn := (ck_ok h).1
    have e : sumN (fun i => a i 1) (i + 1) = sumN (fun i => a i 1) i + a i 1 := rfl
    rw [upB_succ, sumW_snoc, e1, e]
    refine ⟨?_, by omega, by omega⟩
    have hw : ∀ y : Int, wrap64 y = (y + 9223372036854775808) % 18446744073709551616 - 9223372036854775808 := fun y => by simp [wrap64]
    rw [hw]
    omega
set_option maxRecDepth 100000 in
set_option maxHeartbeats 2000000 in
theorem bytes_any {w : World} {q : Option Addr} {len c : Nat} {a : Int → Nat → Int} {u k : Int} (h1 : len ≤ c) (h2 : c ≤ maxLen) (h3 : q = none → c = 0) (h4 : Row3 w.heap.size w q len a) :
    Calls Try.prog 21 #[.agg #[.slice q len c, .int .i64 u, .int .i64 k]] w fun e w' => e = .returned (.tuple #[.int .i64 (byS a len u k), .int .i64 (ckQ a len u k)]) ∧ Below w.heap.size w w' := by
  refine (callsIn_wide (n := 10)).1 ?_
  refine callsIn_of_wp_marks Try.func21 rfl trivial ?_ rfl
  simp only [Try.ntmps21, List.size_toArray, List.length_cons, List.length_nil, Nat.reduceAdd, Nat.reduceSub, Array.replicate_succ, Array.replicate_zero, List.push_toArray, List.append_toArray, List.nil_append, List.cons_append]
  have hB1 : Below w.heap.size w (w.alloc (.cells #[.slice q len c, .int .i64 u, .int .i64 k] 26)) := (Below.refl _ w).alloc (Nat.le_refl _) _
  have hck0 := check_any (w := w.alloc (.cells #[.slice q len c, .int .i64 u, .int .i64 k] 26)) (u := u) (k := k) h1 h2 h3 (n₀ := w.heap.size) (by simp) (h4.below hB1)
  have hck : Calls Try.prog 10 #[.agg #[.slice q len c, .int .i64 u, .int .i64 k]] (w.alloc (.cells #[.slice q len c, .int .i64 u, .int .i64 k] 26)) fun e w2 => e = .returned (.int .i64 (ckQ a len u k)) ∧ Below w.heap.size w w2 ∧ w.heap.size < w2.heap.size ∧
      (w2.alloc (.cells #[.int .i64 0] 3)).cell? ⟨w.heap.size, 0, none⟩ = some (.slice q len c) ∧ (w2.alloc (.cells #[.int .i64 0] 3)).cell? ⟨w.heap.size, 1, none⟩ = some (.int .i64 u) ∧ (w2.alloc (.cells #[.int .i64 0] 3)).cell? ⟨w.heap.size, 2, none⟩ = some (.int .i64 k) := by
    refine hck0.mono ?_
    rintro e w2 ⟨rfl, hB2⟩
    have hsz : w.heap.size < w2.heap.size := by have := hB2.size; simp at this; omega
    refine ⟨rfl, hB1.trans (hB2.mono hB1.size), hsz, cell_al _ ?_, cell_al _ ?_, cell_al _ ?_⟩
    · exact (hB2.cell (p := ⟨w.heap.size, 0, none⟩) (by simp)).trans (by simp [go_sem])
    · exact (hB2.cell (p := ⟨w.heap.size, 1, none⟩) (by simp)).trans (by simp [go_sem])
    · exact (hB2.cell (p := ⟨w.heap.size, 2, none⟩) (by simp)).trans (by simp [go_sem])
  clear hck0
  by_cases hc : ckQ a len u k = 0
  · rw [hc] at hck
    gi_wp2_with (first | (refine ⟨trivial, ?_⟩; gi_at_call 10; refine (callsIn_wide.2 hck).mono ?_; rintro e w2 ⟨rfl, hB2, hsz, d0, d1, d2⟩) | (refine ⟨trivial, ?_⟩; gi_at_call 27; refine (sizes_in _ q len c u k _).mono ?_; rintro e w3 ⟨rfl, rfl⟩))
    have hB3 : Below w.heap.size w ((w2.alloc (.cells #[.int .i64 0] 3)).alloc (.cells #[.slice q len c, .int .i64 u, .int .i64 k] 26)) := (hB2.alloc (by omega) _).alloc (by simp; omega) _
    have hbx : ((w2.alloc (.cells #[.int .i64 0] 3)).alloc (.cells #[.slice q len c, .int .i64 u, .int .i64 k] 26)).cell? ⟨w2.heap.size + 1, 0, none⟩ = some (.slice q len c) := by simp [go_sem]
    have hs0 : (w2.alloc (.cells #[.int .i64 0] 3)).cell? ⟨w2.heap.size, 0, none⟩ = some (.int .i64 0) := by simp [go_sem]
    have hs1 : (w2.alloc (.cells #[.int .i64 0] 3)).frozen? ⟨w2.heap.size, 0, none⟩ = false := by simp [go_sem]
    have hl := (ck_ok hc).1
    refine wpIn_rangeFunc_ownF rfl (by omega) (gf := 29) (lb := #[.pointer (some ⟨w2.heap.size + 1, 0, none⟩)]) rfl trivial (enters_of Try.func29 (by kernel_rfl) rfl) (encs := fun x : Int => #[Value.int .i64 x])
      (Kp := Below w.heap.size) (S := fun ys => ys = upB a len) (Sp := fun _ => True) (N := len) (w0 := (w2.alloc (.cells #[.int .i64 0] 3)).alloc (.cells #[.slice q len c, .int .i64 u, .int .i64 k] 26))
      (fun l J Jx W hW hJ hJx hY h0 => (sizes1_in _ (by omega) l (w2.heap.size + 1) w.heap.size q len c a (by omega) W J Jx hJ hY (Nat.le_trans (by simp; omega) hW.size) ((hW.cell (p := ⟨w2.heap.size + 1, 0, none⟩) (by simp)).trans hbx) (h4.below (hB3.trans (hW.mono hB3.size))) h0).mono fun e W' ⟨he, hh⟩ => ⟨he, hh.imp (fun ⟨ys, e1, e2⟩ => ⟨ys, e1, e2⟩) (fun ⟨pre, _, e2⟩ => ⟨pre, trivial, e2⟩)⟩)
      belowK_t (belowK_b (by simp; omega)) (Below.refl _ _) (fun _ => rfl)
      (fun pre W => (W.cell? ⟨w2.heap.size, 0, none⟩ = some (.int .i64 (sumW pre)) ∧ W.frozen? ⟨w2.heap.size, 0, none⟩ = false) ∧ Below w.heap.size w W)
      (fun _ _ _ => False)
      (OwnFrom.and (Own.from (fun s A B row hs hg hr => ⟨cell_kept hs.1 hg hr, (frozen_kept hs.1 hg hr).trans hs.2⟩) _) (ownFrom_below (Nat.le_refl _) (by simp; omega)))
      (fun _ _ _ _ _ hs _ _ => hs)
      ⟨⟨cell_al _ hs0, frozen_al _ hs0 hs1⟩, hB3⟩
      (fun x => { tmps := #[.agg #[.slice q len c, .int .i64 u, .int .i64 k], .pointer (some ⟨w.heap.size, 0, none⟩), .int .i64 0, .int .i64 0, .int .i64 0, .pointer (some ⟨w2.heap.size, 0, none⟩), .int .i64 x,
        .agg #[.slice q len c, .int .i64 u, .int .i64 k], .int .i64 0, .int .i64 0, .bool false, undef, .agg #[.slice q len c, .int .i64 u, .int .i64 k], .func (.func 29) #[] #[.pointer (some ⟨w2.heap.size + 1, 0, none⟩)], .int .i64 x, undef, undef, undef, undef], defers := [] }) ?assign ?body ?done ?stop
    case assign =>
      intro l x W K hK
      gi_wp2
      exact hK
    case body =>
      rintro l pre x W ⟨⟨hcc, hf⟩, hB⟩ _
      gi_wp2
      exact ⟨KeepsOthers.setCell _ _ _, (Below.refl w.heap.size W).setCell (p := ⟨w2.heap.size, 0, none⟩) (by simp; omega) _, ⟨by rw [sumW_snoc]; exact World.cell?_setCell_same' _ _ _ (by rw [hcc]; rfl), by rw [World.frozen?_setCell]; exact hf⟩, hB.setCell (p := ⟨w2.heap.size, 0, none⟩) (by simp; omega) _⟩
    case done =>
      rintro D ys W hD rfl ⟨⟨hcc, _⟩, hB⟩ hK
      gi_wp2
      refine ⟨by simp, .inl ⟨_, _, rfl, run_takeDeferred hK, ?_⟩⟩
      have hsum : sumW (upB a len) = byS a len u k := by
        have h := (sum_list hc len (Int.le_refl _)).1
        rw [h]
        unfold byS
        rw [if_pos hc]
        show _ = sumN (fun i => a i 1) (len : Int).toNat
        rw [Int.toNat_natCast]
      refine ⟨.tuple #[.int .i64 (byS a len u k), .int .i64 0], ?_, by rw [hc], hB.trans (belowK_b (w := w) (Nat.le_refl _) W D _ _ (by simp at hD; omega) hK rfl rfl)⟩
      rw [← hsum]
      simp [results, Try.f21, go_sem]
    case stop =>
      rintro D c pre W _ _ h _
      exact h.elim
  · gi_wp2_with (first | (refine ⟨trivial, ?_⟩; gi_at_call 10; refine (callsIn_wide.2 hck).mono ?_; rintro e w2 ⟨rfl, hB2, hsz, d0, d1, d2⟩) | (refine ⟨trivial, ?_⟩; gi_at_call 27; refine (sizes_in _ q len c u k _).mono ?_; rintro e w3 ⟨rfl, rfl⟩))
    exact ⟨.tuple #[.int .i64 0, .int .i64 (ckQ a len u k)], by simp [results, Try.f21, go_sem], by unfold byS; rw [if_neg hc], hB2⟩
theorem ok21 : Meets Try.prog (mkCon sig21 pre21 raw21) 21 sig21 := by
  intro args avs w _ hrd _
  obtain ⟨q, n, c, a, u, k, rfl, rfl, h1, h2, h3, h4⟩ := rdFifo hrd
  exact (bytes_any h1 h2 h3 h4).mono fun e w' ⟨he, hb⟩ => ⟨_, he, hb, by rw [out21]; exact gv2 _ _⟩
end Go.Proofs.Ytjlljcencbppcaa
