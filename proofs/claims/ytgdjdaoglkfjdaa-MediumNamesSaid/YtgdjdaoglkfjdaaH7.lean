/- Whether a node can receive a transmission: the walk of the range over a function. -/
import Derived.RangeFuncNested
import Derived.RangeFuncBound
import Derived.RangeFuncCalls
import Derived.RangeFuncLeaves
import Derived.RangeFuncFrom
import Derived.Shelf.Abstract
import Derived.Shelf.RegionOpen
import Derived.WalkKit
import Derived.OwnWalkIn
import Derived.TacticsInMore
import Derived.LoopNIn
import Derived.LoopIn
import Derived.Sort.QuietIn
import Derived.Test.YtgdjdaoglkfjdaaM
import Derived.Test.YtgdjdaoglkfjdaaC3
namespace Go.Proofs.Ytgdjdaoglkfjdaa
open Go Go.RowKit Go.Shelf Go.Proofs.Ytgdjdaoglkfjdaa.Vc
attribute [local go_sem] Oper.semAt_some
theorem rdSc_later {w w' : World} (hb : Below w.heap.size w w') : ∀ {h : Sh0} {v : Value} {l : List AV}, RdSc w h v l → RdSc w' h v l
  | .int _, _, _, h => h
  | .bool, _, _, h => h
  | .slc sh, v, l, ⟨q, n, c, f, h1, h2, h3, h4, h5, h6⟩ => ⟨q, n, c, f, h1, h2, h3, h4, h5, fun i f' k i0 i1 hk => by
    obtain ⟨p, a1, a2, a3⟩ := h6 i f' k i0 i1 hk
    exact ⟨p, a1, Nat.lt_of_lt_of_le a2 hb.size, Below.cell' hb a3⟩⟩
  | .mat sh, v, l, ⟨q, n, c, g, f, rows, caps, h1, h2, h3, h4, h5, h6⟩ => ⟨q, n, c, g, f, rows, caps, h1, h2, h3, h4, h5, fun i i0 i1 => by
    obtain ⟨p, a1, a2, a3, a4, a5, a6, a7, a8⟩ := h6 i i0 i1
    refine ⟨p, a1, Nat.lt_of_lt_of_le a2 hb.size, a3, a4, a5, a6, Below.cell' hb a7, a8.imp id ?_⟩
    rintro ⟨q', b1, b2, b3⟩
    exact ⟨q', b1, Nat.lt_of_lt_of_le b2 hb.size, fun j f' k j0 j1 hk => Below.cell' hb (b3 j f' k j0 j1 hk)⟩⟩
theorem rdL_later {w w' : World} (hb : Below w.heap.size w w') : ∀ {hs : List Sh0} {vs : List Value} {l : List AV}, RdL w hs vs l → RdL w' hs vs l
  | [], [], _, h => h
  | _ :: _, _ :: _, _, ⟨a, b, h1, h2, h3⟩ => ⟨a, b, h1, rdSc_later hb h2, rdL_later hb h3⟩
  | [], _ :: _, _, h => h.elim
  | _ :: _, [], _, h => h.elim
theorem rdV_later {w w' : World} (hb : Below w.heap.size w w') {h : Sh} {v : Value} {l : List AV} (hr : RdV w h v l) : RdV w' h v l := by
  unfold RdV at *
  split
  · rename_i hh
    rw [if_pos hh] at hr
    obtain ⟨vs, h1, h2⟩ := hr
    exact ⟨vs, h1, rdL_later hb h2⟩
  · rename_i hh
    rw [if_neg hh] at hr
    exact rdL_later hb hr
/-- a list's cells -/
def Row4 (n₀ : Nat) (w : World) (q : Option Addr) (n : Nat) (a : Int → Nat → Int) : Prop := ∀ j : Nat, j < n → ∃ p, q = some p ∧ p.block < n₀ ∧ ∀ g, g < 4 → w.cell? (p.add (j * 4 + g)) = some (.int .i64 (a (j : Int) g))
theorem Row4.below {n₀ : Nat} {A B : World} (h : Below n₀ A B) {q : Option Addr} {n : Nat} {a : Int → Nat → Int} (hr : Row4 n₀ A q n a) : Row4 n₀ B q n a := fun j hj => by
  obtain ⟨p, e, hb, hc⟩ := hr j hj
  exact ⟨p, e, hb, fun g hg => (h.cell (p := p.add (j * 4 + g)) (by rw [add_block]; exact hb)).trans (hc g hg)⟩
theorem Row4.more {n₀ n₁ : Nat} (h : n₀ ≤ n₁) {w : World} {q : Option Addr} {n : Nat} {a : Int → Nat → Int} (hr : Row4 n₀ w q n a) : Row4 n₁ w q n a := fun j hj => by
  obtain ⟨p, e, hb, hc⟩ := hr j hj
  exact ⟨p, e, Nat.lt_of_lt_of_le hb h, hc⟩
theorem row4_of {w : World} {v : Value} {l : List AV} (h : RdSc w (.slc [.int .i64, .int .i64, .int .i64, .int .i64]) v l) : ∃ q n c a, v = .slice q n c ∧ l = [.a a, .i (n : Int)] ∧ n ≤ c ∧ c ≤ maxLen ∧ (q = none → c = 0) ∧ Row4 w.heap.size w q n a := by
  obtain ⟨q, n, c, f, h1, h2, h3, h4, h5, h6⟩ := h
  refine ⟨q, n, c, f, h1, h5, h2, h3, h4, fun j hj => ?_⟩
  obtain ⟨p, hp, hb, _⟩ := h6 (j : Int) 0 (.int .i64) (by omega) (by omega) rfl
  refine ⟨p, hp, hb, fun g hg => ?_⟩
  obtain ⟨p', hp', _, hc⟩ := h6 (j : Int) g (.int .i64) (by omega) (by omega) (by match g, hg with | 0, _ => rfl | 1, _ => rfl | 2, _ => rfl | 3, _ => rfl)
  rw [hp] at hp'
  obtain rfl := Option.some.inj hp'
  exact hc
/-- a transmission -/
def sdV (b : Int → Nat → Int) (r : Int) : Value := .agg #[.int .i64 (b r 0), .int .i64 (b r 1), .int .i64 (b r 2), .int .i64 (b r 3)]
theorem Row4.at {n₀ : Nat} {w : World} {q : Option Addr} {n : Nat} {a : Int → Nat → Int} (hr : Row4 n₀ w q n a) {j : Nat} (hj : j < n) : ∃ p, q = some p ∧ p.block < n₀ ∧ w.cell? (p.add (j * 4)) = some (.int .i64 (a j 0)) ∧
    w.cell? { block := (p.add (j * 4)).block, off := (p.add (j * 4)).off + 1 } = some (.int .i64 (a j 1)) ∧ w.cell? { block := (p.add (j * 4)).block, off := (p.add (j * 4)).off + 2 } = some (.int .i64 (a j 2)) ∧ w.cell? { block := (p.add (j * 4)).block, off := (p.add (j * 4)).off + 3 } = some (.int .i64 (a j 3)) := by
  obtain ⟨p, e, hb, hc⟩ := hr j hj
  refine ⟨p, e, hb, hc 0 (by omega), ?_, ?_, ?_⟩
  · have := hc 1 (by omega); rw [← add_add] at this; exact this
  · have := hc 2 (by omega); rw [← add_add] at this; exact this
  · have := hc 3 (by omega); rw [← add_add] at this; exact this
set_option maxRecDepth 100000 in
set_option maxHeartbeats 2000000 in
/-- the iterator: every transmission but i -/
theorem others1_in (n : Nat) (hn : 1 ≤ n) (l Bs Bi n₀ : Nat) (q : Option Addr) (len cap : Nat) (i : Int) (b : Int → Nat → Int) (hlen : len ≤ 1000) (W : World) (J Jx : List (Fin len) → World → Prop) (hJ : AbidesFrom W.heap.size J)
    (hY : ∀ pre x W1, J pre W1 → pre.length < len → YieldAt Fence.wide (n - 1) Try.prog l #[sdV b x.1] W1 fun e W' =>
      (e = .returned (.bool true) ∧ J (pre ++ [x]) W' ∧ Below n₀ W1 W') ∨ (e = .returned (.bool false) ∧ Jx (pre ++ [x]) W'))
    (hn₀ : n₀ ≤ W.heap.size) (hBi0 : Bi < n₀) (hBs : W.cell? ⟨Bs, 0, none⟩ = some (.slice q len cap)) (hBi : W.cell? ⟨Bi, 0, none⟩ = some (.int .i64 i)) (hr : Row4 n₀ W q len b) (h0 : J [] W) :
    CallsIn Fence.wide n Try.prog 69 #[.func (.yield l) #[] #[], .pointer (some ⟨Bs, 0, none⟩), .pointer (some ⟨Bi, 0, none⟩)] W fun e W' => (∃ v, e = .returned v) ∧
      ((∃ ys, (∀ r : Fin len, ((r.1 : Nat) : Int) ≠ i → r ∈ ys) ∧ J ys W') ∨ (∃ pre, (∀ r ∈ pre, (((r : Fin len).1 : Nat) : Int) ≠ i) ∧ Jx pre W')) := by
  refine callsIn_of_wp Try.func69 rfl trivial ?_ rfl
  simp only [Try.ntmps69, List.size_toArray, List.length_cons, List.length_nil, Nat.reduceAdd, Nat.reduceSub, Array.replicate_succ, Array.replicate_zero, List.push_toArray, List.append_toArray, List.nil_append, List.cons_append]
  gi_wp2
  gi_loopw [8] (fun v wr => ∃ (k : Nat) (pre : List (Fin len)), k ≤ len ∧ v = .int .i64 k ∧ J pre wr ∧ pre.length ≤ k ∧ (∀ r ∈ pre, ((r.1 : Nat) : Int) ≠ i) ∧ (∀ r : Fin len, r.1 < k → ((r.1 : Nat) : Int) ≠ i → r ∈ pre) ∧ Below n₀ W wr)
    (fun v _ => len - (intOf v).toNat)
  case atStart => exact ⟨0, [], Nat.zero_le _, rfl, h0, Nat.le_refl _, (fun r hr => by cases hr), (fun r hr => by omega), Below.refl _ _⟩
  case round =>
    obtain ⟨k, pre, hk, rfl, hJs, hpl, hp1, hp2, hnx⟩ := hrel
    have hbi := (hnx.cell (p := ⟨Bi, 0, none⟩) hBi0).trans hBi
    by_cases hlt : k < len
    · obtain ⟨p, rfl, hb, c0, c1, c2, c3⟩ := (hr.below hnx).at hlt
      have hJ2 := hJ _ wr _ none hJs (World.grownBy_alloc wr (.cells #[.int .i64 (b k 0), .int .i64 (b k 1), .int .i64 (b k 2), .int .i64 (b k 3)] 41) none) (fun r e => by cases e)
      have hbi2 : (wr.alloc (.cells #[.int .i64 (b k 0), .int .i64 (b k 1), .int .i64 (b k 2), .int .i64 (b k 3)] 41)).cell? ⟨Bi, 0, none⟩ = some (.int .i64 i) := (((Below.refl wr.heap.size wr).alloc (Nat.le_refl _) _).cell (World.block_lt_of_cell? wr _ hbi)).trans hbi
      have hB2 : Below n₀ W (wr.alloc (.cells #[.int .i64 (b k 0), .int .i64 (b k 1), .int .i64 (b k 2), .int .i64 (b k 3)] 41)) := hnx.alloc (Nat.le_trans hn₀ hnx.size) _
      by_cases hki : (k : Int) = i
      · subst hki
        gi_wp2
        refine ⟨fun _ h => (by cases h), ?_⟩
        gi_wp2
        go_roundw
        case rel => exact ⟨k + 1, pre, by omega, by simp, hJ2, by omega, hp1, (fun r h1 h2 => hp2 r (by
            have h2' : ((r.1 : Nat) : Int) ≠ (k : Int) := h2
            omega) h2), hB2⟩
        case measure => simp [intOf]; omega
      · obtain ⟨fn, tmps, assign, body, hy, hR⟩ := hY pre ⟨k, hlt⟩ _ hJ2 (by omega)
        unfold sdV at hy
        dsimp only at hy
        gi_wp2
        refine hR.mono ?_
        rintro e W3 (⟨rfl, hJ3, hk3⟩ | ⟨rfl, hJx3⟩)
        · gi_wp2
          go_roundw
          case rel => exact ⟨k + 1, pre ++ [⟨k, hlt⟩], by omega, by simp, hJ3, by simp; omega, (fun r hr => by
            rcases List.mem_append.1 hr with h | h
            · exact hp1 r h
            · simp at h; subst h; exact hki), (fun r h1 h2 => by
            by_cases hrk : r.1 < k
            · exact List.mem_append.2 (.inl (hp2 r hrk h2))
            · have : r = ⟨k, hlt⟩ := Fin.ext (by show r.1 = k; omega)
              exact List.mem_append.2 (.inr (by simp [this]))), hB2.trans hk3⟩
          case measure => simp [intOf]; omega
        · gi_wp2
          refine bodyPost_ret (results_none rfl _ _ _) rfl ?_
          exact ⟨⟨_, rfl⟩, .inr ⟨pre ++ [⟨k, hlt⟩], (fun r hr => by
            rcases List.mem_append.1 hr with h | h
            · exact hp1 r h
            · simp at h; subst h; exact hki), hJx3⟩⟩
    · obtain rfl : k = len := by omega
      gi_wp2
      go_end0
      exact ⟨⟨_, rfl⟩, .inl ⟨pre, fun r h => hp2 r r.2 h, hJs⟩⟩
/-- the iterator's maker -/
theorem others_in (n : Nat) (q : Option Addr) (len cap : Nat) (i : Int) (w : World) :
    CallsIn Fence.wide n Try.prog 57 #[.slice q len cap, .int .i64 i] w fun e w' => e = .returned (.func (.func 69) #[] #[.pointer (some ⟨w.heap.size, 0, none⟩), .pointer (some ⟨w.heap.size + 1, 0, none⟩)]) ∧ w' = (w.alloc (.cells #[.slice q len cap] 26)).alloc (.cells #[.int .i64 i] 3) := by
  refine callsIn_of_wp Try.func57 rfl trivial ?_ rfl
  simp only [Try.ntmps57, List.size_toArray, List.length_cons, List.length_nil, Nat.reduceAdd, Nat.reduceSub, Array.replicate_succ, Array.replicate_zero, List.push_toArray, List.append_toArray, List.nil_append, List.cons_append]
  gi_wp2
  go_ret
  exact ⟨rfl, rfl⟩
theorem gvV_int {N : Nat} {w : World} {v : Value} {l : List AV} {os : List Nat} (h : GvV N w ⟨false, [.int .i64]⟩ v l os) : ∃ z, v = .int .i64 z ∧ l = [.i z] := by
  obtain ⟨x, hx, l3, l4, o3, o4, hl2, _, hz, h6⟩ := h
  obtain rfl := (List.cons.inj hx).1
  obtain ⟨z, rfl, rfl, _⟩ := hz
  obtain ⟨rfl, _⟩ := h6
  exact ⟨z, rfl, by rw [hl2]; rfl⟩
theorem gvV_bool {N : Nat} {w : World} {v : Value} {l : List AV} {os : List Nat} (h : GvV N w ⟨false, [.bool]⟩ v l os) : ∃ z, v = .bool z ∧ l = [.b z] := by
  obtain ⟨x, hx, l3, l4, o3, o4, hl2, _, hz, h6⟩ := h
  obtain rfl := (List.cons.inj hx).1
  obtain ⟨z, rfl, rfl, _⟩ := hz
  obtain ⟨rfl, _⟩ := h6
  exact ⟨z, rfl, by rw [hl2]; rfl⟩
theorem gvA1 {N : Nat} {w : World} {s : Sh} {v : Value} {l : List AV} (h : Gv N w [s] v l) : ∃ os, GvV N w s v l os := by
  obtain ⟨vs, os, rfl, hga, _⟩ := h
  match vs, hga with
  | [v], ⟨l1, l2, o1, o2, hl, _, h3, h4⟩ =>
    obtain ⟨rfl, _⟩ := h4
    refine ⟨o1, ?_⟩
    rw [hl, List.append_nil]
    exact h3
theorem gvA2 {N : Nat} {w : World} {s t : Sh} {v : Value} {l : List AV} (h : Gv N w [s, t] v l) : ∃ v1 v2 l1 l2 o1 o2, v = .tuple #[v1, v2] ∧ l = l1 ++ l2 ∧ GvV N w s v1 l1 o1 ∧ GvV N w t v2 l2 o2 := by
  obtain ⟨vs, os, rfl, hga, _⟩ := h
  match vs, hga with
  | [v, u], ⟨l1, l2, o1, o2, hl, _, h3, ⟨l3, l4, o3, o4, hl2, _, h5, h6⟩⟩ =>
    obtain ⟨rfl, _⟩ := h6
    refine ⟨v, u, l1, l3, o1, o3, rfl, ?_, h3, h5⟩
    rw [hl, hl2, List.append_nil]
abbrev shAir : Sh := ⟨true, [.slc [.int .i64, .int .i64, .int .i64, .int .i64], .mat [.int .i64]]⟩
theorem rdv_int {w : World} (x : Int) : RdV w ⟨false, [.int .i64]⟩ (.int .i64 x) [.i x] := ⟨[.i x], [], rfl, ⟨x, rfl, rfl⟩, rfl⟩
section
variable {w W : World} {A : Value} {a : Int → Nat → Int} {n : Int} {l : Int → Int} {f : Int → Int → Nat → Int} {m : Int}
theorem level_any (hA : RdV w shAir A [.a a, .i n, .m l f, .i m]) (hB : Below w.heap.size w W) (x y : Int) :
    Calls Try.prog 27 #[A, .int .i64 x, .int .i64 y] W fun e W' => e = .returned (.tuple #[.int .i64 (lvV a n l f m x y), .int .i64 (lvE a n l f m x y)]) ∧ Below W.heap.size W W' := by
  refine (ok27 [A, .int .i64 x, .int .i64 y] [.a a, .i n, .m l f, .i m, .i x, .i y] W trivial ⟨[.a a, .i n, .m l f, .i m], [.i x, .i y], rfl, rdV_later hB hA, [.i x], [.i y], rfl, rdv_int x, [.i y], [], rfl, rdv_int y, rfl⟩ trivial).mono ?_
  rintro e W' ⟨v, rfl, hb, hg⟩
  have ho : (mkCon sig27 pre27 raw27).out [.a a, .i n, .m l f, .i m, .i x, .i y] = [.i (lvV a n l f m x y), .i (lvE a n l f m x y)] := by
    show [AV.i (hidF lvV a n l f m x y), AV.i (hidF lvE a n l f m x y)] = _
    rw [hidF_eq, hidF_eq]
  rw [ho] at hg
  obtain ⟨v1, v2, l1, l2, o1, o2, rfl, hl, h1, h2⟩ := gvA2 hg
  obtain ⟨z1, rfl, rfl⟩ := gvV_int h1
  obtain ⟨z2, rfl, rfl⟩ := gvV_int h2
  simp at hl
  rw [hl.1, hl.2]
  exact ⟨rfl, hb⟩
theorem hears_any (hA : RdV w shAir A [.a a, .i n, .m l f, .i m]) (hB : Below w.heap.size w W) (x y : Int) :
    Calls Try.prog 26 #[A, .int .i64 x, .int .i64 y] W fun e W' => e = .returned (.tuple #[.bool (hrV a n l f m x y), .int .i64 (lvE a n l f m x y)]) ∧ Below W.heap.size W W' := by
  refine (ok26 [A, .int .i64 x, .int .i64 y] [.a a, .i n, .m l f, .i m, .i x, .i y] W trivial ⟨[.a a, .i n, .m l f, .i m], [.i x, .i y], rfl, rdV_later hB hA, [.i x], [.i y], rfl, rdv_int x, [.i y], [], rfl, rdv_int y, rfl⟩ trivial).mono ?_
  rintro e W' ⟨v, rfl, hb, hg⟩
  have ho : (mkCon sig26 pre26 raw26).out [.a a, .i n, .m l f, .i m, .i x, .i y] = [.b (hrV a n l f m x y), .i (lvE a n l f m x y)] := by
    show [AV.b (hidF hrV a n l f m x y), AV.i (hidF lvE a n l f m x y)] = _
    rw [hidF_eq, hidF_eq]
  rw [ho] at hg
  obtain ⟨v1, v2, l1, l2, o1, o2, rfl, hl, h1, h2⟩ := gvA2 hg
  obtain ⟨z1, rfl, rfl⟩ := gvV_bool h1
  obtain ⟨z2, rfl, rfl⟩ := gvV_int h2
  simp at hl
  rw [hl.1, hl.2]
  exact ⟨rfl, hb⟩
theorem rdv_sd {w : World} (b : Int → Nat → Int) (r : Int) : RdV w ⟨true, [.int .i64, .int .i64, .int .i64, .int .i64]⟩ (sdV b r) [.i (b r 0), .i (b r 1), .i (b r 2), .i (b r 3)] :=
  ⟨[.int .i64 (b r 0), .int .i64 (b r 1), .int .i64 (b r 2), .int .i64 (b r 3)], rfl, [.i (b r 0)], _, rfl, ⟨_, rfl, rfl⟩, [.i (b r 1)], _, rfl, ⟨_, rfl, rfl⟩, [.i (b r 2)], _, rfl, ⟨_, rfl, rfl⟩, [.i (b r 3)], [], rfl, ⟨_, rfl, rfl⟩, rfl⟩
theorem overlap_any (b : Int → Nat → Int) (r i : Int) (W : World) :
    Calls Try.prog 18 #[sdV b r, sdV b i] W fun e W' => e = .returned (.bool (ovl (b r 1) (b r 2) (b i 1) (b i 2))) ∧ Below W.heap.size W W' := by
  refine (ok18 [sdV b r, sdV b i] [.i (b r 0), .i (b r 1), .i (b r 2), .i (b r 3), .i (b i 0), .i (b i 1), .i (b i 2), .i (b i 3)] W trivial ⟨[.i (b r 0), .i (b r 1), .i (b r 2), .i (b r 3)], _, rfl, rdv_sd b r, [.i (b i 0), .i (b i 1), .i (b i 2), .i (b i 3)], [], rfl, rdv_sd b i, rfl⟩ trivial).mono ?_
  rintro e W' ⟨v, rfl, hb, hg⟩
  have ho : (mkCon sig18 pre18 raw18).out [.i (b r 0), .i (b r 1), .i (b r 2), .i (b r 3), .i (b i 0), .i (b i 1), .i (b i 2), .i (b i 3)] = [.b (ovl (b r 1) (b r 2) (b i 1) (b i 2))] := by
    show [AV.b (hidF ovl (b r 1) (b r 2) (b i 1) (b i 2))] = _
    rw [hidF_eq]
  rw [ho] at hg
  obtain ⟨os, h1⟩ := gvA1 hg
  obtain ⟨z1, rfl, hl⟩ := gvV_bool h1
  simp at hl
  rw [hl]
  exact ⟨rfl, hb⟩
end
section
variable {F : Fence} {n : Nat} {P : Program} {ops : Array Oper} {md : Region.Mode} {C : World → Prop}
theorem quiet_op {o : Oper} {a : Act} {K : Act → Prop} {K' : Act → World → Prop} {Q' : Exit → Act → World → Prop} {w : World} {l : Nat} (hro : F.round = some l) (hnd : ∀ c, o.op ≠ .defer c) (hw : C w) (h : ∀ a w', C w' → K a → K' a w')
    (ha : o.askedIn F P a C) (hh : o.quietIn F n P a C K) : o.wpIn F n P a w K' Q' := by
  obtain ⟨v, h1, h2⟩ := hh
  have h3 := h1 w hw
  unfold Oper.quietAtIn at h3
  unfold Oper.wpIn
  refine ⟨ha w hw, ?_⟩
  rw [hro, Oper.semAt_some _ _ _ hnd]
  generalize (execOp a.eval o).run P w = r at *
  cases r with
  | ok x w' =>
    cases x <;> simp only [Oper.quietUponIn] at h3 <;> simp only [Oper.uponIn]
    case value u =>
      obtain ⟨e1, e2⟩ := h3
      rw [e1, e2]
      exact h _ _ hw h2
    case skip =>
      obtain ⟨e1, e2⟩ := h3
      rw [e1, ← e2]
      exact h _ _ hw h2
    case enter f args =>
      obtain ⟨e1, hd, hc⟩ := h3
      rw [e1]
      exact ⟨hd, hc.mono fun e w'' ⟨he, hw''⟩ => by subst he; exact h _ _ hw'' h2⟩
  | halt x w' => simp only [Oper.quietUponIn] at h3
theorem quiet_at {i : Nat} {a : Act} {K : Act → Prop} {K' : Act → World → Prop} {Q' : Exit → Act → World → Prop} {w : World} {l : Nat} (hro : F.round = some l) (hnd : ∀ (i : Nat) o, ops[i]? = some o → ∀ c, o.op ≠ .defer c) (hC : C w) (h : ∀ a w', C w' → K a → K' a w')
    (hh : qOpIn F n P ops C i K a) : wpOpIn F n P ops Q' i K' a w := by
  unfold qOpIn at hh
  unfold wpOpIn
  split
  · rename_i ho; simp only [ho] at hh; exact h _ _ hC hh
  · rename_i o ho
    simp only [ho] at hh
    obtain ⟨ha, hh⟩ := hh
    split
    · rename_i hw; simp only [hw, if_true] at hh; exact quiet_op hro (hnd i o ho) hC h ha hh
    · rename_i hw; simp only [hw] at hh; exact ⟨ha w hC, h _ _ hC hh⟩
theorem quiet_any {Q : Act → Prop} {Q' : Exit → Act → World → Prop} {l : Nat} (hro : F.round = some l) (hnd : ∀ (i : Nat) o, ops[i]? = some o → ∀ c, o.op ≠ .defer c) (hQ : ∀ a w, C w → Q a → Q' .normal a w) : ∀ (fuel : Nat) (listed : Array Bool) (a : Act) (w : World), C w →
    wpAnyQIn F n P md ops C Q fuel listed a → wpAnyIn F n P md ops Q' fuel listed a w
  | 0, _, _, _, hw, h => ⟨h.1, hQ _ _ hw h.2⟩
  | fuel + 1, _, _, _, hw, h => ⟨fun h0 => hQ _ _ hw (h.1 h0), fun i hi => quiet_at hro hnd hw (fun a' w' hw' => quiet_any hro hnd hQ fuel _ a' w' hw') (h.2 i hi)⟩
/-- a region of a round that draws its order and only reads -/
theorem quiet_region {id : Nat} {Q : Exit → Act → World → Prop} {a : Act} {w : World} {k : List Oper} {l : Nat} (hro : F.round = some l) (hnd : ∀ o ∈ k, ∀ c, o.op ≠ .defer c) (hm : P.follows .mixedOrders = true) (hB : Region.lexB .any k.toArray = true)
    (h : wpQuietIn F n P k.toArray (fun w' => ∃ n, w' = w.drewN n) (fun a' => ∀ w', (∃ n, w' = w.drewN n) → Q .normal a' w') k a) : (Code.region id k.toArray true).wpIn F n P Q a w := by
  have hB' := hB
  simp only [Region.lexB, Bool.and_eq_true] at hB
  refine wpIn_region_any hm (quiet_any (C := fun w' => ∃ n, w' = w.drewN n) (Q := fun a' => ∀ w', (∃ n, w' = w.drewN n) → Q .normal a' w') hro (fun i o ho => hnd o (by
    have := Array.mem_of_getElem? ho
    simpa using this)) (fun _ w' hw' h => h w' hw') _ _ _ _ ⟨1, rfl⟩ ?_)
  have := wpAnyQIn_lex (F := F) (n := n) (C := fun w' => ∃ n, w' = w.drewN n) (md := .any) hB.1 k.toArray.toList 0 (Array.replicate k.toArray.size false) a (by simp) (by simpa using hB.2) (by simpa using h)
  simpa using this
end
theorem lv_bd {a : Int → Nat → Int} {n : Int} {l : Int → Int} {f : Int → Int → Nat → Int} {m i j : Int} (h : ckW a n l f m = 0) (i0 : 0 ≤ i) (i1 : i < n) (j0 : 0 ≤ j) (j1 : j < n) : -5000 ≤ lvA a f m i j ∧ lvA a f m i j ≤ 5000 := by
  have r1 := ckW_row h i i0 i1
  have r3 := fun hm => ckW_sh h i j i0 hm j0 j1
  have r4 := ckW_ok h
  have r5 := dsW_ok h i0 i1 j0 j1
  have e : lvA a f m i j = a i 2 - (loss (dsW a i j) + (if 0 < m then f i j 0 else 0)) := rfl
  rw [e]
  split
  · have := r3 (by omega)
    omega
  · omega
theorem keeps_below {W W' : World} (h : Below W.heap.size W W') : KeepsOthers W W' := ⟨h.size, fun k o hk _ => (h.block k (Array.getElem?_eq_some_iff.1 hk).1).trans hk⟩
theorem cell_al {W : World} {a : Addr} {v : Value} (o : Obj) (h : W.cell? a = some v) : (W.alloc o).cell? a = some v := (((Below.refl W.heap.size W).alloc (Nat.le_refl _) o).cell (World.block_lt_of_cell? W a h)).trans h
theorem frozen_al {W : World} {a : Addr} {v : Value} (o : Obj) (h : W.cell? a = some v) (hf : W.frozen? a = false) : (W.alloc o).frozen? a = false := Below.frozen' ((Below.refl W.heap.size W).alloc (Nat.le_refl _) o) h hf
set_option maxRecDepth 100000 in
set_option maxHeartbeats 4000000 in
theorem can_any {w : World} {qa : Option Addr} {na ca : Nat} {sB : Value} {q : Option Addr} {len cap : Nat} {a : Int → Nat → Int} {n : Int} {l : Int → Int} {f : Int → Int → Nat → Int} {m : Int} {b : Int → Nat → Int} {i j : Int}
    (hA : RdV w shAir (.agg #[(.slice qa na ca), sB]) [.a a, .i n, .m l f, .i m]) (h1 : len ≤ cap) (h2 : cap ≤ maxLen) (h3 : q = none → cap = 0) (h4 : Row4 w.heap.size w q len b)
    (hna : (na : Int) = n) (hnc : na ≤ maxLen) (h5 : Row4 w.heap.size w qa na a)
    (hc : mcE a n l f m b len = 0) (i0 : 0 ≤ i) (i1 : i < len) (j0 : 0 ≤ j) (j1 : j < n) :
    Calls Try.prog 43 #[.agg #[(.slice qa na ca), sB], .slice q len cap, .int .i64 i, .int .i64 j] w fun e w' => e = .returned (.bool (caB a f m b len i j)) ∧ Below w.heap.size w w' := by
  obtain ⟨k, rfl⟩ := Int.eq_ofNat_of_zero_le i0
  have hk : k < len := by omega
  refine (callsIn_wide (n := 20)).1 ?_
  refine callsIn_of_wp_marks Try.func43 rfl trivial ?_ rfl
  simp only [Try.ntmps43, List.size_toArray, List.length_cons, List.length_nil, Nat.reduceAdd, Nat.reduceSub, Array.replicate_succ, Array.replicate_zero, List.push_toArray, List.append_toArray, List.nil_append, List.cons_append]
  obtain ⟨w1, hw1⟩ : ∃ w1, (((w.alloc (.cells #[(.slice qa na ca), sB] 25)).alloc (.cells #[.int .i64 j] 3)).alloc (.cells #[.bool false] 4)) = w1 := ⟨_, rfl⟩
  have hB1 : Below w.heap.size w w1 := by rw [← hw1]; exact (((Below.refl _ w).alloc (Nat.le_refl _) _).alloc (by simp) _).alloc (by simp; omega) _
  have hs1 : w.heap.size + 3 ≤ w1.heap.size := by rw [← hw1]; simp
  obtain ⟨p, rfl, hb, c0, c1, c2, c3⟩ := (h4.below hB1).at hk
  obtain ⟨w2, hw2⟩ : ∃ w2, w1.alloc (.cells #[.int .i64 (b k 0), .int .i64 (b k 1), .int .i64 (b k 2), .int .i64 (b k 3)] 41) = w2 := ⟨_, rfl⟩
  have hB2 : Below w.heap.size w w2 := by rw [← hw2]; exact hB1.alloc hB1.size _
  have hs2 : w1.heap.size + 1 ≤ w2.heap.size := by rw [← hw2]; simp
  have hfx : ∀ W, Below w2.heap.size w2 W → W.cell? ⟨w.heap.size, 0, none⟩ = some (.slice qa na ca) ∧ W.cell? ⟨w.heap.size, 1, none⟩ = some sB ∧ W.cell? ⟨w.heap.size + 1, 0, none⟩ = some (.int .i64 j) ∧ W.cell? ⟨w.heap.size + 1 + 1, 0, none⟩ = some (.bool false) ∧ W.frozen? ⟨w.heap.size + 1 + 1, 0, none⟩ = false ∧
      W.cell? ⟨w1.heap.size, 0, none⟩ = some (.int .i64 (b k 0)) ∧ W.cell? ⟨w1.heap.size, 1, none⟩ = some (.int .i64 (b k 1)) ∧ W.cell? ⟨w1.heap.size, 2, none⟩ = some (.int .i64 (b k 2)) ∧ W.cell? ⟨w1.heap.size, 3, none⟩ = some (.int .i64 (b k 3)) := fun W hW => by
    have g : ∀ (p : Addr) v, w2.cell? p = some v → W.cell? p = some v := fun p v h => Below.cell' hW h
    have a1 : w1.cell? ⟨w.heap.size, 0, none⟩ = some (.slice qa na ca) ∧ w1.cell? ⟨w.heap.size, 1, none⟩ = some sB ∧ w1.cell? ⟨w.heap.size + 1, 0, none⟩ = some (.int .i64 j) ∧ w1.cell? ⟨w.heap.size + 1 + 1, 0, none⟩ = some (.bool false) ∧ w1.frozen? ⟨w.heap.size + 1 + 1, 0, none⟩ = false := by
      rw [← hw1]
      refine ⟨cell_al _ (cell_al _ (by simp [go_sem])), cell_al _ (cell_al _ (by simp [go_sem])), cell_al _ (by simp [go_sem]), by simp [go_sem], by simp [go_sem]⟩
    obtain ⟨x1, x2, x3, x4, x5⟩ := a1
    have y4 : w2.cell? ⟨w.heap.size + 1 + 1, 0, none⟩ = some (.bool false) := by rw [← hw2]; exact cell_al _ x4
    refine ⟨g _ _ (by rw [← hw2]; exact cell_al _ x1), g _ _ (by rw [← hw2]; exact cell_al _ x2), g _ _ (by rw [← hw2]; exact cell_al _ x3), g _ _ y4, Below.frozen' hW y4 (by rw [← hw2]; exact frozen_al _ x4 x5), g _ _ (by rw [← hw2]; simp [go_sem]), g _ _ (by rw [← hw2]; simp [go_sem]), g _ _ (by rw [← hw2]; simp [go_sem]), g _ _ (by rw [← hw2]; simp [go_sem])⟩
  obtain ⟨f0, f1, f2, f3, f4, f5, f6, f7, f8⟩ := hfx w2 (Below.refl _ _)
  obtain ⟨hw, h64, hrow⟩ := mc_ok hc
  have hr := hrow k (by omega) (by omega)
  have hlE : ∀ x y : Int, 0 ≤ x → x < n → 0 ≤ y → y < n → lvE a n l f m x y = 0 := fun x y x0 x1 y0 y1 => by
    unfold lvE
    rw [if_pos hw, if_pos ⟨x0, x1, y0, y1⟩]
  have hlV : ∀ x y : Int, 0 ≤ x → x < n → 0 ≤ y → y < n → lvV a n l f m x y = lvA a f m x y := fun x y x0 x1 y0 y1 => by
    unfold lvV
    rw [if_pos (hlE x y x0 x1 y0 y1)]
  have hL := level_any hA hB2 (b k 0) j
  rw [hlE _ _ hr.1 hr.2.1 j0 j1, hlV _ _ hr.1 hr.2.1 j0 j1] at hL
  have hH : ∀ W, Below w2.heap.size w2 W → Calls Try.prog 26 #[.agg #[(.slice qa na ca), sB], .int .i64 j, .int .i64 (b k 0)] W fun e W' => e = .returned (.tuple #[.bool (hrA a f m j (b k 0)), .int .i64 0]) ∧ Below W.heap.size W W' := fun W hW => by
    have := hears_any hA (hB2.trans (hW.mono hB2.size)) j (b k 0)
    rw [hlE _ _ j0 j1 hr.1 hr.2.1, show hrV a n l f m j (b k 0) = hrA a f m j (b k 0) by unfold hrV; rw [hlE _ _ j0 j1 hr.1 hr.2.1]; simp] at this
    exact this
  generalize hv : lvA a f m (b k 0) j = v at hL
  gi_wp2_with (first
    | (refine ⟨trivial, ?_⟩; gi_at_call 27; refine (callsIn_wide.2 hL).mono ?_; rintro e W3 ⟨rfl, hB3⟩
       obtain ⟨W4, hW4⟩ : ∃ W4, W3.alloc (.cells #[.int .i64 v] 3) = W4 := ⟨_, rfl⟩
       have hB4 : Below w2.heap.size w2 W4 := by rw [← hW4]; exact hB3.alloc hB3.size _
       obtain ⟨g0, g1, g2, g3, g4, g5, g6, g7, g8⟩ := hfx W4 hB4
       have g9 : W4.cell? ⟨W3.heap.size, 0, none⟩ = some (.int .i64 v) := by rw [← hW4]; simp [go_sem])
    | (refine ⟨trivial, ?_⟩; gi_at_call 26; refine (callsIn_wide.2 (hH W4 hB4)).mono ?_; rintro e W5 ⟨rfl, hB5⟩
       have hB5w := hB4.trans (hB5.mono hB4.size)
       obtain ⟨k0, k1, k2, k3, k4, k5, k6, k7, k8⟩ := hfx W5 hB5w
       have k9 := Below.cell' hB5 g9)
    | (refine ⟨trivial, ?_⟩; gi_at_call 57; refine (others_in _ (some p) len cap k W5).mono ?_; rintro e W6 ⟨rfl, hW6⟩
       have hw6 := hW6.symm
       clear hW6))
  · refine ⟨.bool false, ?_, ?_, ?_⟩
    · have hz := World.cell?_setCell_same' W5 ⟨w.heap.size + 1 + 1, 0, none⟩ (.bool false) (by rw [k3]; rfl)
      simp [results, Try.f43, go_sem, hz]
    · have hh : ¬ b k 3 ≤ lvA a f m (b k 0) j := by rw [hv]; omega
      unfold caB
      rw [decide_eq_false hh]; simp
    · exact (hB2.trans (hB5w.mono hB2.size)).setCell (p := ⟨w.heap.size + 1 + 1, 0, none⟩) (by simp; omega) _
  · rename_i hhr hlv _ _
    have hcb : caB a f m b len k j = allI (cnR a f m b k j) len := by
      unfold caB
      rw [hhr, hv, decide_eq_true hlv]; simp
    have hB56 : Below W5.heap.size W5 W6 := by rw [← hw6]; exact ((Below.refl _ W5).alloc (Nat.le_refl _) _).alloc (by simp) _
    have hs6 : W5.heap.size + 2 ≤ W6.heap.size := by rw [← hw6]; simp
    have hB6x := hB5w.trans (hB56.mono hB5w.size)
    have hB6 := hB2.trans (hB6x.mono hB2.size)
    have m9 := Below.cell' hB56 k9
    have ms : W6.cell? ⟨W5.heap.size, 0, none⟩ = some (.slice (some p) len cap) := by rw [← hw6]; exact cell_al _ (by simp [go_sem])
    have mi : W6.cell? ⟨W5.heap.size + 1, 0, none⟩ = some (.int .i64 k) := by rw [← hw6]; simp [go_sem]
    have h46 : Row4 W6.heap.size W6 (some p) len b := (h4.below hB6).more hB6.size
    have h56 : Row4 W6.heap.size W6 qa na a := (h5.below hB6).more hB6.size
    clear hw6 hH hL k0 k1 k2 k3 k4 k5 k6 k7 k8 k9 g0 g1 g2 g3 g4 g5 g6 g7 g8 g9 f0 f1 f2 f3 f4 f5 f6 f7 f8 c0 c1 c2 c3
    refine wpIn_rangeFunc_ownH rfl (by omega) (gf := 69) (lb := #[.pointer (some ⟨W5.heap.size, 0, none⟩), .pointer (some ⟨W5.heap.size + 1, 0, none⟩)]) rfl trivial (enters_of Try.func69 (by kernel_rfl) rfl)
      (encs := fun x : Fin len => #[sdV b x.1]) (Kp := Below W6.heap.size) (S := fun ys => ∀ r : Fin len, ((r.1 : Nat) : Int) ≠ (k : Int) → r ∈ ys) (Sp := fun pre => ∀ r ∈ pre, (((r : Fin len).1 : Nat) : Int) ≠ (k : Int)) (N := len) (w0 := W6)
      (fun l J Jx W hW hJ hJx hY h0 => others1_in _ (by omega) l W5.heap.size (W5.heap.size + 1) W6.heap.size (some p) len cap k b (by omega) W J Jx hJ hY hW.size (by omega) (Below.cell' hW ms) (Below.cell' hW mi) (h46.below hW) h0)
      belowK_t (belowK_b (Nat.le_refl _)) (Below.refl _ _) (fun _ => rfl)
      (fun pre W => (∀ r ∈ pre, cnR a f m b k j ((r.1 : Nat) : Int) = true) ∧ Below W6.heap.size W6 W)
      (fun c pre W => (c = .ret ∧ (∃ r ∈ pre, cnR a f m b k j ((r.1 : Nat) : Int) = false ∨ ((r.1 : Nat) : Int) = (k : Int)) ∧ W.cell? ⟨w.heap.size + 1 + 1, 0, none⟩ = some (.bool false)) ∧ Below w.heap.size w W)
      (OwnFrom.and (ownFrom_pure _ _) (ownFrom_below (Nat.le_refl _) (Nat.le_refl _)))
      (fun c => OwnFrom.and (Own.from (fun s A B row hs hg hr => ⟨hs.1, hs.2.1, cell_kept hs.2.2 hg hr⟩) _) (ownFrom_below (Nat.le_refl _) hB6.size))
      ⟨(fun r hr => by cases hr), Below.refl _ _⟩
      (fun x a' W => ∃ Bx, W6.heap.size ≤ Bx ∧ (W.cell? ⟨Bx, 0, none⟩ = some (.int .i64 (b (x.1 : Int) 0)) ∧ W.cell? ⟨Bx, 1, none⟩ = some (.int .i64 (b (x.1 : Int) 1)) ∧ W.cell? ⟨Bx, 2, none⟩ = some (.int .i64 (b (x.1 : Int) 2)) ∧ W.cell? ⟨Bx, 3, none⟩ = some (.int .i64 (b (x.1 : Int) 3))) ∧
        a' = { tmps := #[.agg #[(.slice qa na ca), sB], .slice (some p) len cap, .int .i64 (k : Int), .int .i64 j, .pointer (some ⟨w.heap.size, 0, none⟩), undef, undef, .pointer (some ⟨w.heap.size + 1, 0, none⟩), .pointer (some ⟨w.heap.size + 1 + 1, 0, none⟩), .pointer (some ⟨w1.heap.size, 0, none⟩), .pointer (some ⟨W3.heap.size, 0, none⟩), .int .i64 0, .bool true, .int .i64 0, .pointer (some ⟨Bx, 0, none⟩), undef, undef, undef, .slice (some p) len cap, .int .i64 (k : Int), .pointer (some (p.add (k * 4))), .agg #[.int .i64 (b ((k : Int)) 0), .int .i64 (b ((k : Int)) 1), .int .i64 (b ((k : Int)) 2), .int .i64 (b ((k : Int)) 3)], .tuple #[.int .i64 v, .int .i64 0], .agg #[(.slice qa na ca), sB], .pointer (some ⟨w1.heap.size, 0, none⟩), .int .i64 (b ((k : Int)) 0), .int .i64 j, .tuple #[.int .i64 v, .int .i64 0], .int .i64 v, .int .i64 0, .tuple #[.bool true, .int .i64 0], .agg #[(.slice qa na ca), sB], .int .i64 j, .pointer (some ⟨w1.heap.size, 0, none⟩), .int .i64 (b ((k : Int)) 0), .tuple #[.bool true, .int .i64 0], .bool true, .int .i64 0, .bool true, .bool false, .bool false, .int .i64 v, .pointer (some ⟨w1.heap.size, 3, none⟩), .int .i64 (b ((k : Int)) 3), .bool (decide (v < b ((k : Int)) 3)), .bool (decide (v < b ((k : Int)) 3)), .slice (some p) len cap, .int .i64 (k : Int), .func (.func 69) #[] #[.pointer (some ⟨W5.heap.size, 0, none⟩), .pointer (some ⟨W5.heap.size + 1, 0, none⟩)], .agg #[.int .i64 (b (x.1 : Int) 0), .int .i64 (b (x.1 : Int) 1), .int .i64 (b (x.1 : Int) 2), .int .i64 (b (x.1 : Int) 3)], undef, undef, undef, undef, undef, undef, undef, undef, undef, undef, undef, undef, undef, undef, undef, undef, undef, undef, undef, undef, undef, undef, undef, undef, undef, undef, undef, undef, undef, undef, undef, undef, undef, undef, undef, undef, undef, undef, undef], defers := [] })
      (fun x a' s A B row ⟨Bx, q0, ⟨q1, q2, q3, q4⟩, e⟩ hg hr => ⟨Bx, q0, ⟨cell_kept q1 hg fun r e => (hr r e).2, cell_kept q2 hg fun r e => (hr r e).2, cell_kept q3 hg fun r e => (hr r e).2, cell_kept q4 hg fun r e => (hr r e).2⟩, e⟩) ?assign ?body ?done ?stop
    case assign =>
      rintro l pre x W K ⟨hp, hB⟩ hK
      unfold sdV
      gi_wp2
      exact hK _ _ ((KeepsOthers.alloc _ _).from _) ((Below.refl _ W).alloc hB.size _) ⟨hp, hB.alloc hB.size _⟩ ⟨W.heap.size, hB.size, ⟨by simp [go_sem], by simp [go_sem], by simp [go_sem], by simp [go_sem]⟩, rfl⟩
    case body =>
      rintro l pre x a' W hl ⟨rc, hrc⟩ ⟨hp, hB⟩ ⟨Bx, hBx, ⟨x0, x1, x2, x3⟩, rfl⟩ hlt
      have hxr := hrow ((x.1 : Nat) : Int) (by omega) (by have := x.2; omega)
      have hBw : Below w2.heap.size w2 W := hB6x.trans (hB.mono hB6x.size)
      obtain ⟨z0, z1, z2, z3, z4, z5, z6, z7, z8⟩ := hfx W hBw
      have z9 := Below.cell' hB m9
      have hO := overlap_any b ((x.1 : Nat) : Int) (k : Int) W
      unfold sdV at hO
      have hL7 : ∀ W7, Below W.heap.size W W7 → Calls Try.prog 27 #[.agg #[.slice qa na ca, sB], .int .i64 (b ((x.1 : Nat) : Int) 0), .int .i64 j] W7 fun e W' => e = .returned (.tuple #[.int .i64 (lvA a f m (b ((x.1 : Nat) : Int) 0) j), .int .i64 0]) ∧ Below W7.heap.size W7 W' := fun W7 hW7 => by
        have := level_any hA ((hB2.trans (hBw.mono hB2.size)).trans (hW7.mono (Nat.le_trans hB2.size hBw.size))) (b ((x.1 : Nat) : Int) 0) j
        rw [hlE _ _ hxr.1 hxr.2.1 j0 j1, hlV _ _ hxr.1 hxr.2.1 j0 j1] at this
        exact this
      generalize hu : lvA a f m (b ((x.1 : Nat) : Int) 0) j = u at hL7
      generalize hov : ovl (b ((x.1 : Nat) : Int) 1) (b ((x.1 : Nat) : Int) 2) (b (k : Int) 1) (b (k : Int) 2) = ov at hO
      gi_wp2_with (first
        | (refine ⟨trivial, ?_⟩; gi_at_call 18; refine (CallsIn.inRound l (callsIn_wide.2 hO)).mono ?_; rintro e W7 ⟨rfl, hB7⟩
           have hB7w := hBw.trans (hB7.mono hBw.size)
           obtain ⟨y0, y1, y2, y3, y4, y5, y6, y7, y8⟩ := hfx W7 hB7w
           have y9 := Below.cell' hB7 z9
           have v0 := Below.cell' hB7 x0
           have v1 := Below.cell' hB7 x1
           have v2 := Below.cell' hB7 x2
           have v3 := Below.cell' hB7 x3)
        | (refine ⟨trivial, ?_⟩; gi_at_call 27; refine (CallsIn.inRound l (callsIn_wide.2 (hL7 W7 hB7))).mono ?_; rintro e W8 ⟨rfl, hB8⟩
           have hB8w := hB7w.trans (hB8.mono hB7w.size)
           obtain ⟨t0, t1, t2, t3, t4, t5, t6, t7, t8⟩ := hfx W8 hB8w
           have t9 := Below.cell' hB8 y9
           have s0 := Below.cell' hB8 v0
           have s1 := Below.cell' hB8 v1
           have s2 := Below.cell' hB8 v2
           have s3 := Below.cell' hB8 v3))
      · have hno : ov = false := by cases ov <;> simp_all
        refine ⟨(keeps_below hB7).from _, hB7.mono hB.size, fun r hr => ?_, hB.trans (hB7.mono hB.size)⟩
        rcases List.mem_append.1 hr with h | h
        · exact hp r h
        · simp at h
          subst h
          unfold cnR
          rw [hov, hno]; simp
      · have hyes : ov = true := by cases ov <;> simp_all
        have hB78 := hB7.trans (hB8.mono hB7.size)
        have hBW8 := hB.trans (hB78.mono hB.size)
        obtain ⟨pa, hpa, hpab, d0, d1, d2, d3⟩ := (h56.below hBW8).at (j := (b ((x.1 : Nat) : Int) 0).toNat) (by omega)
        obtain ⟨pb, hpb, hpbb, e0, e1, e2, e3⟩ := (h56.below hBW8).at (j := j.toNat) (by omega)
        rw [hpa] at hpb
        obtain rfl := Option.some.inj hpb
        subst hpa
        rw [show (((b ((x.1 : Nat) : Int) 0).toNat : Nat) : Int) = b ((x.1 : Nat) : Int) 0 by omega] at d3
        rw [show ((j.toNat : Nat) : Int) = j by omega] at e3
        have q1 : b ((x.1 : Nat) : Int) 0 < (na : Int) := by omega
        have q2 : j < (na : Int) := by omega
        have q3 := hxr.1
        refine quiet_region rfl (by simp) (by kernel_rfl) (by kernel_rfl) ?_
        repeat (gi_big_quiet_step (fail))
        refine wpQuietIn_nil ?_
        rintro _ ⟨nq, rfl⟩
        have hB9 : Below W8.heap.size W8 (W8.drewN nq) := ⟨rfl, rfl, rfl, Nat.le_refl _, fun _ _ => rfl⟩
        generalize W8.drewN nq = W9 at hB9 ⊢
        have hB9w := hB8w.trans (hB9.mono hB8w.size)
        have hBW9 := hBW8.trans (hB9.mono hBW8.size)
        obtain ⟨n0, n1, n2, n3, n4, n5, n6, n7, n8⟩ := hfx W9 hB9w
        have n9 := Below.cell' hB9 t9
        have o0 := Below.cell' hB9 s0
        have hub := lv_bd hw hxr.1 hxr.2.1 j0 j1
        rw [hu] at hub
        have u0 := hub.1
        have u1 := hub.2
        clear hub
        have hWW9 : Below W.heap.size W W9 := hB78.trans (hB9.mono hB78.size)
        have hret : ¬ ((x.1 : Nat) : Int) = (k : Int) → cnX a f m b k j ((x.1 : Nat) : Int) = true → cnR a f m b k j ((x.1 : Nat) : Int) = false := fun h1 h2 => by
          unfold cnR
          rw [hov, hyes, h2, decide_eq_false h1]; rfl
        have hcx : cnX a f m b k j ((x.1 : Nat) : Int) = (decide (b ((x.1 : Nat) : Int) 0 = j) || (decide (a (b ((x.1 : Nat) : Int) 0) 3 = a j 3) && decide (v < u + 100))) := by
          unfold cnX
          rw [hv, hu]
        have hgo : cnX a f m b k j ((x.1 : Nat) : Int) = false → ∀ r ∈ pre ++ [x], cnR a f m b k j ((r.1 : Nat) : Int) = true := fun h2 r hr => by
          rcases List.mem_append.1 hr with h | h
          · exact hp r h
          · simp at h
            subst h
            unfold cnR
            rw [h2]; simp
        have hend : cnX a f m b k j ((x.1 : Nat) : Int) = true → ∃ r ∈ pre ++ [x], cnR a f m b k j ((r.1 : Nat) : Int) = false ∨ ((r.1 : Nat) : Int) = (k : Int) := fun h2 => by
          refine ⟨x, by simp, ?_⟩
          by_cases h1 : ((x.1 : Nat) : Int) = (k : Int)
          · exact .inr h1
          · exact .inl (hret h1 h2)
        have hBf : Below w.heap.size w W9 := hB6.trans (hBW9.mono hB6.size)
        gi_wp2
        · refine ⟨((keeps_below hWW9).trans (KeepsOthers.setCell _ _ _)).from _, ⟨rfl, hend (by rw [hcx]; simp [*]), World.cell?_setCell_same' _ _ _ (by rw [n3]; rfl)⟩, hBf.setCell (p := ⟨w.heap.size + 1 + 1, 0, none⟩) (by simp; omega) _⟩
        · have hlt2 : v < u + 100 := by
            rename_i hz
            rcases hz with hz | hz
            · simp at hz; omega
            · exact hz
          refine ⟨((keeps_below hWW9).trans (KeepsOthers.setCell _ _ _)).from _, ⟨rfl, hend (by rw [hcx]; simp [*]), World.cell?_setCell_same' _ _ _ (by rw [n3]; rfl)⟩, hBf.setCell (p := ⟨w.heap.size + 1 + 1, 0, none⟩) (by simp; omega) _⟩
        · have hlt2 : ¬ v < u + 100 := by
            rename_i hz
            omega
          exact ⟨(keeps_below hWW9).from _, hWW9.mono hB.size, hgo (by rw [hcx]; simp [*]), hBW9⟩
        · exact ⟨(keeps_below hWW9).from _, hWW9.mono hB.size, hgo (by rw [hcx]; simp [*]), hBW9⟩
    case done =>
      rintro D ys W hD hall ⟨hp, hB⟩ hK
      obtain ⟨z0, z1, z2, z3, z4, _⟩ := hfx W (hB6x.trans (hB.mono hB6x.size))
      gi_wp2
      have hK' := (KeepsOthers.setCell W ⟨w.heap.size + 1 + 1, 0, none⟩ (.bool true)).same D _ hK rfl
      refine ⟨by simp, .inl ⟨_, _, rfl, run_takeDeferred hK', ?_⟩⟩
      have hc5 := cell_kept (World.cell?_setCell_same' W ⟨w.heap.size + 1 + 1, 0, none⟩ (.bool true) (by rw [z3]; rfl)) (grownBy_putObj' _ D (.deferred none)) (fun r e => by cases e; exact ⟨_, hK', rfl⟩)
      refine ⟨.bool true, ?_, ?_, ((hB6.trans (hB.mono hB6.size)).setCell (p := ⟨w.heap.size + 1 + 1, 0, none⟩) (by simp; omega) _).trans (belowK_b (w := w) (Nat.le_refl _) _ D _ _ (by have := hB6.size; omega) hK' rfl rfl)⟩
      · simp [results, Try.f43, go_sem, hc5]
      · rw [hcb, allI_of fun r r0 r1 => ?_]
        by_cases hrk : r = (k : Int)
        · unfold cnR; simp [hrk]
        · have := hp ⟨r.toNat, by omega⟩ (hall _ (by show ((r.toNat : Nat) : Int) ≠ _; omega))
          rwa [show (((⟨r.toNat, by omega⟩ : Fin len).1 : Nat) : Int) = r by show ((r.toNat : Nat) : Int) = r; omega] at this
    case stop =>
      rintro D c pre W hD hpre ⟨⟨rfl, ⟨r, hrm, hrc⟩, hcr⟩, hB⟩ hK
      gi_wp2
      refine ⟨by simp, .inl ⟨_, _, rfl, run_takeDeferred hK, ?_⟩⟩
      have hc5 := cell_kept hcr (grownBy_putObj' _ D (.deferred none)) (fun r e => by cases e; exact ⟨_, hK, rfl⟩)
      refine ⟨.bool false, ?_, ?_, hB.trans (belowK_b (w := w) (Nat.le_refl _) W D _ _ (by have := hB6.size; omega) hK rfl rfl)⟩
      · simp [results, Try.f43, go_sem, hc5]
      · have hrf : cnR a f m b k j ((r.1 : Nat) : Int) = false := hrc.resolve_right (hpre r hrm)
        rw [hcb]
        cases hal : allI (cnR a f m b k j) len with
        | false => rfl
        | true =>
          have := allI_at hal (i := ((r.1 : Nat) : Int)) (by omega) (by have := r.2; omega)
          rw [hrf] at this; cases this
  · rename_i hhr _ _
    refine ⟨.bool false, ?_, ?_, ?_⟩
    · have hz := World.cell?_setCell_same' W5 ⟨w.heap.size + 1 + 1, 0, none⟩ (.bool false) (by rw [k3]; rfl)
      simp [results, Try.f43, go_sem, hz]
    · have hh : hrA a f m j (b k 0) = false := by simpa using ‹¬ hrA a f m j (b (k : Int) 0) = true›
      unfold caB
      rw [hh]; simp
    · exact (hB2.trans (hB5w.mono hB2.size)).setCell (p := ⟨w.heap.size + 1 + 1, 0, none⟩) (by simp; omega) _
theorem out43 (a : Int → Nat → Int) (n : Int) (l : Int → Int) (f : Int → Int → Nat → Int) (m : Int) (b : Int → Nat → Int) (k i j : Int) : (mkCon sig43 pre43 raw43).out [.a a, .i n, .m l f, .i m, .a b, .i k, .i i, .i j] = [.b (caB a f m b k i j)] := by
  show [AV.b (hidF caB a f m b k i j)] = _
  rw [hidF_eq]
theorem gvb {w : World} {N : Nat} (p : Bool) : Gv N w [⟨false, [.bool]⟩] (.bool p) [.b p] :=
  ⟨[.bool p], [], rfl, ⟨[.b p], [], [], [], rfl, rfl, ⟨.bool, rfl, [.b p], [], [], [], rfl, rfl, ⟨p, rfl, rfl, rfl⟩, rfl, rfl⟩, rfl, rfl⟩, List.nodup_nil⟩
theorem rdv_sc {w : World} {h : Sh0} {v : Value} {l : List AV} (hr : RdV w ⟨false, [h]⟩ v l) : RdSc w h v l := by
  obtain ⟨x, y, rfl, h1, h2⟩ := hr
  obtain rfl : y = [] := h2
  rw [List.append_nil]; exact h1
theorem ok43 : Meets Try.prog (mkCon sig43 pre43 raw43) 43 sig43 := by
  intro args avs w _ hrd hp
  match args, hrd with
  | [A, S, I, J], ⟨lA, l1, hl1, hA, lS, l2, hl2, hS, lI, l3, hl3, hI, lJ, l4, hl4, hJ, hnil⟩ =>
    obtain rfl : l4 = [] := hnil
    obtain ⟨q, len, cap, b, rfl, rfl, h1, h2, h3, h4⟩ := row4_of (rdv_sc hS)
    obtain ⟨i, rfl, rfl⟩ := rdv_sc hI
    obtain ⟨j, rfl, rfl⟩ := rdv_sc hJ
    have hA' := hA
    obtain ⟨vs, rfl, hL⟩ := hA
    match vs, hL with
    | [sA, sB], ⟨m1, r1, hm1, hsA, m2, r2, hm2, hsB, hz⟩ =>
      obtain rfl : r2 = [] := hz
      obtain ⟨qa, na, ca, a, rfl, rfl, g1, g2, g3, g4⟩ := row4_of hsA
      obtain ⟨qm, nm, cm, lf, f, rows, caps, rfl, f1, f2, f3, rfl, f4⟩ := hsB
      subst hm2 hm1 hl4 hl3 hl2 hl1
      obtain ⟨hc, i0, i1, j0, j1⟩ := hp
      refine (can_any hA' h1 h2 h3 h4 rfl (Nat.le_trans g1 g2) g4 hc i0 i1 j0 j1).mono ?_
      rintro e w' ⟨rfl, hb⟩
      exact ⟨_, rfl, hb, by
        have := out43 a na lf f nm b len i j
        show Gv _ _ _ _ ((mkCon sig43 pre43 raw43).out [.a a, .i na, .m lf f, .i nm, .a b, .i len, .i i, .i j])
        rw [this]
        exact gvb _⟩
end Go.Proofs.Ytgdjdaoglkfjdaa
