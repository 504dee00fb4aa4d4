/- The table of windows as the row lists it gives what the walks ask (Win); the last step of every law's proof; the world at which one input fits. -/
import Derived.Test.YtkagcjibneigdaaDoorRows
import Derived.Test.YtkagcjibneigdaaDoorW
import Derived.WalkKit
import Derived.ProofKit
import Derived.LaidMore
import Derived.OpenShut
import Derived.Stop.Joined
import Derived.Below
import Derived.Lib.SmallJoins
namespace Go.Proofs.YtkagcjibneigdaaDoor
open Go.RowKit Go.WideShapes Go.ChangeShapes Go.ChangeAt
/-- the table as the rows list it -/
def laidW : List (String × DataW Unit) := Rows.contendNamesRow.laid
theorem gWin : Tryd.prog.globalNamed ((laidW.map (·.1)).headD default) = some 0 := by kernel_rfl
theorem tWin : (Tryd.prog.globals[0]?).map (·.type) = some 91 := by kernel_rfl
theorem door_met (os : Os) (args : Array Value) : laidMetH Tryd.prog laidW ((World.doorLaid Tryd.prog 400 os).forCall (fun _ _ => 0) ⟨#[], args, []⟩).memory :=
  laidMetH_of_parts3 (fuel := 8) (laidMet_of_run' 8 (by kernel_rfl) (by kernel_rfl)) (by kernel_rfl) (by kernel_rfl)
theorem two_of {W : World} {fuel : Nat} {p q : Value} {x : DataW Unit × List MemPlace} {a b : Int}
    (h : DataW.trod (fun _ => ()) Tryd.prog W 0 (fun _ => true) false fuel 90 [p, q] = some x) (hx : x.1 = .agg [.lit (.int .i64 a), .lit (.int .i64 b)]) : p = .int .i64 a ∧ q = .int .i64 b := by
  obtain ⟨y0, y1, n, rfl, _, h0, h1⟩ := trod_struct2 Tryd.underlying90 h
  have c3 : Tryd.prog.cellsOf 3 = 1 := by kernel_rfl
  simp only [c3, List.drop_zero, List.take_succ_cons, List.take_zero, List.drop_succ_cons] at h0 h1
  obtain ⟨i, e0, e1, _⟩ := DataW.trod_int Tryd.underlying3 h0
  obtain ⟨j, e2, e3, _⟩ := DataW.trod_int Tryd.underlying3 h1
  simp at e0 e2
  subst e0 e2 e1 e3
  simp at hx
  obtain ⟨rfl, rfl⟩ := hx
  exact ⟨rfl, rfl⟩
theorem of_laid {W : World} (h : laidMetH Tryd.prog laidW W) : GW W := by
  rw [MakeChecks.laidMetH_plain _ _ _ (by kernel_rfl)] at h
  unfold laidW Rows.contendNamesRow at h
  obtain ⟨ps, ⟨g0, t0, cs0, f0, p0, q0, hg0, ht0, hv0, hd0, _, _⟩, _, _⟩ := h
  obtain rfl := Option.some.inj (gWin.symm.trans hg0)
  obtain rfl := Option.some.inj (tWin.symm.trans ht0)
  have c69 : Tryd.prog.cellsOf 90 = 2 := by kernel_rfl
  have c70 : Tryd.prog.cellsOf 91 = 8 := by kernel_rfl
  obtain ⟨xs, m1, rfl, hx1, hlen, hn, hel⟩ := DataW.trod_array Tryd.underlying91 hd0
  rw [c70] at hlen
  rw [c69] at hel
  simp only [Prod.mk.injEq, DataW.agg.injEq, Rows.laid_hotspot_backoff_windows] at hx1
  obtain ⟨l⟩ := cs0
  have hcell := World.var?_cell gWin hv0
  simp only at hlen hel hcell
  match l, hlen, xs, hn with
  | [a0, a1, a2, a3, a4, a5, a6, a7], _, [x0, x1, x2, x3], _ =>
    simp only [List.map_cons, List.map_nil, List.cons.injEq, and_true] at hx1
    obtain ⟨⟨k0, k1, k2, k3⟩, _⟩ := hx1
    obtain ⟨rfl, rfl⟩ := two_of (p := a0) (q := a1) (hel 0 (by decide)) k0.symm
    obtain ⟨rfl, rfl⟩ := two_of (p := a2) (q := a3) (hel 1 (by decide)) k1.symm
    obtain ⟨rfl, rfl⟩ := two_of (p := a4) (q := a5) (hel 2 (by decide)) k2.symm
    obtain ⟨rfl, rfl⟩ := two_of (p := a6) (q := a7) (hel 3 (by decide)) k3.symm
    intro j z hj
    match j, hj with
    | 0, hj => obtain rfl := Option.some.inj hj; exact hcell 0
    | 1, hj => obtain rfl := Option.some.inj hj; exact hcell 1
    | 2, hj => obtain rfl := Option.some.inj hj; exact hcell 2
    | 3, hj => obtain rfl := Option.some.inj hj; exact hcell 3
    | 4, hj => obtain rfl := Option.some.inj hj; exact hcell 4
    | 5, hj => obtain rfl := Option.some.inj hj; exact hcell 5
    | 6, hj => obtain rfl := Option.some.inj hj; exact hcell 6
    | 7, hj => obtain rfl := Option.some.inj hj; exact hcell 7
    | j + 8, hj => simp [tbl] at hj
section
variable {H : Type} {enc : TypeId × Value → H} {P : Program}
/-- Arguments read as they did where nothing old has changed. -/
theorem trodAll_below (hl : laidOutB P = true) {W W' : World} (hb : Below W.heap.size W W') (sp : Nat → Bool) :
    ∀ (ts : List TypeId) (vs : List Value) (ds : List (DataW H)) (ps : List MemPlace), (∀ t ∈ ts, P.readableRec t = true ∧ t < P.types.size) →
      DataW.TrodAll enc P W 0 (fun _ => true) true ts vs ds ps → (∀ x ∈ ps, x.block < W.heap.size) → (∀ x ∈ ps, sp x.block = true) →
      DataW.TrodAll enc P W' 0 sp true ts vs ds ps
  | [], vs, ds, ps, _, h, _, _ => by
    obtain ⟨rfl, rfl, rfl⟩ := trodAll_nil h
    exact trodAll_mk0
  | t :: ts, vs, ds, ps, ht, h, hlt, hsp => by
    obtain ⟨v, vs', d, ds', p, q, rfl, rfl, rfl, hd, hr⟩ := trodAll_cons h
    have h1 := WideElems.Trod_stays hl (ht t (by simp)).1 (ht t (by simp)).2 hd (fun x hx => hb.same (hlt x (by simp [hx]))) (fun x hx => hsp x (by simp [hx]))
    exact trodAll_cons_mk h1 (trodAll_below hl hb sp ts vs' ds' q (fun t' h' => ht t' (by simp [h'])) hr (fun x hx => hlt x (by simp [hx])) (fun x hx => hsp x (by simp [hx])))
/-- What a law's row asks behind the call. -/
theorem law_done {f : Func} {s : ChangeSpec} {tb : TypeId} {W W' : World} {args : Array Value} {ds gs : List (DataW H)} {before : List MemPlace} (hl : laidOutB P = true)
    (hts : ∀ t ∈ f.params.toList, P.readableRec t = true ∧ t < P.types.size) (hvars : s.vars = []) (hr : f.resultTypes = #[tb]) (htb : P.underlying tb = some .bool)
    (hfn : s.fn H (ds ++ gs) = { results := [.lit (.bool true)], args := ds }) (hW : DataW.Whole enc P f.params.toList s.vars false W args.toList ds gs before)
    (hb : Below W.heap.size W W') : s.post enc P f false true false false W args (.bool true) W' := by
  have hlt : ∀ x ∈ before, x.block < W.heap.size := fun x hx => hW.lt x hx
  have hW2 := hW
  obtain ⟨p, q, hA, hV, hpq, _, _⟩ := hW2
  rw [hvars] at hV
  obtain ⟨_, rfl⟩ := trodVars_none hV
  rw [List.append_nil] at hpq
  subst hpq
  have hargs := trodAll_below hl hb (fun b => decide (b < W.heap.size)) _ _ _ _ hts hA hlt (fun x hx => by simpa using hlt x hx)
  refine ⟨ds, gs, before, [], before, [], hW, ?_, ?_, ?_, World.keptBut_mono (fun x hx => ⟨hx, .inr (.inl hx)⟩) (hb.frame (· ∈ before)), fun h => by cases h⟩
  · rw [hfn, hr]
    exact trodAll_mk1 (shut_bool htb _)
  · rw [hfn]
    exact hargs
  · rw [hfn, hvars]
    exact rfl
end
theorem laidOut : laidOutB Tryd.prog = true := by kernel_rfl
theorem own : ownKnob Tryd.prog.godebug = none := by kernel_rfl
end Go.Proofs.YtkagcjibneigdaaDoor
