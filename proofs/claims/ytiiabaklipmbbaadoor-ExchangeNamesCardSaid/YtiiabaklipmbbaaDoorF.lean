/- The map of kinds as the rows list it gives what Header asks (GW); the last step of every law's proof; the world at which one input fits. -/
import Derived.Test.YtiiabaklipmbbaaDoorRows
import Derived.Test.YtiiabaklipmbbaaDoorW
import Derived.WalkKit
import Derived.ProofKit
import Derived.LaidMore
import Derived.OpenShut
import Derived.Stop.Joined
import Derived.Below
import Derived.Lib.SmallJoins
import Derived.Maps.Keyed
namespace Go.Proofs.YtiiabaklipmbbaaDoor
open Go.RowKit Go.WideShapes Go.ChangeShapes Go.ChangeAt Go.Proofs.YtiiabaklipmbbaaDoor.Vc
/-- the map as the rows list it -/
def laidW : List (String × DataW Unit) := Rows.exchangeNamesRow.laid
theorem gWin : Tryd.prog.globalNamed ((laidW.map (·.1)).headD default) = some 0 := by kernel_rfl
theorem tWin : (Tryd.prog.globals[0]?).map (·.type) = some 55 := by kernel_rfl
theorem door_met (os : Os) (args : Array Value) : laidMetH Tryd.prog laidW ((World.doorLaid Tryd.prog 400 os).forCall (fun _ _ => 0) ⟨#[], args, []⟩).memory :=
  laidMetH_of_parts3 (fuel := 8) (laidMet_of_run' 8 (by kernel_rfl) (by kernel_rfl)) (by kernel_rfl) (by kernel_rfl)
theorem zeroEl (w : World) : (zeroValue 53).run Tryd.prog w = .ok (.agg #[.int .u8 0, .int .u8 0]) w := by kernel_rfl
/-- an element out of its datum -/
theorem elem_of {W : World} {n : Nat} {v : Value} {y : DataW Unit × List MemPlace} {a b : Int} (h : WideElems.elemAt (fun _ => ()) Tryd.prog W 0 (fun _ => true) false n 53 v = some y) (hy : y.1 = .agg [.lit (.int .u8 a), .lit (.int .u8 b)]) : v = .agg #[.int .u8 a, .int .u8 b] := by
  unfold WideElems.elemAt at h
  split at h
  · rename_i hf
    obtain ⟨xs, m1, e1, hx1, hlen, hn, hel⟩ := DataW.trod_array Tryd.underlying53 h
    have c53 : Tryd.prog.cellsOf 53 = 2 := by kernel_rfl
    have c5 : Tryd.prog.cellsOf 5 = 1 := by kernel_rfl
    rw [c53] at hlen
    rw [c5] at hel
    rw [hx1] at hy
    cases v with
    | agg cs =>
      obtain ⟨l⟩ := cs
      simp only [Value.cells] at hlen hel
      match l, hlen, xs, hn with
      | [u0, u1], _, [x0, x1], _ =>
        simp only [List.map_cons, List.map_nil, DataW.agg.injEq, List.cons.injEq, and_true] at hy
        have h0 := hel 0 (by decide)
        have h1 := hel 1 (by decide)
        simp only [Nat.zero_mul, Nat.one_mul, List.drop_zero, List.drop_succ_cons, List.take_succ_cons, List.take_zero] at h0 h1
        obtain ⟨i, f0, f1, _⟩ := DataW.trod_int Tryd.underlying5 h0
        obtain ⟨j, f2, f3, _⟩ := DataW.trod_int Tryd.underlying5 h1
        simp at f0 f2
        subst f0 f2
        rw [f1, f3] at hy
        simp at hy
        obtain ⟨rfl, rfl⟩ := hy
        rfl
    | _ => exact absurd hf (by simp [Value.formed, Tryd.underlying53])
  · cases h
theorem at_map (x : Int) (zd : DataW Unit) : (Rows.laid_hotspot_exchange_subs : DataW Unit).atKey (.int .u8 x) zd = if hasI LKm.ks x = true then .agg [.lit (.int .u8 (tabI LKm.t1 x)), .lit (.int .u8 (tabI LKm.t2 x))] else zd := by
  by_cases h : x = 1 ∨ x = 2 ∨ x = 3 ∨ x = 4 ∨ x = 5 ∨ x = 6 ∨ x = 7
  · rcases h with rfl | rfl | rfl | rfl | rfl | rfl | rfl <;> rfl
  · have hh : hasI LKm.ks x = false := by
      simp [hasI, LKm]; omega
    rw [hh]
    have e : ∀ k : Int, ¬ k = x → decide (True ∧ k = x) = false := fun k hk => decide_eq_false (fun hc => hk hc.2)
    simp only [Rows.laid_hotspot_exchange_subs, DataW.atKey, List.find?, Lit.sameKey]
    rw [e 1 (by omega), e 2 (by omega), e 3 (by omega), e 4 (by omega), e 5 (by omega), e 6 (by omega), e 7 (by omega)]
    rfl
theorem of_laid {W : World} (h : laidMetH Tryd.prog laidW W) : GW W := by
  rw [MakeChecks.laidMetH_plain _ _ _ (by kernel_rfl)] at h
  unfold laidW Rows.exchangeNamesRow at h
  obtain ⟨ps, ⟨g0, t0, cs0, f0, p0, q0, hg0, ht0, hv0, hd0, _, _⟩, _, _⟩ := h
  obtain rfl := Option.some.inj (gWin.symm.trans hg0)
  obtain rfl := Option.some.inj (tWin.symm.trans ht0)
  have hcell := World.var?_cell gWin hv0
  rcases WideElems.open_map Tryd.underlying55 hd0 with ⟨_, hx⟩ | ⟨b, es, clock, n, hfu, hcs, hb, _, F, hx⟩
  · cases hx
  · obtain ⟨l⟩ := cs0
    simp only at hcs hcell
    subst hcs
    have hag : ∀ w : World, (isAgg 55).run Tryd.prog w = .ok false w := fun w => by kernel_rfl
    have c0 : W.cell? ⟨0, 0, none⟩ = some (.map (some b)) := hcell 0
    have hbm : b < W.heap.size := by
      rcases Nat.lt_or_ge b W.heap.size with h | h
      · exact h
      · rw [Array.getElem?_eq_none h] at hb; cases hb
    refine ⟨.map (some b), fun w' hw' => ⟨fun a => ?_, fun x x0 x1 => ?_⟩⟩
    · have c1 : w'.cell? ⟨0, 0, none⟩ = some (.map (some b)) := Below.cell' hw' c0
      have ha : a.eval (.global 0) = .pointer (some ⟨0, 0, none⟩) := rfl
      show (Instr.loadAt 55 (a.eval (.global 0))).run Tryd.prog w' = _
      rw [ha]
      simp [Instr.loadAt, Instr.sureAddr, loadVar, hag, load, Sem.run, c1]
    · have hb' : w'.heap[b]? = some (.map es clock) := by rw [hw'.block b hbm]; exact hb
      have hkey : keyOf Tryd.prog 5 (.int .u8 x) = some (.int .u8 x) := Maps.keyOf_int_mk Tryd.underlying5 (WalkArith.wf_u8 ⟨x0, x1⟩)
      have hD : ∀ zd, (DataW.map ((es.toList.map (WideElems.rg Tryd.prog 5 (WideElems.elemAt (fun _ => ()) Tryd.prog W 0 (fun _ => true) false n 53))).foldr DataW.insert [])).atKey (.int .u8 x) zd = if hasI LKm.ks x = true then .agg [.lit (.int .u8 (tabI LKm.t1 x)), .lit (.int .u8 (tabI LKm.t2 x))] else zd := fun zd => by
        have hx2 := congrArg Prod.fst hx
        simp only at hx2
        rw [← hx2]
        exact at_map x zd
      rcases Maps.fit_look true (Maps.int_keyed Tryd.underlying5) Tryd.underlying55 (zeroEl w') hb' F hkey with ⟨hr, _, hz⟩ | ⟨e0, y, _, _, hr, hR, hz, _⟩
      · have h0 : hasI LKm.ks x = false := by
          cases hh : hasI LKm.ks x with
          | false => rfl
          | true =>
            have := hz .nil
            rw [hD, hh] at this
            cases this
        have h1 : tabI LKm.t1 x = 0 ∧ tabI LKm.t2 x = 0 := by
          simp [hasI, LKm] at h0
          simp [tabI, LKm, h0]
        show (Instr.lookup 55 (.map (some b)) (.int .u8 x) true).run Tryd.prog w' = _
        rw [h0, h1.1, h1.2]
        exact hr
      · have h0 : hasI LKm.ks x = true := by
          cases hh : hasI LKm.ks x with
          | true => rfl
          | false =>
            have a1 := hz .nil
            have a2 := hz (.agg [])
            rw [hD, hh] at a1 a2
            rw [← a1] at a2
            cases a2
        have hy := hz .nil
        rw [hD, h0] at hy
        have hv := elem_of hR hy.symm
        show (Instr.lookup 55 (.map (some b)) (.int .u8 x) true).run Tryd.prog w' = _
        rw [h0]
        rw [hv] at hr
        exact hr
section
variable {H : Type} {enc : TypeId × Value → H} {P : Program}
/-- Arguments read as they did where nothing old has changed. -/
theorem trodAll_below (hl : laidOutB P = true) {W W' : World} (hb : Below W.heap.size W W') (sp : Nat → Bool) :
    ∀ (ts : List TypeId) (vs : List Value) (ds : List (DataW H)) (ps : List MemPlace), (∀ t ∈ ts, P.readableRec t = true ∧ t < P.types.size) →
      DataW.TrodAll enc P W 0 (fun _ => true) true ts vs ds ps → (∀ x ∈ ps, x.block < W.heap.size) → (∀ x ∈ ps, sp x.block = true) →
      DataW.TrodAll enc P W' 0 sp true ts vs ds ps
  | [], vs, ds, ps, _, h, _, _ => by
    obtain ⟨rfl, rfl, rfl⟩ := trodAll_nil h
    exact trodAll_mk0
  | t :: ts, vs, ds, ps, ht, h, hlt, hsp => by
    obtain ⟨v, vs', d, ds', p, q, rfl, rfl, rfl, hd, hr⟩ := trodAll_cons h
    have h1 := WideElems.Trod_stays hl (ht t (by simp)).1 (ht t (by simp)).2 hd (fun x hx => hb.same (hlt x (by simp [hx]))) (fun x hx => hsp x (by simp [hx]))
    exact trodAll_cons_mk h1 (trodAll_below hl hb sp ts vs' ds' q (fun t' h' => ht t' (by simp [h'])) hr (fun x hx => hlt x (by simp [hx])) (fun x hx => hsp x (by simp [hx])))
/-- What a law's row asks behind the call. -/
theorem law_done {f : Func} {s : ChangeSpec} {tb : TypeId} {W W' : World} {args : Array Value} {ds gs : List (DataW H)} {before : List MemPlace} (hl : laidOutB P = true)
    (hts : ∀ t ∈ f.params.toList, P.readableRec t = true ∧ t < P.types.size) (hvars : s.vars = []) (hr : f.resultTypes = #[tb]) (htb : P.underlying tb = some .bool)
    (hfn : s.fn H (ds ++ gs) = { results := [.lit (.bool true)], args := ds }) (hW : DataW.Whole enc P f.params.toList s.vars false W args.toList ds gs before)
    (hb : Below W.heap.size W W') : s.post enc P f false true false false W args (.bool true) W' := by
  have hlt : ∀ x ∈ before, x.block < W.heap.size := fun x hx => hW.lt x hx
  have hW2 := hW
  obtain ⟨p, q, hA, hV, hpq, _, _⟩ := hW2
  rw [hvars] at hV
  obtain ⟨_, rfl⟩ := trodVars_none hV
  rw [List.append_nil] at hpq
  subst hpq
  have hargs := trodAll_below hl hb (fun b => decide (b < W.heap.size)) _ _ _ _ hts hA hlt (fun x hx => by simpa using hlt x hx)
  refine ⟨ds, gs, before, [], before, [], hW, ?_, ?_, ?_, World.keptBut_mono (fun x hx => ⟨hx, .inr (.inl hx)⟩) (hb.frame (· ∈ before)), fun h => by cases h⟩
  · rw [hfn, hr]
    exact trodAll_mk1 (shut_bool htb _)
  · rw [hfn]
    exact hargs
  · rw [hfn, hvars]
    exact rfl
end
theorem laidOut : laidOutB Tryd.prog = true := by kernel_rfl
theorem own : ownKnob Tryd.prog.godebug = none := by kernel_rfl
end Go.Proofs.YtiiabaklipmbbaaDoor
