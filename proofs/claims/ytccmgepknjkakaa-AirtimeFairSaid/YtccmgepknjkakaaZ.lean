/- The reach of the rows of a law's list of lists. -/
import Derived.Test.YtccmgepknjkakaaVE
import Derived.SizedLaws
import Derived.ChangeArms
namespace Go.Proofs.Ytccmgepknjkakaa
open Go Go.RowKit Go.Proofs.Ytccmgepknjkakaa.Vc
theorem rdA_last {w : World} {ks : List FK} {v : Value} : ∀ {hs : List Sh} {vs : List Value} {avs : List AV}, RdA w (hs ++ [⟨false, [.mat ks]⟩]) (vs ++ [v]) avs → ∃ a g f n, avs = a ++ [.m g f, .i n] ∧ RdSc w (.mat ks) v [.m g f, .i n]
  | [], [], avs, h => by
    obtain ⟨a, b, rfl, h1, h2⟩ := h
    obtain rfl : b = [] := h2
    unfold RdV at h1
    simp only [Bool.false_eq_true, if_false] at h1
    obtain ⟨a1, b1, rfl, h3, h4⟩ := h1
    obtain rfl : b1 = [] := h4
    have h5 := h3
    obtain ⟨q, n, c, g, f, rows, caps, _, _, _, _, rfl, _⟩ := h5
    exact ⟨[], g, f, n, rfl, h3⟩
  | _ :: hs, _ :: vs, avs, h => by
    obtain ⟨a, b, rfl, _, h2⟩ := h
    obtain ⟨a', g, f, n, rfl, h3⟩ := rdA_last h2
    exact ⟨a ++ a', g, f, n, by simp, h3⟩
  | [], [_], avs, h => by
    obtain ⟨a, b, rfl, _, h2⟩ := h
    exact h2.elim
  | [], _ :: _ :: _, avs, h => by
    obtain ⟨a, b, rfl, _, h2⟩ := h
    exact h2.elim
  | _ :: [], [], avs, h => by
    obtain ⟨a, b, rfl, _, h2⟩ := h
    exact h2.elim
  | _ :: _ :: _, [], avs, h => by
    obtain ⟨a, b, rfl, _, h2⟩ := h
    exact h2.elim
theorem weights_all_mem {H : Type} {P : Program} {e : TypeId} : ∀ {es : List (DataW H)} {d : DataW H}, d ∈ es → ∀ x ∈ d.weights P e, x ∈ DataW.weightsAll P e es
  | d0 :: es, d, hd, x, hx => by
    simp only [DataW.weightsAll, List.mem_append]
    rcases List.mem_cons.1 hd with rfl | hd
    · exact .inl hx
    · exact .inr (weights_all_mem hd x hx)
theorem mat_reach {H : Type} {enc : TypeId × Value → H} {P : Program} {w : World} {spare : Nat → Bool} {held : Bool} {t e i : TypeId} (hu : P.underlying t = some (.slice e)) (hu2 : P.underlying e = some (.slice i)) (hb : P.bytesOf i = 8) (hc : P.cellsOf e = 1)
    {v : Value} {d : DataW H} {ps : List MemPlace} (hd : DataW.Trod enc P w 0 spare held t v d ps) {ks : List FK} {g : Int → Int} {f : Int → Int → Nat → Int} {n : Int} (hr : RdSc w (.mat ks) v [.m g f, .i n]) (hz : ∀ x ∈ d.weights P t, x ≤ reachBytes) :
    ∀ j : Int, 0 ≤ j → j < n → g j ≤ 140737488351232 := by
  intro j j0 j1
  obtain ⟨q, n', c, g', f', rows, caps, rfl, _, _, _, hl, hrow⟩ := hr
  cases hl
  obtain ⟨fuel, hx⟩ := hd
  have hx' : DataW.trod enc P w 0 spare held fuel t [.slice q n' c] = some (d, ps) := hx
  obtain ⟨p, rfl, _, g0, _, _, _, hcell, _⟩ := hrow j j0 j1
  rcases DataW.trod_slice hu hx' with ⟨h1, _⟩ | ⟨a, len, cap, elems, rest, m, _, h1, hx2, _, hlc, hcm, hel, hall, _⟩
  · cases h1
  · cases h1
    have h1 := hall j.toNat (by omega)
    rw [List.getElem?_eq_getElem (by omega), Option.bind_eq_some_iff] at h1
    obtain ⟨cs', h2, h3⟩ := h1
    obtain ⟨_, h5, h6⟩ := World.cells?_some h2
    have h7 := h6 0 (by rw [hc]; omega)
    rw [hc, Nat.mul_one, add_add, Nat.add_zero, hcell] at h7
    have h8 : cs'.length = 1 := by rw [h5, hc]
    match cs', h8, h7, h3 with
    | [u], _, h7, h3 =>
      simp at h7
      subst h7
      rcases DataW.trod_slice hu2 h3 with ⟨h9, _⟩ | ⟨a2, len2, cap2, elems2, rest2, m2, _, h9, hx3, _, _, _, hel2, _, _⟩
      · simp at h9
        have := h9.2.1
        omega
      · simp at h9
        have hmem : (elems2.length + rest2.length) * P.bytesOf i ∈ d.weights P t := by
          have e1 : d = .slice (elems.map (·.1)) (rest.map (·.1)) := congrArg Prod.fst hx2
          rw [e1]
          simp only [DataW.weights, hu, List.mem_cons, List.mem_append]
          right; left
          refine weights_all_mem (d := (elems[j.toNat]'(by omega)).1) (List.mem_map_of_mem (List.getElem_mem _)) _ ?_
          rw [hx3]
          simp only [DataW.weights, hu2, List.mem_cons, List.length_map]
          exact .inl trivial
        have := hz _ hmem
        rw [hb] at this
        unfold reachBytes at this
        have := h9.2.1
        omega
theorem law_callsQ {P : Program} {sig : CSig} {f : FuncId} {pre : List AV → Prop} {raw : List AV → List AV} (hm : Meets P (mkCon sig pre raw) f sig) (ho : sig.outs = [⟨false, [.bool]⟩]) {Q : List AV → Prop}
    (hp : allAV (insKs sig.ins) fun l => RngL (sig.ins.flatMap (·.l)) l → Q l → pre l ∧ raw l = [.b true]) {args : Array Value} {avs : List AV} {w : World} (hrd : RdA w sig.ins args.toList avs) (hrg : RngL (sig.ins.flatMap (·.l)) avs) (hq : Q avs) :
    Calls P f args w fun e w' => e = .returned (.bool true) ∧ Below w.heap.size w w' := by
  have hk := rng_KT hrg
  rw [← ks_flat] at hk
  obtain ⟨h1, h2⟩ := allAV_elim hp avs hk hrg hq
  have h := hm args.toList avs w trivial hrd h1
  rw [Array.toArray_toList] at h
  refine h.mono fun e w' he => ?_
  obtain ⟨v, rfl, hb, us, os, rfl, hg, _⟩ := he
  refine ⟨?_, hb⟩
  have e1 : (mkCon sig pre raw).out avs = [.b true] := by
    show fixL (insKs sig.outs) (raw avs) = _
    rw [h2, ho]; rfl
  rw [e1, ho] at hg
  match us, hg with
  | [u], hg =>
    obtain ⟨a, b, o1, o2, hab, _, h3, h4⟩ := hg
    obtain ⟨rfl, _⟩ := h4
    unfold GvV at h3
    simp only [Bool.false_eq_true, if_false] at h3
    obtain ⟨_, _, h5⟩ := h3
    obtain ⟨a1, b1, _, _, rfl, _, ⟨p, rfl, rfl, _⟩, h6⟩ := h5
    obtain ⟨rfl, _⟩ := h6
    simp at hab
    subst hab
    rfl
  | [], hg => exact hg.elim
  | _ :: _ :: _, hg =>
    obtain ⟨_, _, _, _, _, _, _, h4⟩ := hg
    exact h4.elim
end Go.Proofs.Ytccmgepknjkakaa
