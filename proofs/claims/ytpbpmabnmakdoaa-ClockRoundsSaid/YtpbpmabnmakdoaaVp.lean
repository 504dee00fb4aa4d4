/- The symbolic executor: a head in whatever order, carried through. -/
import Derived.Test.YtpbpmabnmakdoaaVo
namespace Go.Proofs.Ytpbpmabnmakdoaa.Vc
open Go Go.RowKit
variable {ρ ρ' : List AV} {β β' : Mp} {W W' : Nat → Prop} {w w' : World} {P : Program} {C : Cfg} {B : Nat} {w0 : World}
variable {Γ : FuncId → Con} {Qd : List AV → Prop} {ctx : List (List AV → Prop)}
def unl (l : Array Bool) : Nat → Nat
  | 0 => 0
  | n + 1 => unl l n + (if l.getD n true = true then 0 else 1)
theorem unl_zero {l : Array Bool} : ∀ {n : Nat}, unl l n = 0 → ∀ i, i < n → l.getD i true = true
  | 0, _, i, h => by omega
  | n + 1, h, i, hi => by
    simp only [unl] at h
    rcases Nat.lt_or_ge i n with h1 | h1
    · exact unl_zero (by omega) i h1
    · obtain rfl : i = n := by omega
      cases hc : l.getD i true with
      | true => rfl
      | false => rw [hc] at h; simp at h
theorem unl_set {l : Array Bool} {i : Nat} (hf : l.getD i true = false) : ∀ {n : Nat}, unl (l.setIfInBounds i true) n + (if i < n then 1 else 0) = unl l n
  | 0 => by simp [unl]
  | n + 1 => by
    have ih := unl_set hf (n := n)
    have hs : i < l.size := by
      rcases Nat.lt_or_ge i l.size with h | h
      · exact h
      · rw [Array.getD_eq_getD_getElem?, Array.getElem?_eq_none h] at hf; cases hf
    have e := set_getD l i n true
    simp only [unl]
    rw [e]
    by_cases hn : n = i
    · subst hn
      have h1 : (if n = n ∧ n < l.size then true else l.getD n true) = true := if_pos ⟨rfl, hs⟩
      rw [if_neg (Nat.lt_irrefl n)] at ih
      rw [h1, hf]
      simp
      omega
    · have h1 : (if n = i ∧ i < l.size then true else l.getD n true) = l.getD n true := if_neg (fun h => hn h.1)
      rw [h1]
      by_cases h2 : i < n
      · rw [if_pos h2] at ih; rw [if_pos (show i < n + 1 by omega)]; omega
      · rw [if_neg h2] at ih; rw [if_neg (show ¬ i < n + 1 by omega)]; omega
/-- between two operations of a head -/
structure HInv (C : Cfg) (B : Nat) (w0 : World) (ρ : List AV) (β0 : Mp) (T : Nat → S) (l : List Oper) (ds : List Deferred) (listed : Array Bool) (a : Act) (β : Mp) (W : Nat → Prop) (w : World) : Prop extends PMem C B w0 ρ β W (T l.length).H w where
  done : ∀ i, i < l.length → listed.getD i true = true → ∀ k, (T i).heap.length ≤ k → k < (T (i + 1)).heap.length → ∃ b, β k = some b
  undone : ∀ i, i < l.length → listed.getD i true = false → ∀ k, (T i).heap.length ≤ k → k < (T (i + 1)).heap.length → β k = none
  base : ∀ k, k < (T 0).heap.length → ∃ b, β k = some b
  top : ∀ k, (T l.length).heap.length ≤ k → β k = none
  sz : a.tmps.size = (T 0).tmps.length
  slots : ∀ (t : Nat) sl, (T l.length).tmps[t]? = some (some sl) → (∀ (i : Nat) o, l[i]? = some o → o.dst = some t → listed.getD i true = true) → sl.rel ρ β (a.tmps.getD t Go.undef)
  defers : a.defers = ds
  map : ∀ k b, k < (T 0).heap.length → β0 k = some b → ∃ b', β k = some b' ∧ b'.v = b.v
  lsz : listed.size = l.length
section
variable {ops : Array Oper} {l : List Oper} {T : Nat → S} {β0 : Mp} {ds : List Deferred} {a : Act} {listed : Array Bool}
theorem T_hlen (hst : ∀ i o, l[i]? = some o → HStep C ops Γ ρ (T i) o (T (i + 1))) {i j : Nat} (h : i ≤ j) (hj : j ≤ l.length) : (T i).heap.length ≤ (T j).heap.length := by
  obtain ⟨es, he⟩ := T_heap hst (i := i) (j - i) (by omega)
  rw [show i + (j - i) = j by omega] at he
  rw [he]; simp
theorem HInv.step (hC : C.Ok P) (hΓ : ConsOk P C Γ) (hst : ∀ i o, l[i]? = some o → HStep C ops Γ ρ (T i) o (T (i + 1))) (ok : HeadOk l) (h0 : (T 0).factsOk ρ) (inv : HInv C B w0 ρ β0 T l ds listed a β W w)
    {i : Nat} {o : Oper} (ho : l[i]? = some o) (hun : listed.getD i true = false) (hready : ∀ e ∈ o.after, Region.binds .any e = true → listed.getD e.on false = true) (early : ∀ e ∈ o.after, Region.binds .any e = true → e.on < i) (hops : ∀ j, j < l.length → ops[j]? = l[j]?)
    {K' : Act → World → Prop} {Q : Exit → Act → World → Prop} (hK : ∀ a' β' W' w', HInv C B w0 ρ β0 T l ds (listed.setIfInBounds i true) a' β' W' w' → K' a' w') :
    if Region.wanted o (yielded ops a.tmps) then o.wp P a w K' Q else K' (a.put o.dst Go.undef) w := by
  have hi : i < l.length := (List.getElem?_eq_some_iff.1 ho).1
  obtain ⟨st, hq, he, hnd, hcall⟩ := hst i o ho
  have hsl : ∀ t, (∀ (j : Nat) p, l[j]? = some p → p.dst = some t → j < i ∧ listed.getD j true = true) → ∀ sl, (T i).tmps[t]? = some (some sl) → sl.rel ρ β (a.tmps.getD t Go.undef) := fun t ht sl hsl => by
    refine inv.slots t sl ?_ fun j p hj hp => (ht j p hj hp).2
    have := T_slot hst (i := i) (t := t) (l.length - i) (by omega) (fun j h1 h2 p hj hp => by have := (ht j p hj hp).1; omega)
    rw [show i + (l.length - i) = l.length by omega] at this
    rw [this]; exact hsl
  have hrd : ∀ (j : Nat) p, l[j]? = some p → (∃ e ∈ o.after, Region.binds .any e = true ∧ e.on = j) → j < i ∧ listed.getD j true = true := fun j p hj ⟨e, h1, h2, h3⟩ => by
    have h4 := early e h1 h2
    have h5 := hready e h1 h2
    rw [h3] at h4 h5
    exact ⟨h4, by rw [getD_tf (by rw [inv.lsz]; omega)]; exact h5⟩
  refine head_step hC hΓ hq hnd inv.toPMem hcall (fun k e hk => ?_) (fun k h1 h2 => inv.undone i hi hun k h1 (by rw [he] at h2; exact h2)) (T_facts hst h0 i (by omega)) (fun x hx t ht sl hs => ?_) (fun j b t hg ht sl hs => ?_) fun sl β' W' w' u htm hrel hl => ?_
  · rw [he] at hk
    obtain ⟨es, hes⟩ := T_heap hst (i := i + 1) (l.length - (i + 1)) (by omega)
    rw [show i + 1 + (l.length - (i + 1)) = l.length by omega] at hes
    simp only [S.H]
    rw [hes, List.getElem?_append_left (List.getElem?_eq_some_iff.1 hk).1]; exact hk
  · subst ht
    exact hsl t (fun j p hj hp => hrd j p hj (ok.opd i o ho j p hj t hp hx)) sl hs
  · obtain ⟨hj, hje⟩ := ok.guard i o ho j b hg
    rw [hops j hj] at ht
    have hp0 : l[j]? = some l[j] := List.getElem?_eq_getElem hj
    rw [hp0] at ht
    have ht' : l[j].dst = some t := by simpa using ht
    refine ⟨hsl t (fun j' p hj' hp => ?_) sl hs, ?_⟩
    · obtain rfl := ok.once j' p hj' j l[j] hp0 t ht' hp
      exact hrd _ p hj' hje
    · rw [inv.sz, ← T_len hst i (by omega)]; exact (List.getElem?_eq_some_iff.1 hs).1
  · rw [he] at htm hl
    have hsi : i < listed.size := by rw [inv.lsz]; exact hi
    refine hK _ β' W' w' ⟨hl.toPMem, fun j hj hlj k h1 h2 => ?_, fun j hj hlj k h1 h2 => ?_, fun k hk => ?_, fun k hk => ?_, by rw [size_put]; exact inv.sz, fun t sl' ht hc => ?_, by rw [put_defers]; exact inv.defers, fun k b hk hb => ?_, by simpa using inv.lsz⟩
    · by_cases hji : j = i
      · subst hji; exact hl.new k h1 h2
      · rw [set_getD, if_neg (fun h => hji h.1)] at hlj
        obtain ⟨b, hb⟩ := inv.done j hj hlj k h1 h2
        obtain ⟨b', hb', _⟩ := hl.ext k b hb
        exact ⟨b', hb'⟩
    · have hji : j ≠ i := fun h => by rw [set_getD, if_pos ⟨h, hsi⟩] at hlj; cases hlj
      rw [set_getD, if_neg (fun h => hji h.1)] at hlj
      rw [hl.same k ?_]
      · exact inv.undone j hj hlj k h1 h2
      · rcases Nat.lt_or_ge j i with h | h
        · have := T_hlen hst (i := j + 1) (j := i) (by omega) (by omega); omega
        · have := T_hlen hst (i := i + 1) (j := j) (by omega) (by omega); omega
    · obtain ⟨b, hb⟩ := inv.base k hk
      obtain ⟨b', hb', _⟩ := hl.ext k b hb
      exact ⟨b', hb'⟩
    · rw [hl.same k ?_]
      · exact inv.top k hk
      · have := T_hlen hst (i := i + 1) (j := l.length) (by omega) (by omega); omega
    · rw [getD_put]
      have hlt : t < (T 0).tmps.length := by rw [← T_len hst l.length (Nat.le_refl _)]; exact (List.getElem?_eq_some_iff.1 ht).1
      by_cases hd : o.dst = some t
      · have e1 := T_slot hst (i := i + 1) (t := t) (l.length - (i + 1)) (by omega) (fun j h1 h2 p hj hp => by have := ok.once i o ho j p hj t hp hd; omega)
        rw [show i + 1 + (l.length - (i + 1)) = l.length by omega] at e1
        rw [e1, htm, put_tmps, if_pos ⟨hd, by rw [T_len hst i (by omega)]; exact hlt⟩] at ht
        obtain rfl := Option.some.inj (Option.some.inj ht)
        rw [if_pos ⟨hd, by rw [inv.sz]; exact hlt⟩]
        exact hrel
      · rw [if_neg (fun h => hd h.1)]
        refine Slot.rel_ext hl.ext (inv.slots t sl' ht fun j p hj hp => ?_)
        have := hc j p hj hp
        rw [set_getD] at this
        by_cases hji : j = i
        · subst hji
          rw [ho] at hj
          obtain rfl := Option.some.inj hj
          exact absurd hp hd
        · rw [if_neg (fun h => hji h.1)] at this; exact this
    · obtain ⟨b1, h1, h2⟩ := inv.map k b hk hb
      obtain ⟨b2, h3, h4⟩ := hl.ext k b1 h1
      exact ⟨b2, h3, h4.trans h2⟩
theorem all_listed {pre tail : List Oper} (ok : TailOk pre tail) {listed : Array Bool} (hs : listed.size = pre.length) (h0 : Region.ready .any pre.toArray listed = []) : ∀ i, i < pre.length → listed.getD i true = true := by
  intro i
  induction i using Nat.strongRecOn with
  | _ i ih =>
    intro hi
    cases hc : listed.getD i true
    · exfalso
      have : i ∈ Region.ready .any pre.toArray listed := by
        refine mem_rd.2 ⟨by simpa using hi, hc, pre[i], by simp [hi], fun e he hb => ?_⟩
        have he2 := ok.early i pre[i] (by simp [hi]) e he hb
        have := ih e.on he2 (by omega)
        rw [← getD_tf (by omega)]
        exact this
      rw [h0] at this; cases this
    · rfl
theorem head_any {pre tail : List Oper} {T : Nat → S} (hC : C.Ok P) (hΓ : ConsOk P C Γ) (hst : ∀ i o, pre[i]? = some o → HStep C (pre ++ tail).toArray Γ ρ (T i) o (T (i + 1))) (ok : HeadOk pre) (tok : TailOk pre tail) (h0 : (T 0).factsOk ρ) {R : Act → World → Prop} {Q : Exit → Act → World → Prop}
    (hR : ∀ listed a β W w, HInv C B w0 ρ β0 T pre ds listed a β W w → (∀ i, i < pre.length → listed.getD i true = true) → R a w) : ∀ (f : Nat) (listed : Array Bool) (a : Act) (β : Mp) (W : Nat → Prop) (w : World), HInv C B w0 ρ β0 T pre ds listed a β W w → unl listed pre.length ≤ f → wpAny P .any pre.toArray (HeadPost R Q) f listed a w
  | 0, listed, a, β, W, w, inv, hf => by
    have hall := unl_zero (Nat.le_zero.1 hf)
    refine ⟨?_, hR listed a β W w inv hall⟩
    apply List.eq_nil_iff_forall_not_mem.2
    intro i hi
    obtain ⟨h1, h2, _⟩ := mem_rd.1 hi
    rw [hall i (by simpa using h1)] at h2; cases h2
  | f + 1, listed, a, β, W, w, inv, hf => by
    refine ⟨fun hn => hR listed a β W w inv (all_listed tok inv.lsz hn), fun i hi => ?_⟩
    obtain ⟨h1, h2, o, ho, h3⟩ := mem_rd.1 hi
    have hi' : i < pre.length := by simpa using h1
    have ho' : pre[i]? = some o := by simpa using ho
    have hwant : Region.wanted o (yielded pre.toArray a.tmps) = Region.wanted o (yielded (pre ++ tail).toArray a.tmps) := by
      unfold Region.wanted
      cases hg : o.guard with
      | none => rfl
      | some p =>
        obtain ⟨j, b⟩ := p
        have hj := tok.guard i o ho' j b hg
        simp only [yielded, List.getElem?_toArray]
        rw [List.getElem?_append_left (show j < pre.length by omega)]
    have step := inv.step (K' := wpAny P .any pre.toArray (HeadPost R Q) f (listed.setIfInBounds i true)) (Q := HeadPost R Q) hC hΓ hst ok h0 ho' h2 h3 (fun e he hb => tok.early i o ho' e he hb) (fun j hj => by rw [List.getElem?_toArray, List.getElem?_append_left hj]) (fun a' β' W' w' inv' => by
      refine head_any hC hΓ hst ok tok h0 hR f _ a' β' W' w' inv' ?_
      have := unl_set (l := listed) h2 (n := pre.length)
      rw [if_pos hi'] at this
      omega)
    unfold wpOp
    rw [ho]
    simp only
    rw [hwant]
    split
    · rename_i hw; rw [if_pos hw] at step; exact .inl step
    · rename_i hw; rw [if_neg hw] at step; exact step
end
theorem T_find (T : Nat → S) (k : Nat) : ∀ d, k < (T d).heap.length → k < (T 0).heap.length ∨ ∃ i, i < d ∧ (T i).heap.length ≤ k ∧ k < (T (i + 1)).heap.length
  | 0, h => .inl h
  | d + 1, h => by
    rcases Nat.lt_or_ge k (T d).heap.length with h1 | h1
    · rcases T_find T k d h1 with h2 | ⟨i, a, b⟩
      · exact .inl h2
      · exact .inr ⟨i, by omega, b⟩
    · exact .inr ⟨d, by omega, h1, h⟩
theorem unl_le (l : Array Bool) : ∀ n, unl l n ≤ n
  | 0 => Nat.le_refl _
  | n + 1 => by have := unl_le l n; simp only [unl]; split <;> omega
/-- **the head of a region whose order is open** -/
theorem region_head (hC : C.Ok P) (hΓ : ConsOk P C Γ) {pre tail : List Oper} {s : S} {a : Act} {K : S → Tree} {R : Act → World → Prop} {Q : Exit → Act → World → Prop} (hlv : ctx.length = s.lvl) (m : Mem C B w0 ρ β W s w) (fr : Fr ρ β s a) (ok : HeadOk pre) (tok : TailOk pre tail) (hsc : (s.more []).isSome = true)
    (hden : (execHead C (pre ++ tail).toArray pre s K).den Γ Qd ρ ctx) (hR : Onw C B w0 Γ Qd ctx ρ β s a.defers K R) : wpAny P .any pre.toArray (HeadPost R Q) pre.length (Array.replicate pre.length false) a { w with drawn := w.drawn + 1 } := by
  obtain ⟨δ, T, h0, hkt, hst, hd⟩ := head_den pre s ρ K m.kt hden
  obtain ⟨s', hs'⟩ := Option.isSome_iff_exists.1 hsc
  obtain ⟨_, sc⟩ := S.more_eq hs'
  have hok : (idR s.ks.length s.heap.length).Ok ρ β (ρ ++ δ) β := idR_ok (by rw [m.kt.1]; exact Nat.le_refl _) fun _ _ => rfl
  have hf0 : (T 0).factsOk (ρ ++ δ) := fun x hx => by
    rw [h0] at hx
    have := X.sub_den hok.x (sc.facts x hx)
    show (x.den _).bool = true
    rw [this]; exact m.facts x hx
  have hb : Below w.heap.size w { w with drawn := w.drawn + 1 } := (Below.refl _ _).drew
  have mp := m.toPMem.later hb
  obtain ⟨es, hes⟩ := T_heap hst (i := 0) pre.length (by omega)
  rw [Nat.zero_add, h0] at hes
  refine head_any (C := C) (B := B) (w0 := w0) (β0 := β) (ds := a.defers) hC hΓ hst ok tok hf0 (fun listed a' β' W' w' inv hall => ?_) pre.length _ a β W _ ?_ (unl_le _ _)
  · obtain ⟨ks, hks⟩ := T_ks hst pre.length (Nat.le_refl _)
    refine hR (ρ ++ δ) β' W' (T pre.length) a' w' ctx ⟨[], by simp⟩ (by rw [T_lvl hst _ (Nat.le_refl _), h0]; exact hlv) ⟨inv.toPMem, fun k hk => ?_, inv.top, T_facts hst hf0 _ (Nat.le_refl _), hkt⟩ ⟨by rw [inv.sz, T_len hst _ (Nat.le_refl _)], fun t sl ht => inv.slots t sl ht fun i o hi _ => hall i (List.getElem?_eq_some_iff.1 hi).1⟩ ⟨⟨δ, rfl⟩, ⟨ks, by rw [hks, h0]⟩, by rw [hes]; simp, fun k b hk hb => inv.map k b (by rw [h0]; exact hk) hb⟩ inv.defers hd
    rcases T_find T k pre.length hk with h1 | ⟨i, h1, h2, h3⟩
    · exact inv.base k h1
    · exact inv.done i h1 (hall i h1) k h2 h3
  · refine ⟨⟨mp.below, mp.size, mp.wlo, fun k e b hk hb' => ?_, mp.dist, mp.own, mp.glob⟩, fun i hi hl k h1 h2 => ?_, fun i hi hl k h1 h2 => ?_, fun k hk => ?_, fun k hk => ?_, by rw [h0]; exact fr.1, fun t sl ht hc => ?_, rfl, fun k b _ hb' => ⟨b, hb', rfl⟩, by simp⟩
    · have hk0 : k < s.heap.length := by
        rcases Nat.lt_or_ge k s.heap.length with h | h
        · exact h
        · rw [m.top k h] at hb'; cases hb'
      have hk1 : s.heap[k]? = some e := by
        simp only [S.H] at hk
        rw [hes, List.getElem?_append_left hk0] at hk; exact hk
      exact (HE.sub_ok hok (sc.heap k e hk1) b).2 (mp.heap k e b hk1 hb')
    · rw [Array.getD_eq_getD_getElem?, Array.getElem?_replicate, if_pos hi] at hl
      cases hl
    · refine m.top k ?_
      have := T_hlen hst (i := 0) (j := i) (by omega) (by omega)
      rw [h0] at this
      omega
    · rw [h0] at hk; exact m.all k hk
    · refine m.top k ?_
      have := T_hlen hst (i := 0) (j := pre.length) (by omega) (by omega)
      rw [h0] at this
      omega
    · have hnd : ∀ (i : Nat) o, pre[i]? = some o → o.dst ≠ some t := fun i o hi hdt => by
        have := hc i o hi hdt
        rw [Array.getD_eq_getD_getElem?, Array.getElem?_replicate, if_pos (List.getElem?_eq_some_iff.1 hi).1] at this
        cases this
      have e1 := T_slot hst (i := 0) (t := t) pre.length (by omega) (fun j _ _ o ho => hnd j o ho)
      rw [Nat.zero_add] at e1
      rw [e1, h0] at ht
      exact (Slot.sub_rel hok (sc.tmps t sl ht) _).2 (fr.2 t sl ht)
end Go.Proofs.Ytpbpmabnmakdoaa.Vc
