/- The symbolic executor: one step of a head, in whatever order it comes. -/
import Derived.Test.YtiiabaklipmbbaaVm
namespace Go.Proofs.Ytiiabaklipmbbaa.Vc
noncomputable section
open Go Go.RowKit
variable {ρ ρ' : List AV} {β β' : Mp} {W W' : Nat → Prop} {w w' : World} {P : Program} {C : Cfg} {B : Nat} {w0 : World}
variable {Γ : FuncId → Con} {Qd : List AV → Prop} {ctx : List (List AV → Prop)}

theorem put_tmps_eq (s s' : S) (d : Option Nat) (sl : Slot) (h : s'.tmps = s.tmps) : (s'.put d sl).tmps = (s.put d sl).tmps := by
  cases d <;> simp [S.put, h]
theorem put_facts (s : S) (d : Option Nat) (sl : Slot) : (s.put d sl).facts = s.facts := by cases d <;> rfl
structure Shape (s : S) (o : Oper) (st : St) (es : List HE) (vks : List VK) (sl : Slot) : Prop where
  heap : st.s.heap = s.heap ++ es
  ks : st.s.ks = s.ks ++ vks
  tmps : st.s.tmps = (s.put o.dst sl).tmps
  facts : ∀ x ∈ st.s.facts, x ∈ s.facts ∨ x ∈ st.needs
  lvl : st.s.lvl = s.lvl
  call : ∀ g f aks ks' xs, st.call = some (g, f, aks, ks', xs) → ks' = vks
  nocall : st.call = none → vks = []
theorem qstep_shape {s : S} {ops : Array Oper} {o : Oper} {st : St} (h : qstep C s ops o = some st) : ∃ es ks sl, Shape s o st es ks sl := by
  unfold qstep at h
  split at h
  · cases h
  · rename_i g hg
    split at h
    · obtain rfl := Option.some.inj h
      exact ⟨[], [], _, by simp [put_heap], by simp [put_ks], rfl, fun x hx => .inl (by rwa [put_facts] at hx), put_lvl _ _ _, fun _ _ _ _ _ h => (by cases h), fun _ => rfl⟩
    · generalize (if s.holds (.bl true) g then X.bl true else g) = g1 at h
      simp only at h
      split at h
      · rename_i r hr
        obtain rfl := Option.some.inj h
        cases hadd : r.add with
        | none =>
          refine ⟨[], [], ⟨g1, r.v⟩, by simp [put_heap, addE, S.with], by simp [put_ks, addE, S.with], ?_, fun x hx => ?_, by rw [put_lvl]; rfl, fun _ _ _ _ _ h => (by cases h), fun _ => rfl⟩
          · exact put_tmps_eq _ _ _ _ rfl
          · rw [put_facts] at hx
            simp only [addE, S.with, forceL_eq, List.mem_append] at hx
            exact hx.symm
        | some e =>
          refine ⟨[guarded g1 e], [], ⟨g1, r.v⟩, by simp [put_heap, addE, S.with, S.add], by simp [put_ks, addE, S.with, S.add], ?_, fun x hx => ?_, by rw [put_lvl]; rfl, fun _ _ _ _ _ h => (by cases h), fun _ => rfl⟩
          · exact put_tmps_eq _ _ _ _ rfl
          · rw [put_facts] at hx
            simp only [addE, S.with, forceL_eq, S.add, List.mem_append] at hx
            exact hx.symm
      · unfold callStep at h
        split at h
        · split at h
          · split at h
            · split at h
              · simp only at h
                split at h
                · rename_i s' g' hmore hg'
                  obtain rfl := Option.some.inj h
                  obtain ⟨rfl, _⟩ := S.more_eq hmore
                  refine ⟨_, _, _, by simp only [put_heap]; rfl, by simp only [put_ks]; rfl, put_tmps_eq _ _ _ _ rfl, fun x hx => ?_, by rw [put_lvl]; rfl, fun _ _ _ _ _ h => (by cases h; rfl), fun h => (by cases h)⟩
                  rw [put_facts] at hx
                  simp only [S.with, forceL_eq, List.mem_append] at hx
                  exact hx.symm
                · cases h
              · cases h
            · cases h
          · cases h
        · cases h
/-- entries k .. of a list -/
def mid (β : Mp) (k : Nat) (bs : List BI) : Mp := fun j => if k ≤ j ∧ j < k + bs.length then bs[j - k]? else β j
theorem mid_maps (β : Mp) (k : Nat) (bs : List BI) : Maps (mid β k bs) k bs := fun j b hb => by
  have hlt := (List.getElem?_eq_some_iff.1 hb).1
  simp only [mid]; rw [if_pos (by omega), ← hb]; congr 1; omega
theorem mid_ext {k : Nat} (bs : List BI) (h : ∀ j, k ≤ j → j < k + bs.length → β j = none) : Ext β (mid β k bs) := fun j b hb => by
  refine ⟨b, ?_, rfl⟩
  simp only [mid]
  rw [if_neg (fun hc => by rw [h j hc.1 hc.2] at hb; cases hb)]
  exact hb
theorem PMem.mid {H : Nat → Option HE} (m : PMem C B w0 ρ β W H w) {k : Nat} {bs : List BI} {os : List Nat} (hk : ∀ j, k ≤ j → j < k + bs.length → β j = none) (hb : Below w.heap.size w w') (hn : News w' w.heap.size bs os) (hd : os.Nodup)
    (he : ∀ (j : Nat) e b, H (k + j) = some e → bs[j]? = some b → EOk ρ (mid β k bs) (fun r => W r ∨ r ∈ os) w' b e) : PMem C B w0 ρ (Go.Proofs.Ytiiabaklipmbbaa.Vc.mid β k bs) (fun r => W r ∨ r ∈ os) H w' := by
  have hx := mid_ext (β := β) bs hk
  refine ⟨m.below.trans (hb.mono m.size), Nat.le_trans m.size hb.size, fun r hr => ?_, fun j e b hj hb' => ?_, fun j j' b1 b2 r h1 h2 o1 o2 => ?_, fun j b r h1 o1 => ?_, fun g j hg => ?_⟩
  · rcases hr with hr | hr
    · have := m.wlo r hr; have := hb.size; omega
    · have := hn.lo r hr; have := m.size; omega
  · by_cases h : k ≤ j ∧ j < k + bs.length
    · simp only [Go.Proofs.Ytiiabaklipmbbaa.Vc.mid, if_pos h] at hb'
      exact he (j - k) e b (by rw [show k + (j - k) = j by omega]; exact hj) hb'
    · simp only [Go.Proofs.Ytiiabaklipmbbaa.Vc.mid, if_neg h] at hb'
      exact (m.heap j e b hj hb').below hb (fun r hr => by rcases hr with hr | hr; exact .inl hr; exact .inr (hn.lo r hr).1) hx
  · by_cases e1 : k ≤ j ∧ j < k + bs.length
    · simp only [Go.Proofs.Ytiiabaklipmbbaa.Vc.mid, if_pos e1] at h1
      by_cases e2 : k ≤ j' ∧ j' < k + bs.length
      · simp only [Go.Proofs.Ytiiabaklipmbbaa.Vc.mid, if_pos e2] at h2
        have := hn.dist hd _ _ _ _ _ h1 h2 o1 o2
        omega
      · simp only [Go.Proofs.Ytiiabaklipmbbaa.Vc.mid, if_neg e2] at h2
        have := m.wlo r (m.own j' b2 r h2 o2)
        have := (hn.lo r (hn.own _ _ _ h1 o1)).1
        omega
    · simp only [Go.Proofs.Ytiiabaklipmbbaa.Vc.mid, if_neg e1] at h1
      by_cases e2 : k ≤ j' ∧ j' < k + bs.length
      · simp only [Go.Proofs.Ytiiabaklipmbbaa.Vc.mid, if_pos e2] at h2
        have := m.wlo r (m.own j b1 r h1 o1)
        have := (hn.lo r (hn.own _ _ _ h2 o2)).1
        omega
      · simp only [Go.Proofs.Ytiiabaklipmbbaa.Vc.mid, if_neg e2] at h2
        exact m.dist j j' b1 b2 r h1 h2 o1 o2
  · by_cases e1 : k ≤ j ∧ j < k + bs.length
    · simp only [Go.Proofs.Ytiiabaklipmbbaa.Vc.mid, if_pos e1] at h1
      exact .inr (hn.own _ _ _ h1 o1)
    · simp only [Go.Proofs.Ytiiabaklipmbbaa.Vc.mid, if_neg e1] at h1
      exact .inl (m.own j b r h1 o1)
  · obtain ⟨b1, h1, h2⟩ := m.glob g j hg
    obtain ⟨b2, h3, h4⟩ := hx j b1 h1
    exact ⟨b2, h3, by rw [h4]; exact h2⟩
theorem mid_other {k j : Nat} {bs : List BI} (h : j < k ∨ k + bs.length ≤ j) : mid β k bs j = β j := by
  simp only [mid]; rw [if_neg (by omega)]
theorem mid_in {k j : Nat} {bs : List BI} (h : k ≤ j) (h' : j < k + bs.length) : ∃ b, mid β k bs j = some b := by
  simp only [mid]; rw [if_pos ⟨h, h'⟩]; exact ⟨_, List.getElem?_eq_getElem (by omega)⟩
/-- what a step leaves, as far as a partial memory tells -/
structure Left (C : Cfg) (B : Nat) (w0 : World) (ρ : List AV) (β β' : Mp) (W' : Nat → Prop) (H : Nat → Option HE) (w' : World) (n n' : Nat) : Prop extends PMem C B w0 ρ β' W' H w' where
  ext : Ext β β'
  same : ∀ k, (k < n ∨ n' ≤ k) → β' k = β k
  new : ∀ k, n ≤ k → k < n' → ∃ b, β' k = some b
section
variable {s : S} {a : Act} {ops : Array Oper} {o : Oper} {K' : Act → World → Prop} {Q : Exit → Act → World → Prop} {st : St} {H : Nat → Option HE}
theorem Left.refl (m : PMem C B w0 ρ β W H w) (n : Nat) : Left C B w0 ρ β β W H w n n := ⟨m, Ext.refl _, fun _ _ => rfl, fun k h h' => by omega⟩
theorem head_qop (hC : C.Ok P) {g : X} {r : R} (hq : qop C s g o = some r) (hnd : ∀ x ∈ (r.needs.filter fun x => !s.holds g x).map (imp g), x.B ρ = true) (m : PMem C B w0 ρ β W H w)
    (hh : ∀ k e b, s.heap[k]? = some e → β k = some b → EOk ρ β W w b e) (hadd : ∀ e, r.add = some e → H s.heap.length = some (guarded g e) ∧ β s.heap.length = none) (hf : s.factsOk ρ)
    (hop : ∀ x ∈ o.op.operands.toList, OpdOk ρ β s a x) (hw : Region.wanted o (yielded ops a.tmps) = g.B ρ)
    (hK : ∀ β' W' w' u, (Slot.mk g r.v).rel ρ β' u → Left C B w0 ρ β β' W' H w' s.heap.length (s.heap.length + r.add.toList.length) → K' (a.put o.dst u) w') :
    if Region.wanted o (yielded ops a.tmps) then o.wp P a w K' Q else K' (a.put o.dst Go.undef) w := by
  rw [hw]
  cases hg : g.B ρ
  · simp only [Bool.false_eq_true, if_false]
    cases ha : r.add with
    | none =>
      rw [ha] at hK
      exact hK β W w Go.undef ⟨fun h => (by rw [hg] at h; cases h), fun _ => rfl⟩ (Left.refl m _)
    | some e =>
      obtain ⟨h1, hn⟩ := hadd e ha
      let b : BI := ⟨⟨none, 0, 0, fun _ => none, fun _ => 0⟩, none⟩
      have hp : PMem C B w0 ρ (upd β s.heap.length b) W H w := m.addNone hn rfl (fun e' he' => by
        rw [h1] at he'
        obtain rfl := Option.some.inj he'
        intro hgt
        simp only [guarded] at hgt
        rw [hg] at hgt; cases hgt)
      rw [ha] at hK
      refine hK _ W w Go.undef ⟨fun h => (by rw [hg] at h; cases h), fun _ => rfl⟩ ⟨hp, ext_upd b hn, fun k hk => upd_other _ _ (by simp at hk; omega), fun k h h' => ?_⟩
      simp at h'
      exact ⟨b, by rw [show k = s.heap.length by omega, upd_same]⟩
  · simp only [if_true]
    obtain ⟨u, w', β', W', hrun, hrel, hpost⟩ := qop_sound (W := W) (w := w) (a := a) hC hf hg m.glob hop (fun h => by
      cases ha : r.add with
      | none => rw [ha] at h; cases h
      | some e => exact (hadd e ha).2) hq (needs_guard hf hg hnd) hh
    unfold Oper.wp
    rw [hrun, Oper.upon_value]
    have hsl : (Slot.mk g r.v).rel ρ β' u := ⟨fun _ => hrel, fun h => (by rw [hg] at h; cases h)⟩
    cases ha : r.add with
    | none =>
      rw [ha] at hpost hK
      obtain ⟨rfl, rfl, rfl⟩ := hpost
      exact hK β' W' w' u hsl (Left.refl m _)
    | some e =>
      rw [ha] at hpost hK
      obtain ⟨b, hb, hsz, ho, rfl, rfl, he⟩ := hpost
      obtain ⟨h1, hn⟩ := hadd e ha
      have hp : PMem C B w0 ρ (upd β s.heap.length b) (fun r => W r ∨ r = w.heap.size) H w' := m.add hn hb hsz ho (fun e' he' => by
        rw [h1] at he'
        obtain rfl := Option.some.inj he'
        exact he g)
      refine hK _ _ w' u hsl ⟨hp, ext_upd b hn, fun k hk => upd_other _ _ (by simp at hk; omega), fun k h h' => ?_⟩
      simp at h'
      exact ⟨b, by rw [show k = s.heap.length by omega, upd_same]⟩
theorem head_call (hC : C.Ok P) (hΓ : ConsOk P C Γ B w0) {g : X} (hq : callStep C s g o = some st) (hnd : ∀ x ∈ st.needs, x.B ρ = true) (m : PMem C B w0 ρ β W H w)
    (hcall : ∀ g f aks ks xs, st.call = some (g, f, aks, ks, xs) → (g.B ρ = true → (Γ f).pre (fixL aks (xs.map (X.den ρ)))) ∧ Piece ρ s.ks.length (fixL ks ((Γ f).out (fixL aks (xs.map (X.den ρ))))))
    (hh : ∀ k e b, s.heap[k]? = some e → β k = some b → EOk ρ β W w b e) (hnew : ∀ (k : Nat) e, s.heap.length ≤ k → st.s.heap[k]? = some e → H k = some e) (hnone : ∀ k, s.heap.length ≤ k → k < st.s.heap.length → β k = none) (hf : s.factsOk ρ)
    (hop : ∀ x ∈ o.op.operands.toList, OpdOk ρ β s a x) (hw : Region.wanted o (yielded ops a.tmps) = g.B ρ)
    (hK : ∀ sl β' W' w' u, st.s.tmps = (s.put o.dst sl).tmps → sl.rel ρ β' u → Left C B w0 ρ β β' W' H w' s.heap.length st.s.heap.length → K' (a.put o.dst u) w') :
    if Region.wanted o (yielded ops a.tmps) then o.wp P a w K' Q else K' (a.put o.dst Go.undef) w := by
  unfold callStep at hq
  split at hq
  · rename_i f args ts ho
    rw [ho] at hop
    simp only [Op.operands] at hop
    split at hq
    · rename_i fid first caps vs hv hvs
      split at hq
      · rename_i sig hsig
        split at hq
        · rename_i nd0 xs hxs
          simp only at hq
          split at hq
          · rename_i s' g' hmore hg'
            obtain rfl := Option.some.inj hq
            obtain ⟨rfl, _⟩ := S.more_eq hmore
            obtain ⟨hpre, hpc⟩ := hcall _ _ _ _ _ rfl
            obtain rfl := X.sub_id hg'
            have hshape : ∀ j e, (outsL s.ks.length s.heap.length sig.outs).2.1[j]? = some e → H (s.heap.length + j) = some (guarded g' e) := fun j e he => by
              refine hnew _ _ (by omega) ?_
              simp only [put_heap]
              simp [S.with, List.getElem?_append_right, he]
            have hK1 : ∀ (bs : List BI) W' w' u, (outsL s.ks.length s.heap.length sig.outs).2.1.length = bs.length → (Slot.mk g' (retV (outsL s.ks.length s.heap.length sig.outs).1)).rel ρ (mid β s.heap.length bs) u → PMem C B w0 ρ (mid β s.heap.length bs) W' H w' → K' (a.put o.dst u) w' := by
              intro bs W' w' u hl hu hp
              refine hK _ _ W' w' u (put_tmps_eq _ _ _ _ rfl) hu ⟨hp, mid_ext _ fun j h h' => hnone j h ?_, fun k hk => mid_other ?_, fun k h h' => mid_in h ?_⟩
              · simp only [put_heap, S.with, List.length_append, List.length_map]; omega
              · simp only [put_heap, S.with, List.length_append, List.length_map] at hk; omega
              · simp only [put_heap, S.with, List.length_append, List.length_map] at h'; omega
            have hnn : ∀ bs : List BI, (outsL s.ks.length s.heap.length sig.outs).2.1.length = bs.length → ∀ j, s.heap.length ≤ j → j < s.heap.length + bs.length → β j = none := fun bs hl j h h' => hnone j h (by simp only [put_heap, S.with, List.length_append, List.length_map]; omega)
            rw [hw]
            cases hgB : g'.B ρ
            · simp only [Bool.false_eq_true, if_false]
              let bs : List BI := List.replicate (outsL s.ks.length s.heap.length sig.outs).2.1.length ⟨⟨none, 0, 0, fun _ => none, fun _ => 0⟩, none⟩
              have hl : (outsL s.ks.length s.heap.length sig.outs).2.1.length = bs.length := by simp [bs]
              refine hK1 bs (fun r => W r ∨ r ∈ []) w Go.undef hl ⟨fun h => (by rw [hgB] at h; cases h), fun _ => rfl⟩ ?_
              refine m.mid (hnn bs hl) (Below.refl _ _) ⟨fun j b r hb ho => (by rw [repl_get hb] at ho; cases ho), fun _ j j' b b' r hb _ ho _ => (by rw [repl_get hb] at ho; cases ho), fun r h => (by cases h)⟩ List.nodup_nil ?_
              intro j e b he hb
              have hj := (List.getElem?_eq_some_iff.1 hb).1
              rw [← hl] at hj
              rw [hshape j _ (List.getElem?_eq_getElem hj)] at he
              obtain rfl := Option.some.inj he
              intro hgt
              simp only [guarded] at hgt
              rw [hgB] at hgt; cases hgt
            · simp only [if_true]
              have hrel := val_rel hf hgB m.glob (hop f (by simp [Call.operands])) hv
              obtain ⟨us1, us2, hfe, hr1, hr2⟩ := hrel
              have hrv := vals_rel (C := C) (s := s) (a := a) hf hgB m.glob hvs (fun x hx => hop x (by simp [Call.operands] at hx ⊢; exact .inr hx))
              have hall := ((caps_relL hr1).append hrv).append (caps_relL hr2)
              obtain ⟨hmeets, fn, hfn, hbody, hname⟩ := hΓ fid sig hsig
              have hneeds := needs_guard hf hgB hnd
              obtain ⟨hxl, hrd⟩ := argsL_sound hf hgB hh hxs hneeds hall
              have hcl := hmeets _ _ w m.below hrd (hpre hgB)
              unfold Oper.wp
              rw [run_call ho hfe hfn hbody hname, Oper.upon_enter]
              refine hcl.mono fun e w' he => ?_
              obtain ⟨v, rfl, hb, us, os, rfl, hgv, hnod⟩ := he
              have hkl : fixL (outsL s.ks.length s.heap.length sig.outs).2.2 ((Γ fid).out (fixL (insKs sig.ins) (xs.map (X.den ρ)))) = (Γ fid).out (fixL (insKs sig.ins) (xs.map (X.den ρ))) := by
                generalize (Γ fid).out (fixL (insKs sig.ins) (xs.map (X.den ρ))) = L at hgv
                have hp0 : Piece (List.replicate s.ks.length (AV.i 0) ++ L) s.ks.length L := fun i v hv => by
                  rw [List.getD_eq_getElem?_getD, List.getElem?_append_right (by simp)]
                  simp [hv]
                obtain ⟨_, _, hfx, _⟩ := outsL_sound (w := w') (N := w.heap.size) s.ks.length s.heap.length hgv hp0
                exact hfx
              rw [hkl] at hpc
              obtain ⟨bs, _, hfx, hel, hnw, hok, hrl⟩ := outsL_sound (w := w') (N := w.heap.size) s.ks.length s.heap.length hgv hpc
              refine hK1 bs (fun r => W r ∨ r ∈ os) w' _ hel ⟨fun _ => retV_rel (hrl _ (mid_maps _ _ _)) (fun _ => trivial), fun h => (by rw [hgB] at h; cases h)⟩ ?_
              refine m.mid (hnn bs hel) hb hnw hnod ?_
              intro j e b he hb'
              have hj := (List.getElem?_eq_some_iff.1 hb').1
              rw [← hel] at hj
              rw [hshape j _ (List.getElem?_eq_getElem hj)] at he
              obtain rfl := Option.some.inj he
              exact hok j _ b (List.getElem?_eq_getElem hj) hb' g' _ _
          · cases hq
        · cases hq
      · cases hq
    · cases hq
  · cases hq
end
end
end Go.Proofs.Ytiiabaklipmbbaa.Vc
