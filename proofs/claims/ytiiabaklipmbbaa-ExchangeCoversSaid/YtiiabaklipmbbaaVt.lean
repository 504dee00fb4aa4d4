/- The symbolic executor: the rest of the operations that leave old memory as it is. -/
import Derived.Test.YtiiabaklipmbbaaVs
namespace Go.Proofs.Ytiiabaklipmbbaa.Vc
noncomputable section
open Go Go.RowKit
variable {ρ : List AV} {β β' : Mp} {W W' : Nat → Prop} {w w' : World} {P : Program} {C : Cfg} {t : TypeId} {d : TD}

theorem part_run (h : TOk P t d) {cs : List Value} {off : Nat} {l : List Sc} (hr : RelL (Sc.rel ρ β) l cs) (hle : off + d.size ≤ l.length) {x : V1} (hx : v1Of d.dk.agg ((l.drop off).take d.size) = some x) :
    ∃ u, (part t cs.toArray off).run P w = .ok u w ∧ x.rel ρ β u := by
  have hr' := (hr.drop off).take d.size
  unfold v1Of at hx
  split at hx
  · rename_i ha
    obtain rfl := Option.some.inj hx
    refine ⟨.agg ((cs.drop off).take d.size).toArray, ?_, _, rfl, hr'⟩
    simp only [part, Sem.run_bind, isAgg_run h, Result.andThen_ok, ha, if_true, sizeOf_run h, Sem.run_pure]
    congr 2
    apply Array.toList_inj.1
    rw [Array.toList_extract]
    simp [List.extract_eq_take_drop]
  · rename_i ha
    split at hx
    · rename_i c hc
      obtain rfl := Option.some.inj hx
      rw [hc] at hr'
      obtain ⟨v, h1, h2⟩ := hr'.get 0 c rfl
      rw [List.getElem?_take] at h1
      split at h1
      · rw [List.getElem?_drop] at h1
        refine ⟨v, ?_, h2⟩
        have h1' : cs[off]? = some v := by simpa using h1
        simp [part, isAgg_run h, ha, h1']
      · cases h1
    · cases hx
theorem part_run2 (h : TOk P t d) {cs : List Value} {off : Nat} {l : List Sc} (hle : off + d.size ≤ cs.length) (hr : RelL (Sc.rel ρ β) l ((cs.drop off).take d.size)) {x : V1} (hx : v1Of d.dk.agg l = some x) :
    ∃ u, (part t cs.toArray off).run P w = .ok u w ∧ x.rel ρ β u := by
  unfold v1Of at hx
  split at hx
  · rename_i ha
    obtain rfl := Option.some.inj hx
    refine ⟨.agg ((cs.drop off).take d.size).toArray, ?_, _, rfl, hr⟩
    simp only [part, Sem.run_bind, isAgg_run h, Result.andThen_ok, ha, if_true, sizeOf_run h, Sem.run_pure]
    congr 2
    apply Array.toList_inj.1
    rw [Array.toList_extract]
    simp [List.extract_eq_take_drop]
  · rename_i ha
    split at hx
    · rename_i c
      obtain rfl := Option.some.inj hx
      obtain ⟨v, h1, h2⟩ := hr.get 0 c rfl
      rw [List.getElem?_take] at h1
      split at h1
      · rw [List.getElem?_drop] at h1
        refine ⟨v, ?_, h2⟩
        have h1' : cs[off]? = some v := by simpa using h1
        simp [part, isAgg_run h, ha, h1']
      · cases h1
    · cases hx
theorem caps0_rel : ∀ {l : List SV} {m : List Sc0} {vs : List Value}, caps0 l = some m → RelL (SV.rel ρ β) l vs → RelL (Sc0.rel ρ β) m vs
  | [], m, vs, h, hr => by
    simp [caps0] at h; subst h
    cases vs with
    | nil => trivial
    | cons _ _ => exact hr.elim
  | x :: l, m, vs, h, hr => by
    cases vs with
    | nil => exact hr.elim
    | cons v vs =>
      unfold caps0 at h
      split at h
      · rename_i heq; cases heq
      · rename_i c l' heq
        obtain ⟨rfl, rfl⟩ := List.cons.inj heq
        simp only [Option.map_eq_some_iff] at h
        obtain ⟨m', hm, rfl⟩ := h
        exact ⟨hr.1, caps0_rel hm hr.2⟩
      · cases h
theorem newRow_run (t : TypeId) (cs : Array Value) : (newRow t cs).run P w = .ok ⟨w.heap.size, 0, none⟩ (w.alloc (.cells cs t)) := rfl
theorem mapM_run {α γ : Type} {f : α → Sem γ} {q : α → γ} : ∀ (l : List α), (∀ x ∈ l, (f x).run P w = .ok (q x) w) → (l.mapM f).run P w = .ok (l.map q) w
  | [], _ => by simp
  | x :: l, h => by
    simp only [List.mapM_cons, Sem.run_bind, h x (by simp), Result.andThen_ok, mapM_run l fun y hy => h y (by simp [hy]), Sem.run_pure, List.map_cons]
theorem mapM_arr {α γ : Type} {f : α → Sem γ} {q : α → γ} (l : Array α) (h : ∀ x ∈ l.toList, (f x).run P w = .ok (q x) w) : (l.mapM f).run P w = .ok (l.map q) w := by
  rw [Array.mapM_eq_mapM_toList]
  have := mapM_run (P := P) (w := w) l.toList h
  rw [← bind_pure_comp]
  simp only [Sem.run_bind, this, Result.andThen_ok, Function.comp, Sem.run_pure]
  congr 1
  exact Array.toList_inj.1 (by simp)
theorem fieldsB_size : ∀ {fs : List Field} {l : List (Nat × Nat × Nat)}, fieldsB P fs l = true → l.length = fs.length ∧ ∀ f ∈ fs, ∃ i, P.info? f.type = some i
  | [], [], _ => ⟨rfl, fun _ h => by cases h⟩
  | f :: fs, (off, sz, ft) :: l, hb => by
    simp only [fieldsB, Bool.and_eq_true, decide_eq_true_eq] at hb
    obtain ⟨⟨_, h2⟩, h3⟩ := hb
    obtain ⟨h4, h5⟩ := fieldsB_size h3
    refine ⟨by simp [h4], fun g hg => ?_⟩
    rcases List.mem_cons.1 hg with rfl | hg
    · split at h2
      · rename_i i hi; exact ⟨i, hi⟩
      · cases h2
    · exact h5 g hg
  | [], _ :: _, hb => by simp [fieldsB] at hb
  | _ :: _, [], hb => by simp [fieldsB] at hb
def newB (r cap sz : Nat) : BI := ⟨⟨some ⟨r, 0, none⟩, cap, sz, fun _ => none, fun _ => 0⟩, some r⟩
theorem QOk.newPtr {n : Nat} {a : Act} {o : Oper} {z : List Value} {T : TypeId} {l : List Sc} (h : (execOp a.eval o).run P w = .ok (.value (.pointer (some ⟨w.heap.size, 0, none⟩))) (w.alloc (.cells z.toArray T)))
    (hr : RelL (Sc.rel ρ (upd β n (newB w.heap.size 0 1))) l z) : QOk P ρ β W w n a o (.v (.sc (.c (.ptr (.blk n) 1 (.lit 0) 0)))) (some (ent true (.cells l))) :=
  ⟨_, _, upd β n (newB w.heap.size 0 1), _, h, ⟨⟨w.heap.size, 0, none⟩, 0, by simp [SB.at, upd_same, newB], by simp [X.I, X.den, AV.int], by simp [X.I, X.den, AV.int, Addr.add]⟩,
    newB w.heap.size 0 1, below_alloc _ _, by simp, rfl, rfl, rfl, fun g => EOk_cells_new g z T _ rfl (by simp [newB]) hr⟩
section
variable {s : S} {g : X} {o : Oper} {r : R} {a : Act}
theorem vals_rel (hf : s.factsOk ρ) (hg : g.B ρ = true) (hgl : GlobOk C β) : ∀ {l : List Operand} {m : List SV}, mapOpt (s.val C g) l = some m → (∀ x ∈ l, OpdOk ρ β s a x) → RelL (SV.rel ρ β) m (l.map a.eval)
  | [], m, h, _ => by simp [mapOpt] at h; subst h; trivial
  | x :: l, m, h, ho => by
    simp only [mapOpt] at h
    split at h
    · rename_i y m' h1 h2
      obtain rfl := Option.some.inj h
      exact ⟨val_rel hf hg hgl (ho x (by simp)) h1, vals_rel hf hg hgl h2 fun z hz => ho z (by simp [hz])⟩
    · cases h
theorem q_makeFunc (hf : s.factsOk ρ) (hg : g.B ρ = true) (hgl : GlobOk C β) (hop : ∀ x ∈ o.op.operands.toList, OpdOk ρ β s a x) {f : Fn} {first captured : Array Operand} (ho : o.op = .makeFunc f first captured) (hq : qop C s g o = some r) : QOk P ρ β W w s.heap.length a o r.v r.add := by
  simp only [ho, Op.operands] at hop
  rw [qop_eq] at hq
  unfold qopAll at hq
  simp only [ho] at hq
  cases f with
  | func f =>
    simp only at hq
    split at hq
    · rename_i l1 l2 h1 h2
      obtain rfl := Option.some.inj hq
      simp only [Option.bind_eq_some_iff] at h1 h2
      obtain ⟨m1, a1, a2⟩ := h1
      obtain ⟨m2, b1, b2⟩ := h2
      have r1 := caps0_rel a2 (vals_rel hf hg hgl (a := a) a1 fun x hx => hop x (by simp [hx]))
      have r2 := caps0_rel b2 (vals_rel hf hg hgl (a := a) b1 fun x hx => hop x (by simp [hx]))
      refine QOk.same (u := .func (.func f) (first.map a.eval) (captured.map a.eval)) (by simp [execOp, ho, Instr.makeFunc]) ⟨first.toList.map a.eval, captured.toList.map a.eval, ?_, r1, r2⟩
      congr 1 <;> exact Array.toList_inj.1 (by simp)
    · cases hq
  | _ => simp at hq
theorem q_field (hC : C.Ok P) (hf : s.factsOk ρ) (hg : g.B ρ = true) (hgl : GlobOk C β) (hop : ∀ x ∈ o.op.operands.toList, OpdOk ρ β s a x) {t : TypeId} {x : Operand} {f : Nat} (ho : o.op = .field t x f) (hq : qop C s g o = some r) : QOk P ρ β W w s.heap.length a o r.v r.add := by
  simp only [ho, Op.operands] at hop
  rw [qop_eq] at hq
  unfold qopAll at hq
  simp only [ho] at hq
  split at hq
  · rename_i l fs sz by_ z el pl hv htd
    split at hq
    · rename_i off fsz ft hfs
      split at hq
      · rename_i d hd
        split at hq
        · rename_i hc
          simp only [Option.map_eq_some_iff] at hq
          obtain ⟨x', hx', rfl⟩ := hq
          obtain ⟨vs, he, hr⟩ := val_rel hf hg hgl (hop x (by simp)) hv
          obtain ⟨fl, hu, hb⟩ := (hC.ty _ _ htd).struct rfl
          obtain ⟨fd, ti, h1, h2, h3, h4, h5⟩ := fieldsB_get hb f _ hfs
          simp only at h2 h4 h5
          obtain ⟨u, h6, h7⟩ := part_run (w := w) (hC.ty _ _ hd) hr hc.2 hx'
          refine QOk.same (u := u) ?_ h7
          refine runv (m := Instr.field t (a.eval x) f) (by simp [execOp, ho]) ?_
          have h1' : fl[f]? = some fd := by simpa using h1
          simp only [Instr.field, Sem.run_bind, run_underlying hu, Result.andThen_ok, h1', he, asAgg, Sem.run_pure, h5, h2, h6]
        · cases hq
      · cases hq
    · cases hq
  · cases hq
theorem q_alloc (hC : C.Ok P) (hf : s.factsOk ρ) (hg : g.B ρ = true) (hgl : GlobOk C β) (hop : ∀ x ∈ o.op.operands.toList, OpdOk ρ β s a x) {t : TypeId} (ho : o.op = .alloc t) (hnew : r.add.isSome → β s.heap.length = none) (hq : qop C s g o = some r) : QOk P ρ β W w s.heap.length a o r.v r.add := by
  have _ := @hf
  have _ := @hg
  have _ := @hgl
  have _ := @hop
  rw [qop_eq] at hq
  unfold qopAll at hq
  simp only [ho] at hq
  split at hq
  · rename_i d hd
    obtain rfl := Option.some.inj hq
    obtain ⟨z, hz, hr, hs⟩ := (hC.ty _ _ hd).zero (w := w) (ρ := ρ) (β := upd β s.heap.length (newB w.heap.size 0 1))
    refine QOk.newPtr (z := z.cells.toList) (T := t) ?_ hr
    refine runv (m := Instr.alloc t true (.tuple #[])) (by simp [execOp, ho]) ?_
    simp [Instr.alloc, hz, newVar, newRow_run]
  · cases hq
theorem q_box (hC : C.Ok P) (hf : s.factsOk ρ) (hg : g.B ρ = true) (hgl : GlobOk C β) (hop : ∀ x ∈ o.op.operands.toList, OpdOk ρ β s a x) {t : TypeId} {x : Operand} (ho : o.op = .box t x) (hnew : r.add.isSome → β s.heap.length = none) (hq : qop C s g o = some r) : QOk P ρ β W w s.heap.length a o r.v r.add := by
  have _ := @hC
  simp only [ho, Op.operands] at hop
  rw [qop_eq] at hq
  unfold qopAll at hq
  simp only [ho] at hq
  split at hq
  · rename_i v d hv hd
    split at hq
    · rename_i hlen
      obtain rfl := Option.some.inj hq
      replace hnew := hnew rfl
      have hx := val_rel hf hg hgl (hop x (by simp)) hv
      obtain ⟨h1, h2⟩ := cells_len (V1.rel_ext (ext_upd (newB w.heap.size 0 1) hnew) hx)
      refine QOk.newPtr (z := (a.eval x).cells.toList) (T := t) ?_ h2
      refine runv (m := Instr.box t (a.eval x)) (by simp [execOp, ho]) ?_
      simp [Instr.box, newVar, newRow_run]
    · cases hq
  · cases hq
theorem q_build (hC : C.Ok P) (hf : s.factsOk ρ) (hg : g.B ρ = true) (hgl : GlobOk C β) (hop : ∀ x ∈ o.op.operands.toList, OpdOk ρ β s a x) {t : TypeId} {parts : Array (Nat × Operand)} (ho : o.op = .build t parts) (hq : qop C s g o = some r) : QOk P ρ β W w s.heap.length a o r.v r.add := by
  simp only [ho, Op.operands] at hop
  rw [qop_eq] at hq
  unfold qopAll at hq
  simp only [ho] at hq
  split at hq
  · rename_i fs sz by_ z el pl ps htd hps
    simp only [Option.map_eq_some_iff] at hq
    obtain ⟨l, hl, rfl⟩ := hq
    have hp := parts_rel hf hg hgl (a := a) hps (by simpa using hop)
    obtain ⟨zv, hz, hr, hs⟩ := (hC.ty _ _ htd).zero (w := w) (ρ := ρ) (β := β)
    obtain ⟨fl, hu, hb⟩ := (hC.ty _ _ htd).struct rfl
    have hmap : ∃ places : Array (Nat × Nat), (fl.mapM fun f => (do pure (f.offset, ← sizeOf f.type) : Sem (Nat × Nat))).run P w = .ok places w ∧ ∀ (i : Nat) (x : Nat × Nat), (fs[i]?).map (fun x => (x.1, x.2.1)) = some x → places[i]? = some x := by
      refine ⟨_, mapM_arr (q := fun f => (f.offset, ((P.info? f.type).map (·.size)).getD 0)) fl fun f hf => ?_, fun i x hx => ?_⟩
      · obtain ⟨i, hi⟩ := (fieldsB_size hb).2 f hf
        simp [info_run hi, hi]
      · simp only [Option.map_eq_some_iff] at hx
        obtain ⟨y, hy, rfl⟩ := hx
        obtain ⟨fd, ti, h1, h2, h3, h4, _⟩ := fieldsB_get hb i y hy
        have h1' : fl[i]? = some fd := by simpa using h1
        simp [h1', h2, h3, h4]
    obtain ⟨places, hm, hpl⟩ := hmap
    obtain ⟨cs', h3, h4, h5⟩ := fill_sound (pl' := (places[·]?)) hpl hl hp hr
    refine QOk.same (u := .agg cs') ?_ ⟨cs'.toList, by simp, h4⟩
    refine runv (m := Instr.build t (parts.map fun (i, x) => (i, a.eval x))) (by simp [execOp, ho]) ?_
    simp only [Instr.build, Sem.run_bind, hz, Result.andThen_ok, run_underlying hu, hm]
    have : (parts.map fun x => (x.1, a.eval x.2)).toList = parts.toList.map fun x => (x.1, a.eval x.2) := by simp
    rw [show (parts.map fun (i, x) => (i, a.eval x)) = (parts.map fun x => (x.1, a.eval x.2)) from rfl, this, h3]
    simp
  · rename_i n esz sz by_ z el pl ps htd hps
    simp only [Option.map_eq_some_iff] at hq
    obtain ⟨l, hl, rfl⟩ := hq
    have hp := parts_rel hf hg hgl (a := a) hps (by simpa using hop)
    obtain ⟨zv, hz, hr, hs⟩ := (hC.ty _ _ htd).zero (w := w) (ρ := ρ) (β := β)
    obtain ⟨e, ie, hu, hie, hsz, _⟩ := (hC.ty _ _ htd).arr rfl
    obtain ⟨cs', h3, h4, h5⟩ := fill_sound (pl' := fun i => some (i * ie.size, ie.size)) (fun i x h => by simpa [hsz] using h) hl hp hr
    refine QOk.same (u := .agg cs') ?_ ⟨cs'.toList, by simp, h4⟩
    refine runv (m := Instr.build t (parts.map fun (i, x) => (i, a.eval x))) (by simp [execOp, ho]) ?_
    simp only [Instr.build, Sem.run_bind, hz, Result.andThen_ok, run_underlying hu, info_run hie]
    have : (parts.map fun x => (x.1, a.eval x.2)).toList = parts.toList.map fun x => (x.1, a.eval x.2) := by simp
    rw [show (parts.map fun (i, x) => (i, a.eval x)) = (parts.map fun x => (x.1, a.eval x.2)) from rfl, this, h3]
    simp
  · cases hq
end
end
end Go.Proofs.Ytiiabaklipmbbaa.Vc
