/- The symbolic executor: a step that writes, carried through. -/
import Derived.Test.YtiiabaklipmbbaaVf
namespace Go.Proofs.Ytiiabaklipmbbaa.Vc
noncomputable section
open Go Go.RowKit
variable {ρ ρ' : List AV} {β β' : Mp} {W W' : Nat → Prop} {w w' : World} {P : Program} {C : Cfg} {B : Nat} {w0 : World}

theorem storeVar_run {t : TypeId} {d : TD} (h : TOk P t d) {p : Addr} {v : Value} (hsz : v.cells.size = d.size) {o : Nat} (hp : p = ⟨p.block, o, none⟩)
    (hc : ∀ j, j < v.cells.toList.length → (w.cell? ⟨p.block, o + j, none⟩).isSome = true) (hf : ∀ j, j < v.cells.toList.length → w.frozen? ⟨p.block, o + j, none⟩ = false) (h1 : ∀ u ∈ v.cells.toList, u.oneCell' = true) :
    (storeVar t p v).run P w = .ok () (w.setCells p.block o v.cells.toList) := by
  unfold storeVar
  simp only [Sem.run_bind, sizeOf_run h, Result.andThen_ok]
  rw [if_neg (by simp [hsz])]
  have := run_storeCells_cells (P := P) p.block o v.cells.toList 0 w (by simpa using hc) (by simpa using hf) h1
  rw [hp]
  simpa using this
section
variable {Γ : FuncId → Con} {Qd : List AV → Prop} {ctx : List (List AV → Prop)} {s : S} {a : Act} {ops : Array Oper} {o : Oper} {K : S → Tree} {K' : Act → World → Prop} {Q : Exit → Act → World → Prop}
/-- the memory behind a write to one of our own blocks -/
theorem Mem.write {k : Nat} {e : HE} {bi : BI} {r : Nat} {bd : Body} (m : Mem C B w0 ρ β W s w) (hk : s.heap[k]? = some e) (hb : β k = some bi) (ho : bi.own = some r) (hbut : But r w w') (hbel : Below B w w') (hsz : w'.heap.size = w.heap.size)
    (he : EOk ρ β W w' bi (ent true bd)) : Mem C B w0 ρ β W (s.setBody k bd) w' := by
  have hW := m.own k bi r hb ho
  have hkl : k < s.heap.length := (List.getElem?_eq_some_iff.1 hk).1
  refine ⟨⟨m.below.trans hbel, by rw [hsz]; exact m.size, fun r hr => by rw [hsz]; exact m.wlo r hr, fun k' e' b' hk' hb' => ?_, m.dist, m.own, m.glob⟩, fun k' hk' => m.all k' (by simpa [S.setBody, setF_eq] using hk'), fun k' hk' => m.top k' (by simpa [S.setBody, setF_eq] using hk'), m.facts, m.kt⟩
  simp only [S.H, S.setBody, setF_eq, List.getElem?_set] at hk'
  split at hk'
  · rename_i heq
    subst heq
    obtain rfl := Option.some.inj hk'
    obtain rfl := Option.some.inj (hb'.symm.trans hb)
    exact he
  · rename_i hne
    refine (m.heap k' e' b' hk' hb').but hbut hW (fun ho' => hne ?_)
    exact (m.dist k' k b' bi r hb' hb ho' ho).symm
theorem PMem.write {H : Nat → Option HE} {k : Nat} {bi : BI} {r : Nat} {bd : Body} (m : PMem C B w0 ρ β W H w) (hb : β k = some bi) (ho : bi.own = some r) (hbut : But r w w') (hbel : Below B w w') (hsz : w'.heap.size = w.heap.size)
    (he : EOk ρ β W w' bi (ent true bd)) : PMem C B w0 ρ β W (fun j => if j = k then some (ent true bd) else H j) w' := by
  have hW := m.own k bi r hb ho
  refine ⟨m.below.trans hbel, by rw [hsz]; exact m.size, fun r hr => by rw [hsz]; exact m.wlo r hr, fun k' e' b' hk' hb' => ?_, m.dist, m.own, m.glob⟩
  split at hk'
  · rename_i heq
    subst heq
    obtain rfl := Option.some.inj hk'
    obtain rfl := Option.some.inj (hb'.symm.trans hb)
    exact he
  · rename_i hne
    refine (m.heap k' e' b' hk' hb').but hbut hW (fun ho' => hne ?_)
    exact m.dist k' k b' bi r hb' hb ho' ho
/-- the memory is asked of those entries alone that are known -/
theorem PMem.congr {H H' : Nat → Option HE} (m : PMem C B w0 ρ β W H w) (h : ∀ k b, β k = some b → H' k = H k) : PMem C B w0 ρ β W H' w :=
  ⟨m.below, m.size, m.wlo, fun k e b hk hb => m.heap k e b (by rw [← h k b hb]; exact hk) hb, m.dist, m.own, m.glob⟩
theorem setBody_tmps (s : S) (k : Nat) (b : Body) : (s.setBody k b).tmps = s.tmps := rfl
theorem store_any (hC : C.Ok P) {t : TypeId} {p x : Operand} (ho : o.op = .store t p x) {nd : List X} {s' : S} (hq : estep C s o = some (nd, s')) {H : Nat → Option HE} (m : PMem C B w0 ρ β W H w) (hf : s.factsOk ρ)
    (hh : ∀ k e b, s.heap[k]? = some e → β k = some b → EOk ρ β W w b e) (hop : ∀ x ∈ o.op.operands.toList, OpdOk ρ β s a x) (hnd : ∀ x ∈ nd, x.B ρ = true) :
    Region.wanted o (yielded ops a.tmps) = true ∧ ∃ w' k bd, (execOp a.eval o).run P w = .ok .skip w' ∧ s' = (s.setBody k bd).put o.dst ⟨.bl true, .undef⟩ ∧ (∃ e, s.heap[k]? = some e ∧ e.body ≠ .gone) ∧ PMem C B w0 ρ β W (fun j => if j = k then some (ent true bd) else H j) w' := by
  unfold estep at hq
  split at hq
  · cases hq
  · rename_i hgd
    have hgd' : o.guard = none := by simpa using hgd
    refine ⟨by simp [Region.wanted, hgd'], ?_⟩
    rw [ho] at hop
    simp only [ho] at hq
    split at hq
    · rename_i b sz i f v d hp hx hd
      split at hq
      · rename_i hlen
        split at hq
        · rename_i nd' s1 hs
          obtain ⟨rfl, rfl⟩ := Prod.mk.inj (Option.some.inj hq)
          have tt : (X.bl true).B ρ = true := rfl
          obtain ⟨q, c, hat, hi, hpe⟩ := val_rel hf tt m.glob (hop p (by simp [Op.operands])) hp
          have hxr := val_rel hf tt m.glob (hop x (by simp [Op.operands])) hx
          obtain ⟨hl, hcs⟩ := cells_len (β := β) hxr
          cases b with
          | row _ _ => simp [S.storeAt] at hs
          | blk k =>
            simp only [S.storeAt] at hs
            split at hs
            · rename_i bd eg hk
              obtain ⟨hk, hgt⟩ := body_sound hf tt hk
              simp only [Option.map_eq_some_iff] at hs
              obtain ⟨⟨nd2, bd'⟩, hst, h2⟩ := hs
              obtain ⟨rfl, rfl⟩ := Prod.mk.inj h2
              simp only [SB.at, Option.map_eq_some_iff] at hat
              obtain ⟨bi, hb, he⟩ := hat
              obtain ⟨hadr, _⟩ := Prod.mk.inj he
              have hE : EOk ρ β W w bi (ent true bd) := fun _ => (hh k ⟨true, bd, eg⟩ bi hk hb) hgt
              have hne : (a.eval x).cells.toList ≠ [] := fun h => by
                have h0 : (a.eval x).cells.size = 0 := by have := congrArg List.length h; simpa using this
                omega
              obtain ⟨s1, s2, s3, s4, s5⟩ := store_body hst hnd hE hadr hi hcs hne
              have hplace : q.add ((i.I ρ).toNat * sz + f) = ⟨q.block, (i.I ρ).toNat * sz + f, none⟩ := by rw [s1, add0]
              have hrun := storeVar_run (P := P) (w := w) (hC.ty _ _ hd) (p := q.add ((i.I ρ).toNat * sz + f)) (v := a.eval x) (o := (i.I ρ).toNat * sz + f) (by rw [← hl]; exact hlen.1) (by rw [hplace]) (by rw [add_block]; exact s3) (by rw [add_block]; exact s4) (all_one hcs)
              rw [add_block] at hrun
              refine ⟨_, k, bd', ?_, rfl, ⟨_, hk, fun h => ?_⟩, m.write hb s2 (but_setCells w q.block _ _) (below_setCells w q.block ?_ _ _ w) (size_setCells _ _ _ _) s5⟩
              · simp only [execOp, ho, Instr.storeAt, hpe, Instr.sureAddr, Sem.run_bind, Sem.run_pure, Result.andThen_ok, hrun]
              · have h : bd = .gone := h
                rw [h] at hst; simp [Body.store] at hst
              · exact (m.wlo _ (m.own k bi _ hb s2)).1
            · cases hs
        · cases hq
      · cases hq
    · cases hq
theorem store_seq (hC : C.Ok P) {t : TypeId} {p x : Operand} (ho : o.op = .store t p x) {nd : List X} {s' : S} (hq : estep C s o = some (nd, s')) (m : Mem C B w0 ρ β W s w) (fr : Fr ρ β s a) (hnd : ∀ x ∈ nd, x.B ρ = true) :
    Region.wanted o (yielded ops a.tmps) = true ∧ ∃ w', (execOp a.eval o).run P w = .ok .skip w' ∧ Mem C B w0 ρ β W s' w' ∧ Fr ρ β s' (a.put o.dst Go.undef) ∧ Later ρ β s ρ β s' ∧ s'.lvl = s.lvl := by
  unfold estep at hq
  split at hq
  · cases hq
  · rename_i hgd
    have hgd' : o.guard = none := by simpa using hgd
    refine ⟨by simp [Region.wanted, hgd'], ?_⟩
    simp only [ho] at hq
    split at hq
    · rename_i b sz i f v d hp hx hd
      split at hq
      · rename_i hlen
        split at hq
        · rename_i nd' s1 hs
          obtain ⟨rfl, rfl⟩ := Prod.mk.inj (Option.some.inj hq)
          have hf := m.facts
          have tt : (X.bl true).B ρ = true := rfl
          obtain ⟨q, c, hat, hi, hpe⟩ := val_rel hf tt m.glob (opd_of_fr fr p) hp
          have hxr := val_rel hf tt m.glob (opd_of_fr fr x) hx
          obtain ⟨hl, hcs⟩ := cells_len (β := β) hxr
          cases b with
          | row _ _ => simp [S.storeAt] at hs
          | blk k =>
            simp only [S.storeAt] at hs
            split at hs
            · rename_i bd eg hk
              obtain ⟨hk, hgt⟩ := body_sound hf tt hk
              simp only [Option.map_eq_some_iff] at hs
              obtain ⟨⟨nd2, bd'⟩, hst, h2⟩ := hs
              obtain ⟨rfl, rfl⟩ := Prod.mk.inj h2
              simp only [SB.at, Option.map_eq_some_iff] at hat
              obtain ⟨bi, hb, he⟩ := hat
              obtain ⟨hadr, _⟩ := Prod.mk.inj he
              have hE : EOk ρ β W w bi (ent true bd) := fun _ => (m.heap k ⟨true, bd, eg⟩ bi hk hb) hgt
              have hne : (a.eval x).cells.toList ≠ [] := fun h => by
                have h0 : (a.eval x).cells.size = 0 := by have := congrArg List.length h; simpa using this
                omega
              obtain ⟨s1, s2, s3, s4, s5⟩ := store_body hst hnd hE hadr hi hcs hne
              have hplace : q.add ((i.I ρ).toNat * sz + f) = ⟨q.block, (i.I ρ).toNat * sz + f, none⟩ := by rw [s1, add0]
              have hrun := storeVar_run (P := P) (w := w) (hC.ty _ _ hd) (p := q.add ((i.I ρ).toNat * sz + f)) (v := a.eval x) (o := (i.I ρ).toNat * sz + f) (by rw [← hl]; exact hlen.1) (by rw [hplace]) (by rw [add_block]; exact s3) (by rw [add_block]; exact s4) (all_one hcs)
              rw [add_block] at hrun
              refine ⟨_, ?_, Mem.put (m.write hk hb s2 (but_setCells w q.block _ _) (below_setCells w q.block ?_ _ _ w) (size_setCells _ _ _ _) s5) _ _, Fr.put (s := s.setBody k bd') ⟨fr.1, fr.2⟩ ⟨fun _ => rfl, fun _ => rfl⟩, ?_, ?_⟩
              · simp only [execOp, ho, Instr.storeAt, hpe, Instr.sureAddr, Sem.run_bind, Sem.run_pure, Result.andThen_ok, hrun]
              · exact (m.wlo _ (m.own k bi _ hb s2)).1
              · exact Later.put ⟨⟨[], by simp⟩, ⟨[], by simp [S.setBody, setF_eq]⟩, by simp [S.setBody, setF_eq], fun k b _ h => ⟨b, h, rfl⟩⟩ _ _
              · rw [put_lvl]; rfl
            · cases hs
        · cases hq
      · cases hq
    · cases hq
end
end
end Go.Proofs.Ytiiabaklipmbbaa.Vc
