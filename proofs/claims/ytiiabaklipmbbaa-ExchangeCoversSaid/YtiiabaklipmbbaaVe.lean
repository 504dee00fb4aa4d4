/- The symbolic executor: a call by contract, and a step that writes, in the order of the text. -/
import Derived.Test.YtiiabaklipmbbaaVd
namespace Go.Proofs.Ytiiabaklipmbbaa.Vc
noncomputable section
open Go Go.RowKit
variable {ρ ρ' : List AV} {β β' : Mp} {W W' : Nat → Prop} {w w' : World} {P : Program} {C : Cfg} {B : Nat} {w0 : World}

/-- what a state tells holds -/
theorem known_sound {s : S} (m : Mem C B w0 ρ β W s w) {a : Act} (fr : Fr ρ β s a) : ∀ x ∈ s.known, x.B ρ = true := by
  have hsc : ∀ (c : Sc) v, c.rel ρ β v → ∀ x ∈ knownSc c, x.B ρ = true := by
    intro c v hv x hx
    unfold knownSc at hx
    split at hx
    · obtain ⟨p, c, q, r, h1, h2, h3, h4, h5, h6, _⟩ := hv
      simp at hx
      rcases hx with rfl | rfl | rfl
      · rw [xle, lit_I]; simpa using h3
      · rw [xle, lit_I]; simpa using h4
      · rw [xle, lit_I]
        unfold maxLen at h6
        simp only [decide_eq_true_eq]
        omega
    · obtain ⟨p, c, h1, h2, _⟩ := hv
      simp at hx
      subst hx
      rw [xle, lit_I]; simpa using h2
    · cases hx
  intro x hx
  simp only [S.known, List.mem_append, List.mem_flatMap] at hx
  rcases hx with ⟨e, he, hx⟩ | ⟨sl, hs, hx⟩
  · obtain ⟨k, hk, rfl⟩ := List.getElem_of_mem he
    obtain ⟨b, hb⟩ := m.all k hk
    have hE := m.heap k _ b (List.getElem?_eq_getElem hk) hb
    split at hx
    · cases hx
    · rename_i hg
      have hgt : (s.heap[k].g).B ρ = true := by
        have : s.heap[k].g = .bl true := by simpa using hg
        rw [this]; rfl
      have hE := hE hgt
      split at hx
      · rename_i hbd
        rw [hbd] at hE
        simp at hx; subst hx
        rw [xle, lit_I]; simpa using hE.1
      · rename_i hbd
        rw [hbd] at hE
        simp at hx; subst hx
        rw [xle, lit_I]; simpa using hE.1
      · rename_i l hbd
        rw [hbd] at hE
        obtain ⟨p, _, _, h3⟩ := hE
        simp only [List.mem_flatMap] at hx
        obtain ⟨c, hc, hx⟩ := hx
        obtain ⟨j, hj, rfl⟩ := List.getElem_of_mem hc
        obtain ⟨v, _, hv⟩ := h3 j _ (List.getElem?_eq_getElem hj)
        exact hsc _ v hv x hx
      · cases hx
  · obtain ⟨t, ht, rfl⟩ := List.getElem_of_mem hs
    split at hx
    · rename_i c heq
      have := fr.2 t _ ((List.getElem?_eq_getElem ht).trans (by rw [heq]))
      exact hsc c _ (this.1 rfl) x hx
    · cases hx
theorem news_sound {s : S} (m : Mem C B w0 ρ β W s w) {a : Act} (fr : Fr ρ β s a) : ∀ x ∈ s.news, x.B ρ = true := by
  intro x hx
  simp only [S.news, List.mem_eraseDups, List.mem_filter] at hx
  exact known_sound m fr x hx.1
theorem newsC_sound {s : S} (m : Mem C B w0 ρ β W s w) {a : Act} (fr : Fr ρ β s a) : ∀ x ∈ s.newsC C, x.B ρ = true := by
  unfold S.newsC
  split
  · exact news_sound m fr
  · intro x hx; cases hx
theorem repl_get {α : Type} {n : Nat} {x y : α} {j : Nat} (h : (List.replicate n x)[j]? = some y) : y = x := by
  rw [List.getElem?_replicate] at h
  split at h
  · exact (Option.some.inj h).symm
  · cases h
/-- what the contracts say is so -/
def ConsG (P : Program) (G : World → Prop) (C : Cfg) (Γ : FuncId → Con) : Prop := ∀ f sig, C.con f = some sig → MeetsG P G (Γ f) f sig ∧ ∃ fn, P.funcs[f]? = some fn ∧ fn.body.isNone = false ∧ (fn.name == "runtime.NumGoroutine") = false
abbrev ConsOk (P : Program) (C : Cfg) (Γ : FuncId → Con) (B : Nat) (w0 : World) : Prop := ConsG P (fun w => Below B w0 w) C Γ
theorem retV_rel {vs : List V1} {us : List Value} (h : RelL (V1.rel ρ β) vs us) (hl : vs.length ≠ 0 → True) : (retV vs).rel ρ β (tupOf us) := by
  cases vs with
  | nil =>
    cases us with
    | nil => exact ⟨[], rfl, trivial⟩
    | cons _ _ => exact h.elim
  | cons v vs =>
    cases us with
    | nil => exact h.elim
    | cons u us =>
      cases vs with
      | nil =>
        cases us with
        | nil => exact h.1
        | cons _ _ => exact h.2.elim
      | cons v' vs =>
        cases us with
        | nil => exact h.2.elim
        | cons u' us => exact ⟨u :: u' :: us, rfl, h⟩
section
variable {Γ : FuncId → Con} {Qd : List AV → Prop} {ctx : List (List AV → Prop)} {s : S} {a : Act} {ops : Array Oper} {o : Oper} {K : S → Tree} {K' : Act → World → Prop} {Q : Exit → Act → World → Prop}
theorem caps_relL {l : List Sc0} {vs : List Value} (h : RelL (Sc0.rel ρ β) l vs) : RelL (SV.rel ρ β) (l.map fun c => SV.v (.sc (.c c))) vs := by
  induction l generalizing vs with
  | nil => cases vs with
    | nil => trivial
    | cons _ _ => exact h.elim
  | cons c l ih => cases vs with
    | nil => exact h.elim
    | cons v vs => exact ⟨h.1, ih h.2⟩
/-- how a call of a function value begins -/
theorem run_call {f : Operand} {args : Array Operand} {ts : Array TypeId} {fid : FuncId} {vs ws : List Value} {fn : Func} (ho : o.op = .call { callee := .value f, args := args, argTypes := ts }) (hv : a.eval f = .func (.func fid) vs.toArray ws.toArray)
    (hf : P.funcs[fid]? = some fn) (hb : fn.body.isNone = false) (hn : (fn.name == "runtime.NumGoroutine") = false) :
    (execOp a.eval o).run P w = .ok (.enter fid (vs ++ args.toList.map a.eval ++ ws).toArray) w := by
  have hn' : fn.name ≠ "runtime.NumGoroutine" := by simpa using hn
  have hb' : fn.body ≠ none := fun h => by rw [h] at hb; cases hb
  simp [execOp, ho, resolve, Deferred.ofValue, hv, invoke, callFunc, hf, hb', hn', program, Sem.run]
theorem call_seq (hC : C.Ok P) (hlv : ctx.length = s.lvl) (hΓ : ConsOk P C Γ B w0) {g : X} {st : St} (hq : callStep C s g o = some st) (m : Mem C B w0 ρ β W s w) (fr : Fr ρ β s a) (hgs : guardOf s ops o = some g ∨ (guardOf s ops o).map (fun g => g.B ρ) = some true ∧ g = .bl true)
    (hden : (st.emit K).den Γ Qd ρ ctx) (hK : Onw C B w0 Γ Qd ctx ρ β s a.defers K K') :
    if Region.wanted o (yielded ops a.tmps) then o.wp P a w K' Q else K' (a.put o.dst Go.undef) w := by
  have hw : Region.wanted o (yielded ops a.tmps) = g.B ρ := by
    have hx : ∀ j b t, o.guard = some (j, b) → (ops[j]?).bind (·.dst) = some t → ∀ sl, s.tmps[t]? = some (some sl) → sl.rel ρ β (a.tmps.getD t Go.undef) ∧ t < a.tmps.size :=
      fun j b t _ _ sl hs => ⟨fr.2 t sl hs, by rw [fr.1]; exact (List.getElem?_eq_some_iff.1 hs).1⟩
    rcases hgs with h | ⟨h, rfl⟩
    · exact guard_sound h hx
    · cases hgo : guardOf s ops o with
      | none => rw [hgo] at h; cases h
      | some g' => rw [hgo] at h; rw [guard_sound hgo hx]; exact Option.some.inj h
  unfold callStep at hq
  split at hq
  · rename_i f args ts ho
    split at hq
    · rename_i fid first caps vs hv hvs
      split at hq
      · rename_i sig hsig
        split at hq
        · rename_i nd0 xs hxs
          simp only at hq
          split at hq
          · rename_i s' g' hmore hg'
            obtain rfl := Option.some.inj hq
            simp only [St.emit] at hden
            obtain ⟨hnd, hpre, hd⟩ := needAll_den hden
            -- the state with the facts, under the results' variables
            have m1 : Mem C B w0 ρ β W (s.with ((nd0.filter fun x => !s.holds g x).map (imp g))) w := m.with hnd
            have fr1 : Fr ρ β (s.with ((nd0.filter fun x => !s.holds g x).map (imp g))) a := ⟨fr.1, fr.2⟩
            generalize hdl : fixL (outsL s.ks.length s.heap.length sig.outs).2.2 ((Γ fid).out (fixL (insKs sig.ins) (xs.map (X.den ρ)))) = δ at hd
            have hkt : KT (outsL s.ks.length s.heap.length sig.outs).2.2 δ := by rw [← hdl]; exact fixL_KT _ _
            obtain ⟨rfl, m2⟩ := m1.more hmore hkt
            have fr2 := Fr.more (δ := δ) m1 hmore fr1
            have hgg : g'.B (ρ ++ δ) = g.B ρ := by
              have := X.sub_den (ρ' := ρ ++ δ) (ρ := ρ) (N := s.ks.length) (σ := .var) (fun n hn => by
                have : n < ρ.length := by rw [m.kt.1]; exact hn
                simp [X.den, List.getD_eq_getElem?_getD, List.getElem?_append_left this]) hg'
              simp only [X.B, this]
            have hon : ∀ (β' : Mp) (W' : Nat → Prop) (w' : World) (u : Value), Mem C B w0 (ρ ++ δ) β' W' { (s.with ((nd0.filter fun x => !s.holds g x).map (imp g))) with ks := s.ks ++ (outsL s.ks.length s.heap.length sig.outs).2.2, heap := s.heap ++ (outsL s.ks.length s.heap.length sig.outs).2.1.map (guarded g') } w' →
                Ext β β' → (Slot.mk g' (retV (outsL s.ks.length s.heap.length sig.outs).1)).rel (ρ ++ δ) β' u → K' (a.put o.dst u) w' := by
              intro β' W' w' u hm hx hu
              have fr3 : Fr (ρ ++ δ) β' { (s.with ((nd0.filter fun x => !s.holds g x).map (imp g))) with ks := s.ks ++ (outsL s.ks.length s.heap.length sig.outs).2.2, heap := s.heap ++ (outsL s.ks.length s.heap.length sig.outs).2.1.map (guarded g') } a := Fr.ext hx fr2 rfl
              have m4 := hm.put o.dst ⟨g', retV (outsL s.ks.length s.heap.length sig.outs).1⟩
              have fr4 := fr3.put (d := o.dst) hu
              have hnews := news_sound m4 fr4
              have hd' := assumeAll_den hd hnews
              refine hK (ρ ++ δ) β' W' _ _ w' ctx ⟨[], by simp⟩ (by show ctx.length = (S.put _ _ _).lvl; rw [put_lvl]; exact hlv) (m4.with hnews) ⟨fr4.1, fr4.2⟩ ?_ (put_defers _ _ _) hd'
              have hl : Later ρ β s (ρ ++ δ) β' { (s.with ((nd0.filter fun x => !s.holds g x).map (imp g))) with ks := s.ks ++ (outsL s.ks.length s.heap.length sig.outs).2.2, heap := s.heap ++ (outsL s.ks.length s.heap.length sig.outs).2.1.map (guarded g') } :=
                ⟨⟨δ, rfl⟩, ⟨_, rfl⟩, by simp, fun k b _ hb => hx k b hb⟩
              exact (hl.put _ _).with _
            rw [hw]
            cases hgB : g.B ρ
            · -- passed over
              simp only [Bool.false_eq_true, if_false]
              let bs : List BI := List.replicate (outsL s.ks.length s.heap.length sig.outs).2.1.length ⟨⟨none, 0, 0, fun _ => none, fun _ => 0⟩, none⟩
              have hm3 := m2.many (w' := w) (es := (outsL s.ks.length s.heap.length sig.outs).2.1.map (guarded g')) (bs := bs) (os := []) (Below.refl _ _) (by simp [bs])
                ⟨fun j b r hb ho => (by rw [repl_get hb] at ho; cases ho), fun _ j j' b b' r hb _ ho _ => (by rw [repl_get hb] at ho; cases ho), fun r h => (by cases h)⟩ List.nodup_nil
                (fun j e b he hb => by
                  simp only [List.getElem?_map, Option.map_eq_some_iff] at he
                  obtain ⟨e0, _, rfl⟩ := he
                  intro hgt
                  simp only [guarded] at hgt
                  rw [hgg, hgB] at hgt; cases hgt)
              refine hon _ _ w Go.undef hm3 (app_ext bs m.top) ⟨fun h => ?_, fun _ => rfl⟩
              rw [hgg, hgB] at h; cases h
            · -- carried out
              simp only [if_true]
              have hf := m.facts
              have hrel := val_rel hf hgB m.glob (opd_of_fr fr f) hv
              obtain ⟨us1, us2, hfe, hr1, hr2⟩ := hrel
              have hrv := vals_rel (C := C) (s := s) (a := a) hf hgB m.glob hvs (fun x _ => opd_of_fr fr x)
              have hall := ((caps_relL hr1).append hrv).append (caps_relL hr2)
              obtain ⟨hmeets, fn, hfn, hbody, hname⟩ := hΓ fid sig hsig
              have hneeds := needs_guard hf hgB hnd
              obtain ⟨hxl, hrd⟩ := argsL_sound hf hgB (fun k e bi hk hb => m.heap k e bi hk hb) hxs hneeds hall
              have hcall := hmeets _ _ w m.below hrd (hpre (by simpa [X.B] using hgB))
              unfold Oper.wp
              rw [run_call ho hfe hfn hbody hname, Oper.upon_enter]
              refine hcall.mono fun e w' he => ?_
              obtain ⟨v, rfl, hb, us, os, rfl, hgv, hnod⟩ := he
              -- the results' variables
              have hpc : Piece (ρ ++ (Γ fid).out (fixL (insKs sig.ins) (xs.map (X.den ρ)))) s.ks.length ((Γ fid).out (fixL (insKs sig.ins) (xs.map (X.den ρ)))) := fun i v hv => by
                rw [← m.kt.1, List.getD_eq_getElem?_getD, List.getElem?_append_right (by omega)]
                simp [hv]
              obtain ⟨bs, _, hfx, hel, hnw, hok, hrl⟩ := outsL_sound (w := w') (N := w.heap.size) s.ks.length s.heap.length hgv hpc
              have hdd : δ = (Γ fid).out (fixL (insKs sig.ins) (xs.map (X.den ρ))) := by rw [← hdl]; exact hfx
              rw [← hdd] at hok hrl
              have hm3 := m2.many (w' := w') (es := (outsL s.ks.length s.heap.length sig.outs).2.1.map (guarded g')) (bs := bs) (os := os) hb (by simpa using hel) hnw hnod
                (fun j e b he hb => by
                  simp only [List.getElem?_map, Option.map_eq_some_iff] at he
                  obtain ⟨e0, he0, rfl⟩ := he
                  exact hok j e0 b he0 hb g' _ _)
              refine hon _ _ w' _ hm3 (app_ext bs m.top) ⟨fun _ => ?_, fun h => ?_⟩
              · exact retV_rel (hrl _ (app_maps _ _ _)) (fun _ => trivial)
              · rw [hgg, hgB] at h; cases h
          · cases hq
        · cases hq
      · cases hq
    · cases hq
  · cases hq
end
end
end Go.Proofs.Ytiiabaklipmbbaa.Vc
