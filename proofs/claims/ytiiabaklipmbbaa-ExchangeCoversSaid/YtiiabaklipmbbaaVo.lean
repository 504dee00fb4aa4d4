/- The symbolic executor: an operation of a region whose order is open. -/
import Derived.Test.YtiiabaklipmbbaaVn
import Derived.Test.YtiiabaklipmbbaaV3
namespace Go.Proofs.Ytiiabaklipmbbaa.Vc
noncomputable section
open Go Go.RowKit
variable {ρ ρ' : List AV} {β β' : Mp} {W W' : Nat → Prop} {w w' : World} {P : Program} {C : Cfg} {B : Nat} {w0 : World}
variable {Γ : FuncId → Con} {Qd : List AV → Prop} {ctx : List (List AV → Prop)}

theorem head_step (hC : C.Ok P) (hΓ : ConsOk P C Γ B w0) {s : S} {a : Act} {ops : Array Oper} {o : Oper} {K' : Act → World → Prop} {Q : Exit → Act → World → Prop} {st : St} {H : Nat → Option HE} (hq : qstep C s ops o = some st) (hnd : ∀ x ∈ st.needs, x.B ρ = true) (m : PMem C B w0 ρ β W H w)
    (hcall : ∀ g f aks ks xs, st.call = some (g, f, aks, ks, xs) → (g.B ρ = true → (Γ f).pre (fixL aks (xs.map (X.den ρ)))) ∧ Piece ρ s.ks.length (fixL ks ((Γ f).out (fixL aks (xs.map (X.den ρ))))))
    (hh : ∀ k e b, s.heap[k]? = some e → β k = some b → EOk ρ β W w b e) (hnew : ∀ (k : Nat) e, s.heap.length ≤ k → st.s.heap[k]? = some e → H k = some e) (hnone : ∀ k, s.heap.length ≤ k → k < st.s.heap.length → β k = none) (hf : s.factsOk ρ)
    (hop : ∀ x ∈ o.op.operands.toList, OpdOk ρ β s a x)
    (hgd : ∀ j b t, o.guard = some (j, b) → (ops[j]?).bind (·.dst) = some t → ∀ sl, s.tmps[t]? = some (some sl) → sl.rel ρ β (a.tmps.getD t Go.undef) ∧ t < a.tmps.size)
    (hK : ∀ sl β' W' w' u, st.s.tmps = (s.put o.dst sl).tmps → sl.rel ρ β' u → Left C B w0 ρ β β' W' H w' s.heap.length st.s.heap.length → K' (a.put o.dst u) w') :
    if Region.wanted o (yielded ops a.tmps) then o.wp P a w K' Q else K' (a.put o.dst Go.undef) w := by
  unfold qstep at hq
  split at hq
  · cases hq
  · rename_i g hgo
    have hw := guard_sound hgo hgd
    split at hq
    · rename_i hno
      obtain rfl := Option.some.inj hq
      have hgf : g.B ρ = false := by
        have := S.holds_B hf (show (X.bl true).B ρ = true from rfl) hno
        rw [xnot] at this
        cases h : g.B ρ
        · rfl
        · rw [h] at this; cases this
      rw [hw, hgf]
      simp only [Bool.false_eq_true, if_false]
      exact hK ⟨.bl true, .undef⟩ β W w Go.undef rfl ⟨fun _ => rfl, fun _ => rfl⟩ (by simp only [put_heap]; exact Left.refl m _)
    · have hgs : (if s.holds (.bl true) g then X.bl true else g).B ρ = g.B ρ := by
        split
        · rename_i h; rw [S.holds_B hf (show (X.bl true).B ρ = true from rfl) h]; rfl
        · rfl
      rw [← hgs] at hw
      generalize (if s.holds (.bl true) g then X.bl true else g) = g1 at hq hgs hw
      simp only at hq
      split at hq
      · rename_i r hr
        obtain rfl := Option.some.inj hq
        have hh' : ∀ d sl, (S.put ((addE s g1 r.add).with ((r.needs.filter fun x => !s.holds g1 x).map (imp g1))) d sl).heap = s.heap ++ (r.add.map (guarded g1)).toList := fun d sl => by
          rw [put_heap]; cases r.add <;> simp [addE, S.with, S.add]
        refine head_qop hC hr hnd m hh (fun e he => ⟨hnew _ _ (Nat.le_refl _) ?_, hnone _ (Nat.le_refl _) ?_⟩) hf hop hw fun β' W' w' u hsl hl => ?_
        · simp only [hh']
          show (s.heap ++ (r.add.map (guarded g1)).toList)[s.heap.length]? = some (guarded g1 e)
          rw [he]; simp
        · simp only [hh']
          show s.heap.length < (s.heap ++ (r.add.map (guarded g1)).toList).length
          rw [he]; simp
        · refine hK ⟨g1, r.v⟩ β' W' w' u ?_ hsl ?_
          · cases r.add <;> exact put_tmps_eq _ _ _ _ rfl
          · have e : (s.heap ++ (r.add.map (guarded g1)).toList).length = s.heap.length + r.add.toList.length := by cases r.add <;> simp
            simp only [hh', e]; exact hl
      · exact head_call hC hΓ hq hnd m hcall hh hnew hnone hf hop hw hK
/-! masked memories -/
theorem maskH_get (fs : List Nat) (l : List HE) (k : Nat) : (maskH fs l)[k]? = (l[k]?).map fun e => if fs.contains k then e else { e with body := .gone } := by
  unfold maskH
  simp only [List.getElem?_map, List.getElem?_zipIdx, Option.map_map, Nat.zero_add]
  rfl
theorem maskH_len (fs : List Nat) (l : List HE) : (maskH fs l).length = l.length := by simp [maskH]
theorem mergeH_get (fs : List Nat) (old new : List HE) (k : Nat) : (mergeH fs old new)[k]? = (new[k]?).map fun n => match old[k]? with
    | some o => if fs.contains k then n else o
    | none => n := by
  unfold mergeH
  simp only [List.getElem?_map, List.getElem?_zipIdx, Option.map_map, Nat.zero_add]
  rfl
theorem mergeH_len (fs : List Nat) (old new : List HE) : (mergeH fs old new).length = new.length := by simp [mergeH]
theorem wrH_mem {old new : List HE} {k : Nat} : k ∈ wrH old new ↔ ∃ n, new[k]? = some n ∧ old[k]? ≠ some n := by
  unfold wrH
  simp only [List.mem_map, List.mem_filter, Bool.not_eq_true', decide_eq_false_iff_not, Prod.exists]
  constructor
  · rintro ⟨n, j, ⟨h1, h2⟩, rfl⟩
    rw [List.mem_zipIdx_iff_getElem?] at h1
    exact ⟨n, by simpa using h1, h2⟩
  · rintro ⟨n, h1, h2⟩
    exact ⟨n, k, ⟨by rw [List.mem_zipIdx_iff_getElem?]; simpa using h1, h2⟩, rfl⟩
theorem wrH_not {old new : List HE} {k : Nat} (hl : old.length ≤ new.length) (h : k ∉ wrH old new) : new[k]? = old[k]? := by
  cases hn : new[k]? with
  | none =>
    have := List.getElem?_eq_none_iff.1 hn
    exact (List.getElem?_eq_none (by omega)).symm
  | some n =>
    by_cases ho : old[k]? = some n
    · exact ho.symm
    · exact absurd (wrH_mem.2 ⟨n, hn, ho⟩) h
/-- what a step leaves as it is -/
structure AShape (s : S) (o : Oper) (st : St) (vks : List VK) (sl : Slot) : Prop where
  len : s.heap.length ≤ st.s.heap.length
  ks : st.s.ks = s.ks ++ vks
  tmps : st.s.tmps = (s.put o.dst sl).tmps
  facts : ∀ x ∈ st.s.facts, x ∈ s.facts ∨ x ∈ st.needs
  lvl : st.s.lvl = s.lvl
  call : ∀ g f aks ks' xs, st.call = some (g, f, aks, ks', xs) → ks' = vks
  nocall : st.call = none → vks = []
theorem spend_len (s : S) (u : Option Nat) : (s.spend u).heap.length = s.heap.length := by cases u <;> simp [S.spend, S.setBody, setF_eq]
theorem estep_op {s : S} {o : Oper} {nd : List X} {s' : S} (hq : estep C s o = some (nd, s')) : (∃ t p x, o.op = .store t p x) ∨ ∃ c, o.op = .call c := by
  unfold estep at hq
  split at hq
  · cases hq
  · split at hq
    · rename_i h; exact .inl ⟨_, _, _, h⟩
    · rename_i h; exact .inr ⟨_, h⟩
    · cases hq
theorem storeAt_eq {s s' : S} {b : SB} {sz : Nat} {i : X} {f : Nat} {vs : List Sc} {nd : List X} (h : s.storeAt b sz i f vs = some (nd, s')) : ∃ k bd, s' = s.setBody k bd := by
  unfold S.storeAt at h
  split at h
  · split at h
    · simp only [Option.map_eq_some_iff] at h
      obtain ⟨x, _, hx⟩ := h
      obtain ⟨_, rfl⟩ := Prod.mk.inj hx
      exact ⟨_, _, rfl⟩
    · cases h
  · cases h
theorem appendAt_eq {s s' : S} {t : TypeId} {x y v : Sc} {nd : List X} (h : appendAt C s t x y = some (nd, v, s')) : ∃ u e, s' = (s.spend u).add e := by
  unfold appendAt at h
  split at h
  · split at h
    · split at h
      · obtain ⟨_, h2⟩ := Prod.mk.inj (Option.some.inj h)
        obtain ⟨_, rfl⟩ := Prod.mk.inj h2
        exact ⟨_, _, rfl⟩
      · cases h
    · cases h
  · unfold appendC at h
    split at h
    · split at h
      · split at h
        · obtain ⟨_, h2⟩ := Prod.mk.inj (Option.some.inj h)
          obtain ⟨_, rfl⟩ := Prod.mk.inj h2
          exact ⟨none, _, rfl⟩
        · cases h
      · cases h
    · cases h
  · cases h
theorem estep_eq {s : S} {o : Oper} {nd : List X} {s' : S} (hq : estep C s o = some (nd, s')) : ∃ s1 sl, s' = S.put s1 o.dst sl ∧ (((∃ t p x, o.op = .store t p x) ∧ ∃ k bd, s1 = s.setBody k bd) ∨ ((∃ c, o.op = .call c) ∧ ∃ u e, s1 = (s.spend u).add e)) := by
  unfold estep at hq
  split at hq
  · cases hq
  · split at hq
    · rename_i hop
      split at hq
      · split at hq
        · split at hq
          · rename_i nd' s1 hs
            obtain ⟨_, rfl⟩ := Prod.mk.inj (Option.some.inj hq)
            exact ⟨_, _, rfl, .inl ⟨⟨_, _, _, hop⟩, storeAt_eq hs⟩⟩
          · cases hq
        · cases hq
      · cases hq
    · rename_i hop
      split at hq
      · split at hq
        · split at hq
          · split at hq
            · rename_i nd' v s1 hs
              obtain ⟨_, rfl⟩ := Prod.mk.inj (Option.some.inj hq)
              exact ⟨_, _, rfl, .inr ⟨⟨_, hop⟩, appendAt_eq hs⟩⟩
            · cases hq
          · cases hq
        · cases hq
      · cases hq
    · cases hq
theorem any_shape {s : S} {ops : Array Oper} {o : Oper} {fs : List Nat} {st : St} {fs0 : List Nat} (h : anyF C s ops o fs0 = some (fs, st)) : ∃ ks sl, AShape s o st ks sl := by
  unfold anyF at h
  simp only at h
  split at h
  · rename_i st0 hq
    obtain ⟨_, rfl⟩ := Prod.mk.inj (Option.some.inj h)
    obtain ⟨es, ks, sl, sh⟩ := qstep_shape hq
    have hl : st0.s.heap.length = s.heap.length + es.length := by rw [sh.heap]; simp [maskH_len]
    exact ⟨ks, sl, by simp [mergeH_len, hl], sh.ks, by rw [sh.tmps]; exact put_tmps_eq _ _ _ _ rfl, sh.facts, sh.lvl, sh.call, sh.nocall⟩
  · split at h
    · rename_i nd s' hq
      obtain ⟨_, rfl⟩ := Prod.mk.inj (Option.some.inj h)
      obtain ⟨s1, sl, rfl, h1⟩ := estep_eq hq
      refine ⟨[], sl, ?_, ?_, ?_, fun x hx => ?_, ?_, fun _ _ _ _ _ h => (by cases h), fun _ => rfl⟩
      · simp only [mergeH_len, put_heap]
        rcases h1 with ⟨_, k, bd, rfl⟩ | ⟨_, u, e, rfl⟩
        · simp [S.setBody, setF_eq, maskH_len]
        · simp [S.add, spend_len, maskH_len]
      · simp only [S.with, put_ks, List.append_nil]
        rcases h1 with ⟨_, k, bd, rfl⟩ | ⟨_, u, e, rfl⟩
        · rfl
        · cases u <;> rfl
      · simp only [S.with]
        refine put_tmps_eq _ _ _ _ ?_
        rcases h1 with ⟨_, k, bd, rfl⟩ | ⟨_, u, e, rfl⟩
        · rfl
        · cases u <;> rfl
      · simp only [S.with, forceL_eq, List.mem_append, put_facts] at hx
        rcases hx with hx | hx
        · exact .inr hx
        · left
          rcases h1 with ⟨_, k, bd, rfl⟩ | ⟨_, u, e, rfl⟩
          · exact hx
          · cases u <;> exact hx
      · simp only [S.with, put_lvl]
        rcases h1 with ⟨_, k, bd, rfl⟩ | ⟨_, u, e, rfl⟩
        · rfl
        · cases u <;> rfl
    · cases h
/-- one operation, wherever it comes -/
theorem any_step (hC : C.Ok P) (hΓ : ConsOk P C Γ B w0) {s : S} {a : Act} {ops : Array Oper} {o : Oper} {K' : Act → World → Prop} {Q : Exit → Act → World → Prop} {fs : List Nat} {st : St} {H : Nat → Option HE} (hq : anyF C s ops o fs = some (fs, st)) (hnd : ∀ x ∈ st.needs, x.B ρ = true) (m : PMem C B w0 ρ β W H w)
    (hcall : ∀ g f aks ks xs, st.call = some (g, f, aks, ks, xs) → (g.B ρ = true → (Γ f).pre (fixL aks (xs.map (X.den ρ)))) ∧ Piece ρ s.ks.length (fixL ks ((Γ f).out (fixL aks (xs.map (X.den ρ))))))
    (hfs : ∀ k, k ∈ fs → k < s.heap.length → H k = s.heap[k]?) (hnone : ∀ k, s.heap.length ≤ k → k < st.s.heap.length → β k = none) (hf : s.factsOk ρ)
    (hop : ∀ x ∈ o.op.operands.toList, OpdOk ρ β s a x)
    (hgd : ∀ j b t, o.guard = some (j, b) → (ops[j]?).bind (·.dst) = some t → ∀ sl, s.tmps[t]? = some (some sl) → sl.rel ρ β (a.tmps.getD t Go.undef) ∧ t < a.tmps.size)
    (hK : ∀ sl β' W' w' u, st.s.tmps = (s.put o.dst sl).tmps → sl.rel ρ β' u → PMem C B w0 ρ β' W' (fun k => if k ∈ wrH s.heap st.s.heap then st.s.heap[k]? else H k) w' → Ext β β' → (∀ k, (k < s.heap.length ∨ st.s.heap.length ≤ k) → β k = none → β' k = none) → (∀ k, s.heap.length ≤ k → k < st.s.heap.length → ∃ b, β' k = some b) → K' (a.put o.dst u) w') :
    if Region.wanted o (yielded ops a.tmps) then o.wp P a w K' Q else K' (a.put o.dst Go.undef) w := by
  unfold anyF at hq
  simp only at hq
  generalize hM : ({ s with heap := maskH fs s.heap } : S) = M at hq
  have hMl : M.heap.length = s.heap.length := by rw [← hM]; simp [maskH_len]
  have hMg : ∀ k e, M.heap[k]? = some e → e.body ≠ .gone → k ∈ fs ∧ s.heap[k]? = some e := fun k e hk he => by
    rw [← hM] at hk
    simp only [maskH_get, Option.map_eq_some_iff] at hk
    obtain ⟨e0, h0, rfl⟩ := hk
    by_cases hc : fs.contains k = true
    · rw [if_pos hc] at he ⊢
      exact ⟨List.contains_iff_mem.1 hc, h0⟩
    · rw [if_neg hc] at he
      exact absurd rfl he
  have hh : ∀ k e b, M.heap[k]? = some e → β k = some b → EOk ρ β W w b e := fun k e b hk hb => by
    by_cases he : e.body = .gone
    · exact EOk_gone he
    · obtain ⟨h1, h2⟩ := hMg k e hk he
      have hlt := (List.getElem?_eq_some_iff.1 h2).1
      exact m.heap k e b (by rw [hfs k h1 hlt]; exact h2) hb
  have hfM : M.factsOk ρ := by rw [← hM]; exact hf
  have hopM : ∀ x ∈ o.op.operands.toList, OpdOk ρ β M a x := by rw [← hM]; exact hop
  have hgdM : ∀ j b t, o.guard = some (j, b) → (ops[j]?).bind (·.dst) = some t → ∀ sl, M.tmps[t]? = some (some sl) → sl.rel ρ β (a.tmps.getD t Go.undef) ∧ t < a.tmps.size := by rw [← hM]; exact hgd
  split at hq
  · -- old memory stays
    rename_i st0 hq0
    obtain ⟨_, rfl⟩ := Prod.mk.inj (Option.some.inj hq)
    simp only at hnd hcall hnone hK
    obtain ⟨es, ks0, sl0, sh⟩ := qstep_shape hq0
    rw [mergeH_len] at hnone hK
    have hl : st0.s.heap.length = s.heap.length + es.length := by rw [sh.heap]; simp [hMl]
    have hmg : ∀ k, s.heap.length ≤ k → (mergeH fs s.heap st0.s.heap)[k]? = st0.s.heap[k]? := fun k hk => by
      rw [mergeH_get, List.getElem?_eq_none hk]; cases st0.s.heap[k]? <;> rfl
    have hm2 : PMem C B w0 ρ β W (fun k => if s.heap.length ≤ k ∧ k < st0.s.heap.length then st0.s.heap[k]? else H k) w := m.congr fun k b hb => if_neg fun hc => by rw [hnone k hc.1 hc.2] at hb; cases hb
    refine head_step hC hΓ hq0 hnd hm2 (by rw [show M.ks = s.ks by rw [← hM]]; exact hcall) hh (fun k e hk he => ?_) (by rw [hMl]; exact hnone) hfM hopM hgdM fun sl β' W' w' u htm hrel hl' => ?_
    · rw [hMl] at hk
      rw [if_pos ⟨hk, (List.getElem?_eq_some_iff.1 he).1⟩]; exact he
    · rw [hMl] at hl'
      refine hK sl β' W' w' u (by rw [htm]; exact put_tmps_eq _ _ _ _ (by rw [← hM])) hrel (hl'.toPMem.congr fun k b hb => ?_) hl'.ext (fun k hk h => by rw [hl'.same k hk]; exact h) hl'.new
      by_cases hk : s.heap.length ≤ k ∧ k < st0.s.heap.length
      · rw [if_pos hk, if_pos (wrH_mem.2 ⟨st0.s.heap[k], by rw [hmg k hk.1]; exact List.getElem?_eq_getElem hk.2, by rw [List.getElem?_eq_none hk.1]; simp⟩), hmg k hk.1]
      · rw [if_neg hk]
        have hnw : k ∉ wrH s.heap (mergeH fs s.heap st0.s.heap) := fun hw => by
          obtain ⟨n, h1, h2⟩ := wrH_mem.1 hw
          have hk2 : k < st0.s.heap.length := by have := (List.getElem?_eq_some_iff.1 h1).1; rwa [mergeH_len] at this
          have hk3 : k < s.heap.length := by omega
          rw [mergeH_get, sh.heap, List.getElem?_append_left (by omega), ← hM] at h1
          simp only [maskH_get, List.getElem?_eq_getElem hk3, Option.map_some] at h1
          obtain rfl := Option.some.inj h1
          apply h2
          rw [List.getElem?_eq_getElem hk3]
          by_cases hc : fs.contains k = true
          · rw [if_pos hc, if_pos hc]
          · rw [if_neg hc]
        rw [if_neg hnw]
  · split at hq
    · rename_i nd s' hq0
      obtain ⟨_, rfl⟩ := Prod.mk.inj (Option.some.inj hq)
      simp only at hnd hnone hK
      have hnd' : ∀ x ∈ nd, x.B ρ = true := fun x hx => by
        by_cases hc : s.holds (.bl true) x = true
        · exact S.holds_B hf rfl hc
        · exact hnd x (List.mem_filter.2 ⟨hx, by simpa using hc⟩)
      rw [mergeH_len] at hnone hK
      have hmo : ∀ k, k < s.heap.length → k ∉ fs → k < s'.heap.length → (mergeH fs s.heap s'.heap)[k]? = s.heap[k]? := fun k hk hkf hk2 => by
        rw [mergeH_get, List.getElem?_eq_getElem hk, List.getElem?_eq_getElem hk2, Option.map_some]
        simp only
        rw [if_neg (fun h => hkf (List.contains_iff_mem.1 h))]
      have hmf : ∀ k, (k ∈ fs ∨ s.heap.length ≤ k) → (mergeH fs s.heap s'.heap)[k]? = s'.heap[k]? := fun k hk => by
        rw [mergeH_get]
        cases hs : s'.heap[k]? with
        | none => rfl
        | some n =>
          simp only [Option.map_some]
          cases ho : s.heap[k]? with
          | none => rfl
          | some o =>
            simp only
            rcases hk with hk | hk
            · rw [if_pos (List.contains_iff_mem.2 hk)]
            · rw [List.getElem?_eq_none hk] at ho; cases ho
      -- how the memory behind the step reads in the merged heap
      have fin : ∀ k (x : Option HE), k < s.heap.length → k ∈ fs → s'.heap[k]? = x → (if k ∈ wrH s.heap (mergeH fs s.heap s'.heap) then (mergeH fs s.heap s'.heap)[k]? else H k) = x := fun k x hk hkf hx => by
        by_cases hw : k ∈ wrH s.heap (mergeH fs s.heap s'.heap)
        · rw [if_pos hw, hmf k (.inl hkf)]; exact hx
        · rw [if_neg hw, hfs k hkf hk]
          cases hs : s'.heap[k]? with
          | none =>
            rw [hs] at hx
            rw [← hx]
            exfalso
            have := List.getElem?_eq_none_iff.1 hs
            have hle : s.heap.length ≤ s'.heap.length := by
              obtain ⟨s1, sl, rfl, h1⟩ := estep_eq hq0
              rw [put_heap]
              rcases h1 with ⟨_, k, bd, rfl⟩ | ⟨_, u, e, rfl⟩
              · simp [S.setBody, setF_eq, hMl]
              · simp [S.add, spend_len, hMl]
            omega
          | some n =>
            rw [hs] at hx
            rw [← hx]
            by_cases ho : s.heap[k]? = some n
            · exact ho
            · exact absurd (wrH_mem.2 ⟨n, by rw [hmf k (.inl hkf)]; exact hs, ho⟩) hw
      have fin2 : ∀ k, k < s.heap.length → (k ∉ fs ∨ s'.heap[k]? = M.heap[k]?) → k < s'.heap.length → (if k ∈ wrH s.heap (mergeH fs s.heap s'.heap) then (mergeH fs s.heap s'.heap)[k]? else H k) = H k := fun k hk hkf hk2 => by
        refine if_neg fun hw => ?_
        obtain ⟨n, h1, h2⟩ := wrH_mem.1 hw
        by_cases hkf2 : k ∈ fs
        · rcases hkf with hkf | hkf
          · exact hkf hkf2
          · rw [hmf k (.inl hkf2), hkf, ← hM] at h1
            simp only [maskH_get, List.getElem?_eq_getElem hk, Option.map_some] at h1
            rw [if_pos (List.contains_iff_mem.2 hkf2)] at h1
            rw [List.getElem?_eq_getElem hk] at h2
            exact h2 h1
        · rw [hmo k hk hkf2 hk2] at h1; exact h2 h1
      rcases estep_op hq0 with ⟨t, p, x, ho⟩ | ⟨cl, ho⟩
      · obtain ⟨hw, w', k0, bd, hrun, rfl, ⟨e0, he0, hg0⟩, hm⟩ := store_any (ops := ops) hC ho hq0 m hfM hh hopM hnd'
        rw [hw]
        simp only [if_true]
        unfold Oper.wp
        rw [hrun, Oper.upon_skip]
        obtain ⟨hk0f, hk0⟩ := hMg k0 e0 he0 hg0
        have hk0l := (List.getElem?_eq_some_iff.1 hk0).1
        simp only [put_heap] at hK fin fin2
        have hsl : (M.setBody k0 bd).heap.length = s.heap.length := by simp [S.setBody, setF_eq, hMl]
        refine hK ⟨.bl true, .undef⟩ β W w' Go.undef (put_tmps_eq _ _ _ _ (by rw [← hM]; rfl)) ⟨fun _ => rfl, fun _ => rfl⟩ (hm.congr fun k b hb => ?_) (Ext.refl _) (fun _ _ h => h) (fun k h1 h2 => by omega)
        by_cases hk : k = k0
        · subst hk
          rw [if_pos rfl]
          exact fin k _ hk0l hk0f (by simp [S.setBody, setF_eq, List.getElem?_set, hMl, hk0l])
        · rw [if_neg hk]
          rcases Nat.lt_or_ge k s.heap.length with hlt | hge
          · exact fin2 k hlt (.inr (by simp only [S.setBody, setF_eq, List.getElem?_set]; rw [if_neg (fun h => hk h.symm)])) (by omega)
          · refine if_neg fun hw => ?_
            obtain ⟨n, h1, _⟩ := wrH_mem.1 hw
            have := (List.getElem?_eq_some_iff.1 h1).1
            rw [mergeH_len] at this
            omega
      · have hMn : β M.heap.length = none := by
          obtain ⟨s1, sl, hs1, h1⟩ := estep_eq hq0
          refine hnone _ (by omega) ?_
          rcases h1 with ⟨⟨_, _, _, hst⟩, _⟩ | ⟨_, u, e, rfl⟩
          · rw [ho] at hst; cases hst
          · rw [hs1, put_heap]; simp [S.add, spend_len]
        obtain ⟨hw, u, w', β', W', used, e, sl, hrun, rfl, hsl, hus, hm, hx, hnn, hb⟩ := append_any (ops := ops) hC ho hq0 m hfM hh hMn hopM hnd'
        rw [hw]
        simp only [if_true]
        unfold Oper.wp
        rw [hrun, Oper.upon_value]
        rw [hMl] at hm hnn hb
        simp only [put_heap] at hK fin fin2 hmf
        have hsl' : ((M.spend used).add e).heap.length = s.heap.length + 1 := by simp [S.add, spend_len, hMl]
        have hget : ∀ k, k < s.heap.length → ((M.spend used).add e).heap[k]? = if used = some k then some (ent true .gone) else M.heap[k]? := fun k hk => by
          simp only [S.add]
          rw [List.getElem?_append_left (by rw [spend_len]; omega)]
          cases used with
          | none => rw [if_neg (fun h => by cases h)]; rfl
          | some j =>
            simp only [S.spend, S.setBody, setF_eq, List.getElem?_set]
            by_cases h : j = k
            · subst h; simp [hMl, hk]
            · rw [if_neg h, if_neg (fun h' => h (Option.some.inj h'))]
        refine hK sl β' W' w' u (put_tmps_eq _ _ _ _ (by rw [← hM]; cases used <;> rfl)) hsl (hm.congr fun k b hb' => ?_) hx (fun k hk h => hnn k (fun h' => by rw [h', hsl'] at hk; omega) h) (fun k h1 h2 => by
          have : k = s.heap.length := by omega
          rw [this]; exact hb)
        rcases Nat.lt_trichotomy k s.heap.length with hlt | heq | hgt
        · by_cases hu : used = some k
          · have e1 : appH s.heap.length used e H k = some (ent true .gone) := by unfold appH; rw [if_neg (by omega), if_pos hu]
            obtain ⟨e0, he0, hg0⟩ := hus k hu
            rw [e1]
            exact fin k _ hlt (hMg k e0 he0 hg0).1 (by rw [hget k hlt, if_pos hu])
          · have e1 : appH s.heap.length used e H k = H k := by unfold appH; rw [if_neg (by omega), if_neg hu]
            rw [e1]
            exact fin2 k hlt (.inr (by rw [hget k hlt, if_neg hu])) (by omega)
        · have e1 : appH s.heap.length used e H k = some e := by unfold appH; rw [if_pos heq]
          rw [e1]
          have h1 : (mergeH fs s.heap ((M.spend used).add e).heap)[k]? = some e := by
            rw [hmf _ (.inr (by omega)), heq]
            simp [S.add, spend_len, ← hMl]
          rw [if_pos (wrH_mem.2 ⟨e, h1, by rw [List.getElem?_eq_none (by omega)]; simp⟩)]
          exact h1
        · have e1 : appH s.heap.length used e H k = H k := by
            unfold appH
            rw [if_neg (by omega), if_neg (fun hu => by
              obtain ⟨e0, he0, _⟩ := hus k hu
              have := (List.getElem?_eq_some_iff.1 he0).1
              omega)]
          rw [e1]
          refine if_neg fun hw => ?_
          obtain ⟨n, h1, _⟩ := wrH_mem.1 hw
          have := (List.getElem?_eq_some_iff.1 h1).1
          rw [mergeH_len] at this
          omega
    · cases hq
theorem anyF_fs {s : S} {ops : Array Oper} {o : Oper} {fs fs' : List Nat} {st : St} (hq : anyF C s ops o fs = some (fs', st)) : fs' = fs := by
  unfold anyF at hq
  simp only at hq
  split at hq
  · exact (Prod.mk.inj (Option.some.inj hq)).1.symm
  · split at hq
    · exact (Prod.mk.inj (Option.some.inj hq)).1.symm
    · cases hq
theorem maskH_all {fs : List Nat} {l : List HE} (h : ∀ k, k < l.length → k ∈ fs) : maskH fs l = l := by
  apply List.ext_getElem?
  intro k
  rw [maskH_get]
  rcases Nat.lt_or_ge k l.length with hk | hk
  · rw [List.getElem?_eq_getElem hk, Option.map_some, if_pos (List.contains_iff_mem.2 (h k hk))]
  · rw [List.getElem?_eq_none hk]; rfl
theorem mergeH_all {fs : List Nat} {l new : List HE} (h : ∀ k, k < l.length → k ∈ fs) : mergeH fs l new = new := by
  apply List.ext_getElem?
  intro k
  rw [mergeH_get]
  cases hn : new[k]? with
  | none => rfl
  | some n =>
    rw [Option.map_some]
    split
    · rename_i o ho
      rw [if_pos (List.contains_iff_mem.2 (h k (List.getElem?_eq_some_iff.1 ho).1))]
    · rfl
/-- a step that writes, with everything in sight -/
theorem anyF_all {s s' : S} {ops : Array Oper} {o : Oper} {fs : List Nat} {nd : List X} (h : ∀ k, k < s.heap.length → k ∈ fs) (hq : qstep C s ops o = none) (he : estep C s o = some (nd, s')) :
    anyF C s ops o fs = some (fs, ⟨nd.filter fun x => !s.holds (.bl true) x, none, s'.with (nd.filter fun x => !s.holds (.bl true) x)⟩) := by
  unfold anyF
  have e : ({ s with heap := maskH fs s.heap } : S) = s := by rw [maskH_all h]
  simp only [e, hq, he, mergeH_all h]
  rfl
theorem clo_den {n : Nat} {x : X} (h : cloB n x = true) (hn : n ≤ ρ.length) (δ : List AV) : x.den (ρ ++ δ) = x.den ρ := by
  have h : x.sub n .var = some x := by simpa [cloB] using h
  exact X.sub_den (ρ' := ρ ++ δ) (ρ := ρ) (fun k hk => by
    have : k < ρ.length := by omega
    simp [X.den, List.getD_eq_getElem?_getD, List.getElem?_append_left this]) h
end
end Go.Proofs.Ytiiabaklipmbbaa.Vc
