/- The symbolic executor: a head in whatever order, carried through. -/
import Derived.Test.YtiiabaklipmbbaaVo
namespace Go.Proofs.Ytiiabaklipmbbaa.Vc
noncomputable section
open Go Go.RowKit
variable {ρ ρ' : List AV} {β β' : Mp} {W W' : Nat → Prop} {w w' : World} {P : Program} {C : Cfg} {B : Nat} {w0 : World}
variable {Γ : FuncId → Con} {Qd : List AV → Prop} {ctx : List (List AV → Prop)}
def unl (l : Array Bool) : Nat → Nat
  | 0 => 0
  | n + 1 => unl l n + (if l.getD n true = true then 0 else 1)
theorem unl_zero {l : Array Bool} : ∀ {n : Nat}, unl l n = 0 → ∀ i, i < n → l.getD i true = true
  | 0, _, i, h => by omega
  | n + 1, h, i, hi => by
    simp only [unl] at h
    rcases Nat.lt_or_ge i n with h1 | h1
    · exact unl_zero (by omega) i h1
    · obtain rfl : i = n := by omega
      cases hc : l.getD i true with
      | true => rfl
      | false => rw [hc] at h; simp at h
theorem unl_set {l : Array Bool} {i : Nat} (hf : l.getD i true = false) : ∀ {n : Nat}, unl (l.setIfInBounds i true) n + (if i < n then 1 else 0) = unl l n
  | 0 => by simp [unl]
  | n + 1 => by
    have ih := unl_set hf (n := n)
    have hs : i < l.size := by
      rcases Nat.lt_or_ge i l.size with h | h
      · exact h
      · rw [Array.getD_eq_getD_getElem?, Array.getElem?_eq_none h] at hf; cases hf
    have e := set_getD l i n true
    simp only [unl]
    rw [e]
    by_cases hn : n = i
    · subst hn
      have h1 : (if n = n ∧ n < l.size then true else l.getD n true) = true := if_pos ⟨rfl, hs⟩
      rw [if_neg (Nat.lt_irrefl n)] at ih
      rw [h1, hf]
      simp
      omega
    · have h1 : (if n = i ∧ i < l.size then true else l.getD n true) = l.getD n true := if_neg (fun h => hn h.1)
      rw [h1]
      by_cases h2 : i < n
      · rw [if_pos h2] at ih; rw [if_pos (show i < n + 1 by omega)]; omega
      · rw [if_neg h2] at ih; rw [if_neg (show ¬ i < n + 1 by omega)]; omega

/-! the states between the operations, in the order of the text -/
def stAt : S → List (List Nat × St) → Nat → S
  | s, _, 0 => s
  | _, x :: L, i + 1 => stAt x.2.s L i
  | s, [], _ + 1 => s
theorem headRun_get {ops : Array Oper} : ∀ {l : List Oper} {s : S} {L : List (List Nat × St)}, headRun C ops l s = some L → L.length = l.length ∧ ∀ (i : Nat) o, l[i]? = some o → ∃ x, L[i]? = some x ∧ anyStep C (stAt s L i) ops o = some x ∧ x.2.s = stAt s L (i + 1)
  | [], s, L, h => by
    simp only [headRun] at h
    obtain rfl := Option.some.inj h
    exact ⟨rfl, fun i o h => by simp at h⟩
  | o :: l, s, L, h => by
    simp only [headRun] at h
    split at h
    · cases h
    · rename_i x hx
      split at h
      · cases h
      · rename_i L' hL
        obtain rfl := Option.some.inj h
        obtain ⟨h1, h2⟩ := headRun_get hL
        refine ⟨by simp [h1], fun i o' ho => ?_⟩
        cases i with
        | zero =>
          simp at ho; subst ho
          exact ⟨x, rfl, hx, by cases L' <;> rfl⟩
        | succ i => simpa [stAt] using h2 i o' (by simpa using ho)
theorem infos_get {ops : Array Oper} : ∀ {l : List Oper} {s : S} {L : List (List Nat × St)} (i : Nat) o x, l[i]? = some o → L[i]? = some x → (infosOf ops l s L)[i]? = some ⟨x.1, wrH (stAt s L i).heap x.2.s.heap, usesOf ops o, o.dst⟩
  | [], s, L, i, o, x, h, _ => by simp at h
  | o0 :: l, s, [], i, o, x, _, h => by simp at h
  | o0 :: l, s, x0 :: L, 0, o, x, h, h' => by simp at h h'; subst h h'; rfl
  | o0 :: l, s, x0 :: L, i + 1, o, x, h, h' => by simpa [infosOf, stAt] using infos_get (l := l) (s := x0.2.s) (L := L) i o x (by simpa using h) (by simpa using h')
/-- one operation waits for another, directly or through others -/
inductive Bef (l : List Oper) : Nat → Nat → Prop
  | one {j : Nat} {o : Oper} {e : Edge} : l[j]? = some o → e ∈ o.after → Region.binds .any e = true → Bef l e.on j
  | step {i j : Nat} {o : Oper} {e : Edge} : l[j]? = some o → e ∈ o.after → Region.binds .any e = true → Bef l i e.on → Bef l i j
theorem mem_addP {x : Nat} : ∀ {l acc : List Nat}, x ∈ addP acc l → x ∈ acc ∨ x ∈ l
  | [], _, h => .inl h
  | y :: l, acc, h => by
    unfold addP at h
    split at h
    · rcases mem_addP h with h | h
      · exact .inl h
      · exact .inr (List.mem_cons_of_mem _ h)
    · rcases mem_addP h with h | h
      · rcases List.mem_cons.1 h with rfl | h
        · exact .inr (List.mem_cons_self ..)
        · exact .inl h
      · exact .inr (List.mem_cons_of_mem _ h)
theorem mem_predsOne {x : Nat} {acc : List (List Nat)} : ∀ {l : List Edge} {p : List Nat}, x ∈ predsOne acc l p → x ∈ p ∨ ∃ e ∈ l, Region.binds .any e = true ∧ (x = e.on ∨ x ∈ (acc[e.on]?).getD [])
  | [], _, h => .inl h
  | e :: l, p, h => by
    unfold predsOne at h
    split at h
    · rename_i hb
      split at h
      · rcases mem_predsOne h with h | ⟨e', he, h⟩
        · exact .inl h
        · exact .inr ⟨e', List.mem_cons_of_mem _ he, h⟩
      · rcases mem_predsOne h with h | ⟨e', he, h⟩
        · rcases mem_addP h with h | h
          · rcases List.mem_cons.1 h with h | h
            · exact .inr ⟨e, List.mem_cons_self .., hb, .inl h⟩
            · exact .inl h
          · exact .inr ⟨e, List.mem_cons_self .., hb, .inr h⟩
        · exact .inr ⟨e', List.mem_cons_of_mem _ he, h⟩
    · rcases mem_predsOne h with h | ⟨e', he, h⟩
      · exact .inl h
      · exact .inr ⟨e', List.mem_cons_of_mem _ he, h⟩
theorem preds_bef (l0 : List Oper) : ∀ (l : List Oper) (acc : List (List Nat)), (∀ k, l[k]? = l0[acc.length + k]?) → (∀ j p, acc[j]? = some p → ∀ x ∈ p, Bef l0 x j) → ∀ j p, (predsOf acc l)[j]? = some p → ∀ x ∈ p, Bef l0 x j
  | [], acc, _, h, j, p, hp, x, hx => h j p hp x hx
  | o :: l, acc, hl, h, j, p, hp, x, hx => by
    have ho : l0[acc.length]? = some o := by simpa using (hl 0).symm
    refine preds_bef l0 l _ (fun k => ?_) (fun j p hp x hx => ?_) j p hp x hx
    · have := hl (k + 1)
      simpa [Nat.add_assoc, Nat.add_comm 1 k] using this
    · rw [List.getElem?_append] at hp
      split at hp
      · exact h j p hp x hx
      · rename_i hge
        have hj : j = acc.length := by
          have := (List.getElem?_eq_some_iff.1 hp).1
          simp at this; omega
        subst hj
        simp only [Nat.sub_self, List.getElem?_cons_zero, Option.some.injEq] at hp
        subst hp
        rcases mem_predsOne hx with hx | ⟨e, he, hb, hx⟩
        · cases hx
        · have he : e ∈ o.after := by simpa using he
          rcases hx with rfl | hx
          · exact .one ho he hb
          · cases hq : acc[e.on]? with
            | none => simp [hq] at hx
            | some q =>
              rw [hq] at hx
              exact .step ho he hb (h _ q hq x hx)
theorem order_bef {l : List Oper} {is : List Info} (h : orderB (predsOf [] l) is = true) {i j : Nat} {a b : Info} (hij : i < j) (ha : is[i]? = some a) (hb : is[j]? = some b) (hc : clash a b = true) : Bef l i j := by
  unfold orderB at h
  have z : ∀ (i : Nat) (o : Info), is[i]? = some o → (o, i) ∈ is.zipIdx := fun i o ho => by
    rw [List.mem_zipIdx_iff_getElem?]; simpa using ho
  simp only [List.all_eq_true, Bool.or_eq_true, Bool.not_eq_true', Bool.and_eq_false_iff, decide_eq_false_iff_not] at h
  have h1 := h _ (z j b hb) _ (z i a ha)
  rcases h1 with (h1 | h1) | h1
  · exact absurd hij h1
  · rw [hc] at h1; cases h1
  · simp only at h1
    cases hp : (predsOf [] l)[j]? with
    | none => rw [hp] at h1; simp at h1
    | some p =>
      rw [hp] at h1
      exact preds_bef l l [] (by simp) (fun j p h => by simp at h) j p hp i (List.contains_iff_mem.1 h1)
/-- the last operation listed that p holds of, counted from 1 -/
def lastW (p : Nat → Bool) (l : Array Bool) : Nat → Nat
  | 0 => 0
  | n + 1 => if (l.getD n true && p n) = true then n + 1 else lastW p l n
theorem lastW_spec (p : Nat → Bool) (l : Array Bool) : ∀ n, lastW p l n ≤ n ∧ (∀ j, lastW p l n ≤ j → j < n → l.getD j true = true → p j = false) ∧ (lastW p l n = 0 ∨ ∃ v, lastW p l n = v + 1 ∧ l.getD v true = true ∧ p v = true)
  | 0 => ⟨Nat.le_refl _, fun j _ h => by omega, .inl rfl⟩
  | n + 1 => by
    obtain ⟨h1, h2, h3⟩ := lastW_spec p l n
    unfold lastW
    split
    · rename_i hc
      simp only [Bool.and_eq_true] at hc
      exact ⟨Nat.le_refl _, fun j ha hb => by omega, .inr ⟨n, rfl, hc.1, hc.2⟩⟩
    · rename_i hc
      refine ⟨by omega, fun j ha hb hl => ?_, h3⟩
      by_cases hj : j = n
      · subst hj
        cases hp : p j
        · rfl
        · rw [hl, hp] at hc; exact absurd rfl hc
      · exact h2 j ha (by omega) hl
theorem lastW_eq {p : Nat → Bool} {l : Array Bool} {n v : Nat} (hv : v ≤ n) (h1 : ∀ j, v ≤ j → j < n → l.getD j true = true → p j = false) (h2 : v = 0 ∨ ∃ u, v = u + 1 ∧ l.getD u true = true ∧ p u = true) : lastW p l n = v := by
  obtain ⟨a1, a2, a3⟩ := lastW_spec p l n
  rcases Nat.lt_trichotomy (lastW p l n) v with h | h | h
  · rcases h2 with rfl | ⟨u, rfl, b1, b2⟩
    · omega
    · have := a2 u (by omega) (by omega) b1
      rw [b2] at this; cases this
  · exact h
  · rcases a3 with h0 | ⟨u, hu, b1, b2⟩
    · omega
    · have := h1 u (by omega) (by omega) b1
      rw [b2] at this; cases this
/-- a step that looks only -/
def Look (C : Cfg) (ops : Array Oper) (s : S) (o : Oper) (fs : List Nat) (st : St) : Prop := qstep C s ops o = some st ∧ st.call = none ∧ st.s.heap = s.heap ∧ ∀ k, k < s.heap.length → k ∈ fs
theorem step_shape {s : S} {ops : Array Oper} {o : Oper} {fs : List Nat} {st : St} (h : anyF C s ops o fs = some (fs, st) ∨ Look C ops s o fs st) : ∃ ks sl, AShape s o st ks sl := by
  rcases h with h | ⟨h, hc, hh, _⟩
  · exact any_shape h
  · obtain ⟨es, ks, sl, sh⟩ := qstep_shape h
    exact ⟨ks, sl, by rw [hh]; exact Nat.le_refl _, sh.ks, sh.tmps, sh.facts, sh.lvl, sh.call, sh.nocall⟩
theorem some_step (hC : C.Ok P) (hΓ : ConsOk P C Γ B w0) {s : S} {a : Act} {ops : Array Oper} {o : Oper} {K' : Act → World → Prop} {Q : Exit → Act → World → Prop} {fs : List Nat} {st : St} {H : Nat → Option HE} (hq : anyF C s ops o fs = some (fs, st) ∨ Look C ops s o fs st) (hnd : ∀ x ∈ st.needs, x.B ρ = true) (m : PMem C B w0 ρ β W H w)
    (hcall : ∀ g f aks ks xs, st.call = some (g, f, aks, ks, xs) → (g.B ρ = true → (Γ f).pre (fixL aks (xs.map (X.den ρ)))) ∧ Piece ρ s.ks.length (fixL ks ((Γ f).out (fixL aks (xs.map (X.den ρ))))))
    (hfs : ∀ k, k ∈ fs → k < s.heap.length → H k = s.heap[k]?) (hnone : ∀ k, s.heap.length ≤ k → k < st.s.heap.length → β k = none) (hf : s.factsOk ρ)
    (hop : ∀ x ∈ o.op.operands.toList, OpdOk ρ β s a x)
    (hgd : ∀ j b t, o.guard = some (j, b) → (ops[j]?).bind (·.dst) = some t → ∀ sl, s.tmps[t]? = some (some sl) → sl.rel ρ β (a.tmps.getD t Go.undef) ∧ t < a.tmps.size)
    (hK : ∀ sl β' W' w' u, st.s.tmps = (s.put o.dst sl).tmps → sl.rel ρ β' u → PMem C B w0 ρ β' W' (fun k => if k ∈ wrH s.heap st.s.heap then st.s.heap[k]? else H k) w' → Ext β β' → (∀ k, (k < s.heap.length ∨ st.s.heap.length ≤ k) → β k = none → β' k = none) → (∀ k, s.heap.length ≤ k → k < st.s.heap.length → ∃ b, β' k = some b) → K' (a.put o.dst u) w') :
    if Region.wanted o (yielded ops a.tmps) then o.wp P a w K' Q else K' (a.put o.dst Go.undef) w := by
  rcases hq with hq | ⟨hq, hc, hh, hall⟩
  · exact any_step hC hΓ hq hnd m hcall hfs hnone hf hop hgd hK
  · refine head_step hC hΓ hq hnd m hcall (fun k e b hk hb => m.heap k e b (by
      have hlt := (List.getElem?_eq_some_iff.1 hk).1
      rw [hfs k (hall k hlt) hlt]; exact hk) hb) (fun k e hk he => by
      rw [hh] at he
      have := (List.getElem?_eq_some_iff.1 he).1
      omega) hnone hf hop hgd fun sl β' W' w' u htm hrel hl => hK sl β' W' w' u htm hrel (hl.toPMem.congr fun k b _ => ?_) hl.ext (fun k hk h => by rw [hl.same k hk]; exact h) hl.new
    rw [if_neg]
    rw [hh]
    intro hw
    obtain ⟨n, h1, h2⟩ := wrH_mem.1 hw
    exact h2 h1
def HStep (C : Cfg) (ops : Array Oper) (Γ : FuncId → Con) (ρ : List AV) (s : S) (o : Oper) (s' : S) (fs : List Nat) : Prop :=
  ∃ st, (anyF C s ops o fs = some (fs, st) ∨ Look C ops s o fs st) ∧ st.s = s' ∧ (∀ x ∈ st.needs, x.B ρ = true) ∧
    ∀ g f aks ks xs, st.call = some (g, f, aks, ks, xs) → (g.B ρ = true → (Γ f).pre (fixL aks (xs.map (X.den ρ)))) ∧ Piece ρ s.ks.length (fixL ks ((Γ f).out (fixL aks (xs.map (X.den ρ)))))
theorem head_den {ops : Array Oper} : ∀ (l : List Oper) (L : List (List Nat × St)) (s : S) (ρ : List AV) (K : S → Tree), headRun C ops l s = some L → closedB s L = true → KT s.ks ρ → (emitHead K s L).den Γ Qd ρ ctx →
    ∃ δ : List AV, KT (stAt s L l.length).ks (ρ ++ δ) ∧ (∀ i o x, l[i]? = some o → L[i]? = some x → HStep C ops Γ (ρ ++ δ) (stAt s L i) o (stAt s L (i + 1)) x.1) ∧ (K (stAt s L l.length)).den Γ Qd (ρ ++ δ) ctx
  | [], L, s, ρ, K, hr, _, hk, h => by
    simp only [headRun] at hr
    obtain rfl := Option.some.inj hr
    exact ⟨[], by simpa [stAt] using hk, fun i o x h => by simp at h, by simpa [emitHead, stAt] using h⟩
  | o :: l, L, s, ρ, K, hr, hc, hk, h => by
    simp only [headRun] at hr
    split at hr
    · cases hr
    · rename_i x hx
      split at hr
      · cases hr
      · rename_i L' hL
        obtain rfl := Option.some.inj hr
        obtain ⟨fs, st⟩ := x
        simp only [closedB, Bool.and_eq_true] at hc
        obtain ⟨hcl, hc'⟩ := hc
        simp only [St.closed, Bool.and_eq_true, List.all_eq_true] at hcl
        obtain ⟨hc1, hc2⟩ := hcl
        simp only [emitHead] at h
        obtain ⟨hnd, h⟩ := needAll_den h
        obtain ⟨vks, sl, sh⟩ := any_shape hx
        have hx : anyF C s ops o fs = some (fs, st) := by
          unfold anyStep at hx
          have h2 := anyF_fs hx
          rw [← h2] at hx; exact hx
        have hle : s.ks.length ≤ ρ.length := by rw [hk.1]; exact Nat.le_refl _
        have hnd' : ∀ δ, ∀ x ∈ st.needs, x.B (ρ ++ δ) = true := fun δ x hx => by
          show (x.den _).bool = true
          rw [clo_den (hc1 x hx) hle]; exact hnd x hx
        split at h
        · rename_i hn
          have hn : st.call = none := hn
          have hks : st.s.ks = s.ks := by rw [sh.ks, sh.nocall hn]; simp
          obtain ⟨δ, h1, h2, h3⟩ := head_den l L' st.s ρ K hL hc' (by rw [hks]; exact hk) h
          refine ⟨δ, h1, fun i o' x' ho hx' => ?_, h3⟩
          cases i with
          | zero =>
            simp at ho hx'
            subst ho hx'
            exact ⟨st, .inl hx, by cases L' <;> rfl, hnd' δ, fun g f aks ks xs hc => (by rw [hn] at hc; cases hc)⟩
          | succ i => exact h2 i o' x' (by simpa using ho) (by simpa using hx')
        · rename_i g f aks ks xs hsome
          have hsome : st.call = some (g, f, aks, ks, xs) := hsome
          obtain ⟨hpre, h⟩ := h
          obtain rfl := sh.call _ _ _ _ _ hsome
          rw [hsome] at hc2
          simp only [Bool.and_eq_true, List.all_eq_true] at hc2
          generalize hF : fixL ks ((Γ f).out (fixL aks (xs.map (X.den ρ)))) = F at h
          have hkF : KT ks F := by rw [← hF]; exact fixL_KT _ _
          obtain ⟨δ, h1, h2, h3⟩ := head_den l L' st.s (ρ ++ F) K hL hc' (by rw [sh.ks]; exact hk.append hkF) h
          rw [List.append_assoc] at h1 h2 h3
          have ex : xs.map (X.den (ρ ++ (F ++ δ))) = xs.map (X.den ρ) := List.map_congr_left fun x hx => clo_den (hc2.2 x hx) hle _
          refine ⟨F ++ δ, h1, fun i o' x' ho hx' => ?_, h3⟩
          cases i with
          | zero =>
            simp at ho hx'
            subst ho hx'
            refine ⟨st, .inl hx, by cases L' <;> rfl, hnd' _, fun g' f' aks' ks' xs' hc => ?_⟩
            rw [hsome] at hc
            cases hc
            rw [ex]
            refine ⟨fun hg => hpre ?_, fun i v hv => ?_⟩
            · have : g.den (ρ ++ (F ++ δ)) = g.den ρ := clo_den hc2.1 hle _
              show (g.den ρ).bool = true
              rw [← this]; exact hg
            · rw [hF] at hv
              have hlt := (List.getElem?_eq_some_iff.1 hv).1
              simp only [stAt]
              rw [← hk.1, List.getD_eq_getElem?_getD, List.getElem?_append_right (by omega), List.getElem?_append_left (by omega), Nat.add_sub_cancel_left, hv]
              rfl
          | succ i => exact h2 i o' x' (by simpa using ho) (by simpa using hx')
/-! the states, one after the other -/
section
variable {ops : Array Oper} {l : List Oper} {T : Nat → S} {F : Nat → List Nat}
/-- the steps in the order of the text -/
def Steps (C : Cfg) (ops : Array Oper) (Γ : FuncId → Con) (ρ : List AV) (l : List Oper) (T : Nat → S) (F : Nat → List Nat) : Prop := ∀ i o, l[i]? = some o → HStep C ops Γ ρ (T i) o (T (i + 1)) (F i)
theorem T_shape (hst : Steps C ops Γ ρ l T F) (i : Nat) (hi : i < l.length) : ∃ vks sl, (T i).heap.length ≤ (T (i + 1)).heap.length ∧ (T (i + 1)).ks = (T i).ks ++ vks ∧ (T (i + 1)).tmps = ((T i).put l[i].dst sl).tmps ∧ ((T i).factsOk ρ → (T (i + 1)).factsOk ρ) ∧ (T (i + 1)).lvl = (T i).lvl := by
  obtain ⟨st, hq, he, hnd, _⟩ := hst i l[i] (List.getElem?_eq_getElem hi)
  obtain ⟨vks, sl, sh⟩ := step_shape hq
  rw [← he]
  exact ⟨vks, sl, sh.len, sh.ks, sh.tmps, fun hf x hx => by rcases sh.facts x hx with h | h; exact hf x h; exact hnd x h, sh.lvl⟩
theorem T_hlen (hst : Steps C ops Γ ρ l T F) {i : Nat} : ∀ d, i + d ≤ l.length → (T i).heap.length ≤ (T (i + d)).heap.length
  | 0, _ => Nat.le_refl _
  | d + 1, h => by
    obtain ⟨_, _, h1, _⟩ := T_shape hst (i + d) (by omega)
    have := T_hlen hst (i := i) d (by omega)
    rw [← Nat.add_assoc]; omega
theorem T_hle (hst : Steps C ops Γ ρ l T F) {i j : Nat} (h : i ≤ j) (hj : j ≤ l.length) : (T i).heap.length ≤ (T j).heap.length := by
  have := T_hlen hst (i := i) (j - i) (by omega)
  rwa [show i + (j - i) = j by omega] at this
theorem T_ks (hst : Steps C ops Γ ρ l T F) : ∀ d, d ≤ l.length → ∃ ks, (T d).ks = (T 0).ks ++ ks
  | 0, _ => ⟨[], by simp⟩
  | d + 1, h => by
    obtain ⟨es, he⟩ := T_ks hst d (by omega)
    obtain ⟨es', _, _, h1, _⟩ := T_shape hst d (by omega)
    exact ⟨es ++ es', by rw [h1, he, List.append_assoc]⟩
theorem T_facts (hst : Steps C ops Γ ρ l T F) (h0 : (T 0).factsOk ρ) : ∀ d, d ≤ l.length → (T d).factsOk ρ
  | 0, _ => h0
  | d + 1, h => by
    obtain ⟨_, _, _, _, _, h1, _⟩ := T_shape hst d (by omega)
    exact h1 (T_facts hst h0 d (by omega))
theorem T_lvl (hst : Steps C ops Γ ρ l T F) : ∀ d, d ≤ l.length → (T d).lvl = (T 0).lvl
  | 0, _ => rfl
  | d + 1, h => by
    obtain ⟨_, _, _, _, _, _, h1⟩ := T_shape hst d (by omega)
    rw [h1, T_lvl hst d (by omega)]
theorem T_len (hst : Steps C ops Γ ρ l T F) : ∀ d, d ≤ l.length → (T d).tmps.length = (T 0).tmps.length
  | 0, _ => rfl
  | d + 1, h => by
    obtain ⟨_, _, _, _, h1, _⟩ := T_shape hst d (by omega)
    rw [h1, put_len, T_len hst d (by omega)]
theorem T_slot (hst : Steps C ops Γ ρ l T F) {i t : Nat} : ∀ d, i + d ≤ l.length → (∀ j, i ≤ j → j < i + d → (l[j]?).bind (·.dst) ≠ some t) → (T (i + d)).tmps[t]? = (T i).tmps[t]?
  | 0, _, _ => rfl
  | d + 1, h, hd => by
    obtain ⟨_, _, _, _, h1, _⟩ := T_shape hst (i + d) (by omega)
    rw [← Nat.add_assoc, h1, put_tmps, if_neg (fun hc => hd (i + d) (by omega) (by omega) (by rw [List.getElem?_eq_getElem (by omega)]; exact hc.1)), T_slot hst d (by omega) (fun j h1 h2 => hd j h1 (by omega))]
theorem T_entry (hst : Steps C ops Γ ρ l T F) {i k : Nat} : ∀ d, i + d ≤ l.length → (∀ j, i ≤ j → j < i + d → k ∉ wrH (T j).heap (T (j + 1)).heap) → (T (i + d)).heap[k]? = (T i).heap[k]?
  | 0, _, _ => rfl
  | d + 1, h, hd => by
    obtain ⟨_, _, h1, _⟩ := T_shape hst (i + d) (by omega)
    rw [← Nat.add_assoc, wrH_not h1 (hd (i + d) (by omega) (by omega)), T_entry hst d (by omega) (fun j h1 h2 => hd j h1 (by omega))]
end
/-- operations that touch the same are in order -/
def Ord (ops : Array Oper) (l : List Oper) (T : Nat → S) (F : Nat → List Nat) : Prop :=
  ∀ i j oi oj, i < j → l[i]? = some oi → l[j]? = some oj → clash ⟨F i, wrH (T i).heap (T (i + 1)).heap, usesOf ops oi, oi.dst⟩ ⟨F j, wrH (T j).heap (T (j + 1)).heap, usesOf ops oj, oj.dst⟩ = true → Bef l i j
def wk (T : Nat → S) (k i : Nat) : Bool := (wrH (T i).heap (T (i + 1)).heap).contains k
def ws (l : List Oper) (t i : Nat) : Bool := decide ((l[i]?).bind (·.dst) = some t)
/-- the entries as they stand -/
def Hv (T : Nat → S) (n : Nat) (listed : Array Bool) (k : Nat) : Option HE := (T (lastW (wk T k) listed n)).heap[k]?
/-- between two operations of a head -/
structure HInv (C : Cfg) (B : Nat) (w0 : World) (ρ : List AV) (β0 : Mp) (T : Nat → S) (l : List Oper) (ds : List Deferred) (listed : Array Bool) (a : Act) (β : Mp) (W : Nat → Prop) (w : World) : Prop extends PMem C B w0 ρ β W (Hv T l.length listed) w where
  clo : ∀ j o, l[j]? = some o → listed.getD j true = true → ∀ e ∈ o.after, Region.binds .any e = true → listed.getD e.on false = true
  done : ∀ i, i < l.length → listed.getD i true = true → ∀ k, (T i).heap.length ≤ k → k < (T (i + 1)).heap.length → ∃ b, β k = some b
  undone : ∀ i, i < l.length → listed.getD i true = false → ∀ k, (T i).heap.length ≤ k → k < (T (i + 1)).heap.length → β k = none
  base : ∀ k, k < (T 0).heap.length → ∃ b, β k = some b
  top : ∀ k, (T l.length).heap.length ≤ k → β k = none
  sz : a.tmps.size = (T 0).tmps.length
  slots : ∀ (t : Nat) sl, (T (lastW (ws l t) listed l.length)).tmps[t]? = some (some sl) → sl.rel ρ β (a.tmps.getD t Go.undef)
  defers : a.defers = ds
  map : ∀ k b, k < (T 0).heap.length → β0 k = some b → ∃ b', β k = some b' ∧ b'.v = b.v
  lsz : listed.size = l.length
section
variable {ops : Array Oper} {l : List Oper} {T : Nat → S} {F : Nat → List Nat} {β0 : Mp} {ds : List Deferred} {a : Act} {listed : Array Bool}
theorem getD_lt {l : Array Bool} {i : Nat} (h : l.getD i false = true) : i < l.size := by
  rcases Nat.lt_or_ge i l.size with h1 | h1
  · exact h1
  · rw [Array.getD_eq_getD_getElem?, Array.getElem?_eq_none h1] at h; cases h
theorem bef_listed (clo : ∀ j o, l[j]? = some o → listed.getD j true = true → ∀ e ∈ o.after, Region.binds .any e = true → listed.getD e.on false = true) {i j : Nat} (h : Bef l i j) : listed.getD j true = true → listed.getD i true = true := by
  induction h with
  | one ho he hb => intro hl; have h1 := clo _ _ ho hl _ he hb; rw [getD_tf (getD_lt h1)]; exact h1
  | step ho he hb _ ih => intro hl; have h1 := clo _ _ ho hl _ he hb; exact ih (by rw [getD_tf (getD_lt h1)]; exact h1)
theorem bef_ready (clo : ∀ j o, l[j]? = some o → listed.getD j true = true → ∀ e ∈ o.after, Region.binds .any e = true → listed.getD e.on false = true) {i j : Nat} (hr : ∀ o, l[j]? = some o → ∀ e ∈ o.after, Region.binds .any e = true → listed.getD e.on false = true) (h : Bef l i j) : listed.getD i true = true := by
  cases h with
  | one ho he hb => have h1 := hr _ ho _ he hb; rw [getD_tf (getD_lt h1)]; exact h1
  | step ho he hb h2 => have h1 := hr _ ho _ he hb; exact bef_listed clo h2 (by rw [getD_tf (getD_lt h1)]; exact h1)
/-- what an operation that is due touches stands as in the order of the text -/
theorem due {p : Nat → Bool} {i : Nat} (clo : ∀ j o, l[j]? = some o → listed.getD j true = true → ∀ e ∈ o.after, Region.binds .any e = true → listed.getD e.on false = true) (hi : i < l.length) (hun : listed.getD i true = false)
    (hr : ∀ o, l[i]? = some o → ∀ e ∈ o.after, Region.binds .any e = true → listed.getD e.on false = true) (hp : ∀ j, j < l.length → p j = true → (j < i → Bef l j i) ∧ (i < j → Bef l i j)) :
    lastW p listed l.length ≤ i ∧ (∀ j, lastW p listed l.length ≤ j → j < i → p j = false) ∧ ∀ j, i < j → j < l.length → p j = true → listed.getD j true = false := by
  obtain ⟨h1, h2, h3⟩ := lastW_spec p listed l.length
  have late : ∀ j, i < j → j < l.length → p j = true → listed.getD j true = false := fun j hj hjl hpj => by
    cases hc : listed.getD j true
    · rfl
    · have := bef_listed clo ((hp j hjl hpj).2 hj) hc
      rw [hun] at this; cases this
  refine ⟨?_, fun j ha hb => ?_, late⟩
  · rcases h3 with h0 | ⟨u, hu, b1, b2⟩
    · omega
    · rcases Nat.lt_trichotomy u i with h | h | h
      · omega
      · rw [h, hun] at b1; cases b1
      · have := late u h (by omega) b2
        rw [b1] at this; cases this
  · cases hpj : p j
    · rfl
    · have hl := bef_ready clo hr ((hp j (by omega) hpj).1 hb)
      have := h2 j ha (by omega) hl
      rw [hpj] at this; cases this
theorem lastW_set_yes {p : Nat → Bool} {i n : Nat} (hi : i < n) (hsi : i < listed.size) (hp : p i = true) (late : ∀ j, i < j → j < n → p j = true → listed.getD j true = false) : lastW p (listed.setIfInBounds i true) n = i + 1 := by
  refine lastW_eq (by omega) (fun j ha hb hl => ?_) (.inr ⟨i, rfl, by rw [set_getD, if_pos ⟨rfl, hsi⟩], hp⟩)
  cases hpj : p j
  · rfl
  · rw [set_getD, if_neg (by omega)] at hl
    have := late j (by omega) hb hpj
    rw [hl] at this; cases this
theorem lastW_set_no {p : Nat → Bool} {i : Nat} (hp : p i = false) : ∀ n, lastW p (listed.setIfInBounds i true) n = lastW p listed n
  | 0 => rfl
  | n + 1 => by
    unfold lastW
    rw [lastW_set_no hp n]
    by_cases h : n = i
    · subst h; rw [hp]; simp
    · have e := set_getD listed i n true
      rw [if_neg (fun hc => h hc.1)] at e
      rw [e]
theorem clash_wf {a b : Info} {k : Nat} (h1 : k ∈ a.wr) (h2 : k ∈ b.fs ∨ k ∈ b.wr) : clash a b = true := by
  unfold clash
  have : (a.wr.any fun k => b.fs.contains k || b.wr.contains k) = true := List.any_eq_true.2 ⟨k, h1, by
    rcases h2 with h2 | h2
    · simp [h2]
    · simp [h2]⟩
  rw [this]; rfl
theorem clash_fw {a b : Info} {k : Nat} (h1 : k ∈ a.fs) (h2 : k ∈ b.wr) : clash a b = true := by
  unfold clash
  have : (a.fs.any fun k => b.wr.contains k) = true := List.any_eq_true.2 ⟨k, h1, by simp [h2]⟩
  rw [this]; simp
theorem clash_du {a b : Info} {t : Nat} (h1 : a.d = some t) (h2 : t ∈ b.us ∨ b.d = some t) : clash a b = true := by
  unfold clash
  rw [h1]
  have : (b.us.contains t || decide (b.d = some t)) = true := by
    rcases h2 with h2 | h2
    · simp [h2]
    · simp [h2]
  simp only [this]; simp
theorem clash_ud {a b : Info} {t : Nat} (h1 : t ∈ a.us) (h2 : b.d = some t) : clash a b = true := by
  unfold clash
  rw [h2]
  simp [h1]
theorem HInv.step (hC : C.Ok P) (hΓ : ConsOk P C Γ B w0) (hst : Steps C ops Γ ρ l T F) (hord : Ord ops l T F) (h0 : (T 0).factsOk ρ) (inv : HInv C B w0 ρ β0 T l ds listed a β W w)
    {i : Nat} {o : Oper} (ho : l[i]? = some o) (hun : listed.getD i true = false) (hready : ∀ e ∈ o.after, Region.binds .any e = true → listed.getD e.on false = true) (hgl : ∀ j b, o.guard = some (j, b) → j < l.length) (hops : ∀ j, j < l.length → ops[j]? = l[j]?)
    {K' : Act → World → Prop} {Q : Exit → Act → World → Prop} (hK : ∀ a' β' W' w', HInv C B w0 ρ β0 T l ds (listed.setIfInBounds i true) a' β' W' w' → K' a' w') :
    if Region.wanted o (yielded ops a.tmps) then o.wp P a w K' Q else K' (a.put o.dst Go.undef) w := by
  have hi : i < l.length := (List.getElem?_eq_some_iff.1 ho).1
  obtain ⟨st, hq, he, hnd, hcall⟩ := hst i o ho
  have hr : ∀ o', l[i]? = some o' → ∀ e ∈ o'.after, Region.binds .any e = true → listed.getD e.on false = true := fun o' ho' => by
    rw [ho] at ho'; obtain rfl := Option.some.inj ho'; exact hready
  have hget : ∀ j, j < l.length → ∃ oj, l[j]? = some oj := fun j hj => ⟨_, List.getElem?_eq_getElem hj⟩
  -- entries
  have dk : ∀ k, (k ∈ F i ∨ wk T k i = true) → _ := fun k hk => due (p := wk T k) inv.clo hi hun hr (fun j hj hpj => by
    obtain ⟨oj, hoj⟩ := hget j hj
    have hw : k ∈ wrH (T j).heap (T (j + 1)).heap := List.contains_iff_mem.1 hpj
    refine ⟨fun hlt => hord j i oj o hlt hoj ho (clash_wf hw ?_), fun hgt => hord i j o oj hgt ho hoj ?_⟩
    · rcases hk with hk | hk
      · exact .inl hk
      · exact .inr (List.contains_iff_mem.1 hk)
    · rcases hk with hk | hk
      · exact clash_fw hk hw
      · exact clash_wf (List.contains_iff_mem.1 hk) (.inr hw))
  -- slots
  have dt : ∀ t, (t ∈ usesOf ops o ∨ o.dst = some t) → _ := fun t ht => due (p := ws l t) inv.clo hi hun hr (fun j hj hpj => by
    obtain ⟨oj, hoj⟩ := hget j hj
    have hd : oj.dst = some t := by
      have := of_decide_eq_true hpj
      rw [hoj] at this; exact this
    refine ⟨fun hlt => hord j i oj o hlt hoj ho (clash_du hd ht), fun hgt => hord i j o oj hgt ho hoj ?_⟩
    rcases ht with ht | ht
    · exact clash_ud ht hd
    · exact clash_du ht (.inr hd))
  have hslot : ∀ t, t ∈ usesOf ops o → ∀ sl, (T i).tmps[t]? = some (some sl) → sl.rel ρ β (a.tmps.getD t Go.undef) := fun t ht sl hsl => by
    obtain ⟨h1, h2, _⟩ := dt t (.inl ht)
    refine inv.slots t sl ?_
    have := T_slot hst (i := lastW (ws l t) listed l.length) (t := t) (i - lastW (ws l t) listed l.length) (by omega) (fun j ha hb hd => by
      have := h2 j ha (by omega)
      unfold ws at this
      rw [hd] at this; simp at this)
    rw [show lastW (ws l t) listed l.length + (i - lastW (ws l t) listed l.length) = i by omega] at this
    rw [← this]; exact hsl
  have hent : ∀ k, (k ∈ F i ∨ wk T k i = true) → Hv T l.length listed k = (T i).heap[k]? := fun k hk => by
    obtain ⟨h1, h2, _⟩ := dk k hk
    have := T_entry hst (i := lastW (wk T k) listed l.length) (k := k) (i - lastW (wk T k) listed l.length) (by omega) (fun j ha hb hd => by
      have := h2 j ha (by omega)
      unfold wk at this
      rw [List.contains_iff_mem.2 hd] at this; cases this)
    rw [show lastW (wk T k) listed l.length + (i - lastW (wk T k) listed l.length) = i by omega] at this
    exact this.symm
  refine some_step hC hΓ hq hnd inv.toPMem hcall (fun k hk _ => hent k (.inl hk)) (fun k h1 h2 => inv.undone i hi hun k h1 (by rw [he] at h2; exact h2)) (T_facts hst h0 i (by omega)) (fun x hx t ht sl hs => ?_) (fun j b t hg ht sl hs => ⟨hslot t ?_ sl hs, ?_⟩) fun sl β' W' w' u htm hrel hm hx hnn hnew => ?_
  · subst ht
    refine hslot t (List.mem_append.2 (.inl ?_)) sl hs
    simp only [opTmps, List.mem_filterMap]
    exact ⟨_, hx, rfl⟩
  · refine List.mem_append.2 (.inr ?_)
    rw [hg]
    simp only
    rw [ht]; simp
  · rw [inv.sz, ← T_len hst i (by omega)]; exact (List.getElem?_eq_some_iff.1 hs).1
  · rw [he] at htm hm hnn hnew
    have hsi : i < listed.size := by rw [inv.lsz]; exact hi
    have hset : ∀ j, (listed.setIfInBounds i true).getD j true = if j = i ∧ i < listed.size then true else listed.getD j true := fun j => set_getD _ _ _ _
    refine hK _ β' W' w' ⟨hm.congr fun k b hb => ?_, fun j oj hoj hlj e hee hbe => ?_, fun j hj hlj k h1 h2 => ?_, fun j hj hlj k h1 h2 => ?_, fun k hk => ?_, fun k hk => ?_, by rw [size_put]; exact inv.sz, fun t sl' ht => ?_, by rw [put_defers]; exact inv.defers, fun k b hk hb => ?_, by simpa using inv.lsz⟩
    · -- the entries' versions
      by_cases hw : k ∈ wrH (T i).heap (T (i + 1)).heap
      · rw [if_pos hw]
        have hwk : wk T k i = true := List.contains_iff_mem.2 hw
        unfold Hv
        rw [lastW_set_yes hi hsi hwk (dk k (.inr hwk)).2.2]
      · rw [if_neg hw]
        have hwk : wk T k i = false := by
          cases hc : wk T k i
          · rfl
          · exact absurd (List.contains_iff_mem.1 hc) hw
        unfold Hv
        rw [lastW_set_no hwk]
    · -- closed
      have key : listed.getD e.on false = true := by
        by_cases hji : j = i
        · subst hji
          rw [ho] at hoj
          obtain rfl := Option.some.inj hoj
          exact hready e hee hbe
        · rw [hset, if_neg (fun h => hji h.1)] at hlj
          exact inv.clo j oj hoj hlj e hee hbe
      rw [set_getD]
      split
      · rfl
      · exact key
    · by_cases hji : j = i
      · subst hji; exact hnew k h1 h2
      · rw [hset, if_neg (fun h => hji h.1)] at hlj
        obtain ⟨b, hb⟩ := inv.done j hj hlj k h1 h2
        obtain ⟨b', hb', _⟩ := hx k b hb
        exact ⟨b', hb'⟩
    · have hji : j ≠ i := fun h => by rw [hset, if_pos ⟨h, hsi⟩] at hlj; cases hlj
      rw [hset, if_neg (fun h => hji h.1)] at hlj
      refine hnn k ?_ (inv.undone j hj hlj k h1 h2)
      rcases Nat.lt_or_ge j i with h | h
      · have := T_hle hst (i := j + 1) (j := i) (by omega) (by omega); omega
      · have := T_hle hst (i := i + 1) (j := j) (by omega) (by omega); omega
    · obtain ⟨b, hb⟩ := inv.base k hk
      obtain ⟨b', hb', _⟩ := hx k b hb
      exact ⟨b', hb'⟩
    · refine hnn k ?_ (inv.top k hk)
      have := T_hle hst (i := i + 1) (j := l.length) (by omega) (by omega); omega
    · -- the slots' versions
      rw [getD_put]
      by_cases hd : o.dst = some t
      · have hws : ws l t i = true := by unfold ws; rw [ho]; simpa using hd
        rw [lastW_set_yes hi hsi hws (dt t (.inr hd)).2.2] at ht
        have hlt : t < (T i).tmps.length := by
          have := (List.getElem?_eq_some_iff.1 ht).1
          rw [T_len hst (i + 1) (by omega), ← T_len hst i (by omega)] at this
          exact this
        rw [htm, put_tmps, if_pos ⟨hd, hlt⟩] at ht
        obtain rfl := Option.some.inj (Option.some.inj ht)
        rw [if_pos ⟨hd, by rw [inv.sz, ← T_len hst i (by omega)]; exact hlt⟩]
        exact hrel
      · have hws : ws l t i = false := by
          unfold ws; rw [ho]; simpa using hd
        rw [lastW_set_no hws] at ht
        rw [if_neg (fun h => hd h.1)]
        exact Slot.rel_ext hx (inv.slots t sl' ht)
    · obtain ⟨b1, h1, h2⟩ := inv.map k b hk hb
      obtain ⟨b2, h3, h4⟩ := hx k b1 h1
      exact ⟨b2, h3, h4.trans h2⟩
theorem all_listed {pre tail : List Oper} (ok : TailOk pre tail) {listed : Array Bool} (hs : listed.size = pre.length) (h0 : Region.ready .any pre.toArray listed = []) : ∀ i, i < pre.length → listed.getD i true = true := by
  intro i
  induction i using Nat.strongRecOn with
  | _ i ih =>
    intro hi
    cases hc : listed.getD i true
    · exfalso
      have : i ∈ Region.ready .any pre.toArray listed := by
        refine mem_rd.2 ⟨by simpa using hi, hc, pre[i], by simp [hi], fun e he hb => ?_⟩
        have he2 := ok.early i pre[i] (by simp [hi]) e he hb
        have := ih e.on he2 (by omega)
        rw [← getD_tf (by omega)]
        exact this
      rw [h0] at this; cases this
    · rfl
theorem head_any {pre tail : List Oper} {T : Nat → S} {F : Nat → List Nat} (hC : C.Ok P) (hΓ : ConsOk P C Γ B w0) (hst : Steps C (pre ++ tail).toArray Γ ρ pre T F) (hord : Ord (pre ++ tail).toArray pre T F) (tok : TailOk pre tail) (h0 : (T 0).factsOk ρ) {R : Act → World → Prop} {Q : Exit → Act → World → Prop}
    (hR : ∀ listed a β W w, HInv C B w0 ρ β0 T pre ds listed a β W w → (∀ i, i < pre.length → listed.getD i true = true) → R a w) : ∀ (f : Nat) (listed : Array Bool) (a : Act) (β : Mp) (W : Nat → Prop) (w : World), HInv C B w0 ρ β0 T pre ds listed a β W w → unl listed pre.length ≤ f → wpAny P .any pre.toArray (HeadPost R Q) f listed a w
  | 0, listed, a, β, W, w, inv, hf => by
    have hall := unl_zero (Nat.le_zero.1 hf)
    refine ⟨?_, hR listed a β W w inv hall⟩
    apply List.eq_nil_iff_forall_not_mem.2
    intro i hi
    obtain ⟨h1, h2, _⟩ := mem_rd.1 hi
    rw [hall i (by simpa using h1)] at h2; cases h2
  | f + 1, listed, a, β, W, w, inv, hf => by
    refine ⟨fun hn => hR listed a β W w inv (all_listed tok inv.lsz hn), fun i hi => ?_⟩
    obtain ⟨h1, h2, o, ho, h3⟩ := mem_rd.1 hi
    have hi' : i < pre.length := by simpa using h1
    have ho' : pre[i]? = some o := by simpa using ho
    have hgl : ∀ j b, o.guard = some (j, b) → j < pre.length := fun j b hg => by
      have := tok.guard i o ho' j b hg; omega
    have hwant : Region.wanted o (yielded pre.toArray a.tmps) = Region.wanted o (yielded (pre ++ tail).toArray a.tmps) := by
      unfold Region.wanted
      cases hg : o.guard with
      | none => rfl
      | some p =>
        obtain ⟨j, b⟩ := p
        have hj := tok.guard i o ho' j b hg
        simp only [yielded, List.getElem?_toArray]
        rw [List.getElem?_append_left (show j < pre.length by omega)]
    have step := inv.step (K' := wpAny P .any pre.toArray (HeadPost R Q) f (listed.setIfInBounds i true)) (Q := HeadPost R Q) hC hΓ hst hord h0 ho' h2 h3 hgl (fun j hj => by rw [List.getElem?_toArray, List.getElem?_append_left hj]) (fun a' β' W' w' inv' => by
      refine head_any hC hΓ hst hord tok h0 hR f _ a' β' W' w' inv' ?_
      have := unl_set (l := listed) h2 (n := pre.length)
      rw [if_pos hi'] at this
      omega)
    unfold wpOp
    rw [ho]
    simp only
    rw [hwant]
    split
    · rename_i hw; rw [if_pos hw] at step; exact .inl step
    · rename_i hw; rw [if_neg hw] at step; exact step
end
theorem T_find (T : Nat → S) (k : Nat) : ∀ d, k < (T d).heap.length → k < (T 0).heap.length ∨ ∃ i, i < d ∧ (T i).heap.length ≤ k ∧ k < (T (i + 1)).heap.length
  | 0, h => .inl h
  | d + 1, h => by
    rcases Nat.lt_or_ge k (T d).heap.length with h1 | h1
    · rcases T_find T k d h1 with h2 | ⟨i, a, b⟩
      · exact .inl h2
      · exact .inr ⟨i, by omega, b⟩
    · exact .inr ⟨d, by omega, h1, h⟩
theorem unl_le (l : Array Bool) : ∀ n, unl l n ≤ n
  | 0 => Nat.le_refl _
  | n + 1 => by have := unl_le l n; simp only [unl]; split <;> omega
/-- **the head of a region whose order is open** -/
theorem region_head (hC : C.Ok P) (hΓ : ConsOk P C Γ B w0) {pre tail : List Oper} {s : S} {a : Act} {K : S → Tree} {R : Act → World → Prop} {Q : Exit → Act → World → Prop} {L : List (List Nat × St)} (hlv : ctx.length = s.lvl) (m : Mem C B w0 ρ β W s w) (fr : Fr ρ β s a) (tok : TailOk pre tail) (hsc : (s.more []).isSome = true)
    (hrun : headRun C (pre ++ tail).toArray pre s = some L) (hcl : closedB s L = true) (hob : orderB (predsOf [] pre) (infosOf (pre ++ tail).toArray pre s L) = true)
    (hden : (emitHead K s L).den Γ Qd ρ ctx) (hR : Onw C B w0 Γ Qd ctx ρ β s a.defers K R) : wpAny P .any pre.toArray (HeadPost R Q) pre.length (Array.replicate pre.length false) a { w with drawn := w.drawn + 1 } := by
  obtain ⟨δ, hkt, hst0, hd⟩ := head_den pre L s ρ K hrun hcl m.kt hden
  obtain ⟨hLl, hLg⟩ := headRun_get hrun
  have hst : Steps C (pre ++ tail).toArray Γ (ρ ++ δ) pre (stAt s L) (fun i => ((L[i]?).getD ([], ⟨[], none, s⟩)).1) := fun i o ho => by
    obtain ⟨x, hx, _⟩ := hLg i o ho
    have := hst0 i o x ho hx
    simp only [hx, Option.getD_some]; exact this
  have hord : Ord (pre ++ tail).toArray pre (stAt s L) (fun i => ((L[i]?).getD ([], ⟨[], none, s⟩)).1) := fun i j oi oj hij hoi hoj hc => by
    obtain ⟨xi, hxi, _, ei⟩ := hLg i oi hoi
    obtain ⟨xj, hxj, _, ej⟩ := hLg j oj hoj
    simp only [hxi, hxj, Option.getD_some] at hc
    rw [← ei, ← ej] at hc
    exact order_bef hob hij (infos_get i oi xi hoi hxi) (infos_get j oj xj hoj hxj) hc
  obtain ⟨F, hF⟩ : ∃ F : Nat → List Nat, F = fun i => ((L[i]?).getD ([], ⟨[], none, s⟩)).1 := ⟨_, rfl⟩
  rw [← hF] at hst hord
  clear hF hst0 hLg
  have hT0 : stAt s L 0 = s := by cases L <;> rfl
  generalize hT : stAt s L = T at *
  have h0 : T 0 = s := hT0
  obtain ⟨s', hs'⟩ := Option.isSome_iff_exists.1 hsc
  obtain ⟨_, sc⟩ := S.more_eq hs'
  have hok : (idR s.ks.length s.heap.length).Ok ρ β (ρ ++ δ) β := idR_ok (by rw [m.kt.1]; exact Nat.le_refl _) fun _ _ => rfl
  have hf0 : (T 0).factsOk (ρ ++ δ) := fun x hx => by
    rw [h0] at hx
    have := X.sub_den hok.x (sc.facts x hx)
    show (x.den _).bool = true
    rw [this]; exact m.facts x hx
  have hb : Below w.heap.size w { w with drawn := w.drawn + 1 } := (Below.refl _ _).drew
  have mp := m.toPMem.later hb
  have hle0 := T_hle hst (i := 0) (j := pre.length) (by omega) (by omega)
  rw [h0] at hle0
  refine head_any (C := C) (B := B) (w0 := w0) (β0 := β) (ds := a.defers) hC hΓ hst hord tok hf0 (fun listed a' β' W' w' inv hall => ?_) pre.length _ a β W _ ?_ (unl_le _ _)
  · obtain ⟨ks, hks⟩ := T_ks hst pre.length (Nat.le_refl _)
    have hall' : ∀ j, j < pre.length → listed.getD j true = true := hall
    -- all are listed: every version is the last
    have hHv : ∀ k, Hv T pre.length listed k = (T pre.length).heap[k]? := fun k => by
      obtain ⟨h1, h2, _⟩ := lastW_spec (wk T k) listed pre.length
      have := T_entry hst (i := lastW (wk T k) listed pre.length) (k := k) (pre.length - lastW (wk T k) listed pre.length) (by omega) (fun j ha hb' hd => by
        have := h2 j ha (by omega) (hall' j (by omega))
        unfold wk at this
        rw [List.contains_iff_mem.2 hd] at this; cases this)
      rw [show lastW (wk T k) listed pre.length + (pre.length - lastW (wk T k) listed pre.length) = pre.length by omega] at this
      exact this.symm
    have hVs : ∀ t, (T (lastW (ws pre t) listed pre.length)).tmps[t]? = (T pre.length).tmps[t]? := fun t => by
      obtain ⟨h1, h2, _⟩ := lastW_spec (ws pre t) listed pre.length
      have := T_slot hst (i := lastW (ws pre t) listed pre.length) (t := t) (pre.length - lastW (ws pre t) listed pre.length) (by omega) (fun j ha hb' hd => by
        have := h2 j ha (by omega) (hall' j (by omega))
        unfold ws at this
        rw [hd] at this; simp at this)
      rw [show lastW (ws pre t) listed pre.length + (pre.length - lastW (ws pre t) listed pre.length) = pre.length by omega] at this
      exact this.symm
    refine hR (ρ ++ δ) β' W' (T pre.length) a' w' ctx ⟨[], by simp⟩ (by rw [T_lvl hst _ (Nat.le_refl _), h0]; exact hlv) ⟨inv.toPMem.congr fun k b _ => (hHv k).symm, fun k hk => ?_, inv.top, T_facts hst hf0 _ (Nat.le_refl _), hkt⟩ ⟨by rw [inv.sz, T_len hst _ (Nat.le_refl _)], fun t sl ht => inv.slots t sl (by rw [hVs]; exact ht)⟩ ⟨⟨δ, rfl⟩, ⟨ks, by rw [hks, h0]⟩, hle0, fun k b hk hb => inv.map k b (by rw [h0]; exact hk) hb⟩ inv.defers hd
    rcases T_find T k pre.length hk with h1 | ⟨i, h1, h2, h3⟩
    · exact inv.base k h1
    · exact inv.done i h1 (hall i h1) k h2 h3
  · have hrep : ∀ j, j < pre.length → (Array.replicate pre.length false).getD j true = false := fun j hj => by
      rw [Array.getD_eq_getD_getElem?, Array.getElem?_replicate, if_pos hj]; rfl
    have hz : ∀ p, lastW p (Array.replicate pre.length false) pre.length = 0 := fun p => lastW_eq (Nat.zero_le _) (fun j _ hj hl => by rw [hrep j hj] at hl; cases hl) (.inl rfl)
    refine ⟨⟨mp.below, mp.size, mp.wlo, fun k e b hk hb' => ?_, mp.dist, mp.own, mp.glob⟩, fun j o hj hl => ?_, fun i hi hl k h1 h2 => ?_, fun i hi hl k h1 h2 => ?_, fun k hk => ?_, fun k hk => ?_, by rw [h0]; exact fr.1, fun t sl ht => ?_, rfl, fun k b _ hb' => ⟨b, hb', rfl⟩, by simp⟩
    · unfold Hv at hk
      rw [hz, h0] at hk
      exact (HE.sub_ok hok (sc.heap k e hk) b).2 (mp.heap k e b hk hb')
    · rw [hrep j (List.getElem?_eq_some_iff.1 hj).1] at hl; cases hl
    · rw [hrep i hi] at hl; cases hl
    · refine m.top k ?_
      have := T_hle hst (i := 0) (j := i) (by omega) (by omega)
      rw [h0] at this
      omega
    · rw [h0] at hk; exact m.all k hk
    · exact m.top k (by omega)
    · rw [hz, h0] at ht
      exact (Slot.sub_rel hok (sc.tmps t sl ht) _).2 (fr.2 t sl ht)
/-- the states, one after the other -/
def lookAt (C : Cfg) (ops : Array Oper) : List Oper → S → Nat → S
  | [], s, _ => s
  | _ :: _, s, 0 => s
  | o :: l, s, i + 1 => match qstep C s ops o with
    | some st => lookAt C ops l st.s i
    | none => match estep C s o with
      | some (nd, s') => lookAt C ops l (s'.with (nd.filter fun x => !s.holds (.bl true) x)) i
      | none => s
theorem look_den {ops : Array Oper} {K : S → Tree} : ∀ (l : List Oper) (s : S), (lookRun C ops K l s).den Γ Qd ρ ctx → KT s.ks ρ →
    (∀ i o, l[i]? = some o → HStep C ops Γ ρ (lookAt C ops l s i) o (lookAt C ops l s (i + 1)) (List.range (lookAt C ops l s i).heap.length) ∧ (pureKind o = true → (lookAt C ops l s (i + 1)).heap = (lookAt C ops l s i).heap)) ∧ KT (lookAt C ops l s l.length).ks ρ ∧ (K (lookAt C ops l s l.length)).den Γ Qd ρ ctx
  | [], s, h, hk => ⟨fun i o h => by simp at h, hk, h⟩
  | o :: l, s, h, hk => by
    simp only [lookRun] at h
    have e0 : lookAt C ops (o :: l) s 0 = s := rfl
    split at h
    · rename_i st hq
      split at h
      · rename_i hc
        simp only [Bool.and_eq_true, Option.isNone_iff_eq_none, decide_eq_true_eq] at hc
        obtain ⟨⟨hp, hc⟩, hl⟩ := hc
        obtain ⟨hnd, h⟩ := needAll_den h
        obtain ⟨es, ks, sl, sh⟩ := qstep_shape hq
        have hes : es = [] := by
          have := hl
          rw [sh.heap, List.length_append] at this
          exact List.eq_nil_of_length_eq_zero (by omega)
        subst hes
        have hh : st.s.heap = s.heap := by rw [sh.heap, List.append_nil]
        have hks : st.s.ks = s.ks := by rw [sh.ks, sh.nocall hc, List.append_nil]
        obtain ⟨h1, h2, h3⟩ := look_den l st.s h (by rw [hks]; exact hk)
        have e : ∀ i, lookAt C ops (o :: l) s (i + 1) = lookAt C ops l st.s i := fun i => by simp only [lookAt, hq]
        have e1 : lookAt C ops l st.s 0 = st.s := by cases l <;> rfl
        refine ⟨fun i o' ho => ?_, by rw [List.length_cons, e]; exact h2, by rw [List.length_cons, e]; exact h3⟩
        cases i with
        | zero =>
          simp at ho
          subst ho
          rw [e, e1, e0]
          exact ⟨⟨st, .inr ⟨hq, hc, hh, fun k hk => by simpa using hk⟩, rfl, hnd, fun g f aks ks xs h => by rw [hc] at h; cases h⟩, fun _ => hh⟩
        | succ i => rw [e, e]; exact h1 i o' (by simpa using ho)
      · exact h.elim
    · rename_i hq
      split at h
      · rename_i nd s' he
        split at h
        · exact h.elim
        · rename_i hp
          obtain ⟨hnd, h⟩ := needAll_den h
          have hany := anyF_all (ops := ops) (fs := List.range s.heap.length) (fun k hk => by simpa using hk) hq he
          obtain ⟨vks, sl, sh⟩ := any_shape hany
          have hks : (s'.with (nd.filter fun x => !s.holds (.bl true) x)).ks = s.ks := by
            have := sh.ks
            rw [sh.nocall rfl, List.append_nil] at this
            exact this
          obtain ⟨h1, h2, h3⟩ := look_den l _ h (by rw [hks]; exact hk)
          have e : ∀ i, lookAt C ops (o :: l) s (i + 1) = lookAt C ops l (s'.with (nd.filter fun x => !s.holds (.bl true) x)) i := fun i => by simp only [lookAt, hq, he]
          have e1 : lookAt C ops l (s'.with (nd.filter fun x => !s.holds (.bl true) x)) 0 = s'.with (nd.filter fun x => !s.holds (.bl true) x) := by cases l <;> rfl
          refine ⟨fun i o' ho => ?_, by rw [List.length_cons, e]; exact h2, by rw [List.length_cons, e]; exact h3⟩
          cases i with
          | zero =>
            simp at ho
            subst ho
            rw [e, e1, e0]
            exact ⟨⟨_, .inl hany, rfl, hnd, fun g f aks ks xs h => by cases h⟩, fun h => absurd h hp⟩
          | succ i => rw [e, e]; exact h1 i o' (by simpa using ho)
      · exact h.elim
/-- **the head of a region whose order is open, where all operations look only or are in order with all others** -/
theorem region_look (hC : C.Ok P) (hΓ : ConsOk P C Γ B w0) {pre tail : List Oper} {s : S} {a : Act} {K : S → Tree} {R : Act → World → Prop} {Q : Exit → Act → World → Prop} (hlv : ctx.length = s.lvl) (m : Mem C B w0 ρ β W s w) (fr : Fr ρ β s a) (tok : TailOk pre tail)
    (hob : orderB (predsOf [] pre) (pre.map (lookI (pre ++ tail).toArray)) = true)
    (hden : (lookRun C (pre ++ tail).toArray K pre s).den Γ Qd ρ ctx) (hR : Onw C B w0 Γ Qd ctx ρ β s a.defers K R) : wpAny P .any pre.toArray (HeadPost R Q) pre.length (Array.replicate pre.length false) a { w with drawn := w.drawn + 1 } := by
  obtain ⟨hg, hkt, hd⟩ := look_den pre s hden m.kt
  have hT0 : lookAt C (pre ++ tail).toArray pre s 0 = s := by cases pre <;> rfl
  generalize hT : lookAt C (pre ++ tail).toArray pre s = T at *
  have h0 : T 0 = s := hT0
  have hst : Steps C (pre ++ tail).toArray Γ ρ pre T (fun i => List.range (T i).heap.length) := fun i o ho => (hg i o ho).1
  have hwr : ∀ i o, pre[i]? = some o → pureKind o = true → wrH (T i).heap (T (i + 1)).heap = [] := fun i o ho hp => by
    rw [(hg i o ho).2 hp]
    apply List.eq_nil_iff_forall_not_mem.2
    intro k hk
    obtain ⟨n, h1, h2⟩ := wrH_mem.1 hk
    exact h2 h1
  have hord : Ord (pre ++ tail).toArray pre T (fun i => List.range (T i).heap.length) := fun i j oi oj hij hoi hoj hc => by
    refine order_bef hob hij (by rw [List.getElem?_map, hoi]; rfl) (by rw [List.getElem?_map, hoj]; rfl) ?_
    by_cases hpi : pureKind oi = true
    · by_cases hpj : pureKind oj = true
      · rw [hwr i oi hoi hpi, hwr j oj hoj hpj] at hc
        have hno : ∀ l : List Nat, (l.any fun k => [].contains k) = false := fun l => by
          rw [List.any_eq_false]; intro x _; simp
        unfold clash lookI
        simp only [clash, hno, List.any_nil, Bool.false_or, hpi, hpj, if_true] at hc ⊢
        simpa using hc
      · simp [clash, lookI, hpi, hpj]
    · simp [clash, lookI, hpi]
  have hf0 : (T 0).factsOk ρ := by rw [h0]; exact m.facts
  have hb : Below w.heap.size w { w with drawn := w.drawn + 1 } := (Below.refl _ _).drew
  have mp := m.toPMem.later hb
  have hle0 := T_hle hst (i := 0) (j := pre.length) (by omega) (by omega)
  rw [h0] at hle0
  refine head_any (C := C) (B := B) (w0 := w0) (β0 := β) (ds := a.defers) hC hΓ hst hord tok hf0 (fun listed a' β' W' w' inv hall => ?_) pre.length _ a β W _ ?_ (unl_le _ _)
  · obtain ⟨ks, hks⟩ := T_ks hst pre.length (Nat.le_refl _)
    have hall' : ∀ j, j < pre.length → listed.getD j true = true := hall
    have hHv : ∀ k, Hv T pre.length listed k = (T pre.length).heap[k]? := fun k => by
      obtain ⟨h1, h2, _⟩ := lastW_spec (wk T k) listed pre.length
      have := T_entry hst (i := lastW (wk T k) listed pre.length) (k := k) (pre.length - lastW (wk T k) listed pre.length) (by omega) (fun j ha hb' hd => by
        have := h2 j ha (by omega) (hall' j (by omega))
        unfold wk at this
        rw [List.contains_iff_mem.2 hd] at this; cases this)
      rw [show lastW (wk T k) listed pre.length + (pre.length - lastW (wk T k) listed pre.length) = pre.length by omega] at this
      exact this.symm
    have hVs : ∀ t, (T (lastW (ws pre t) listed pre.length)).tmps[t]? = (T pre.length).tmps[t]? := fun t => by
      obtain ⟨h1, h2, _⟩ := lastW_spec (ws pre t) listed pre.length
      have := T_slot hst (i := lastW (ws pre t) listed pre.length) (t := t) (pre.length - lastW (ws pre t) listed pre.length) (by omega) (fun j ha hb' hd => by
        have := h2 j ha (by omega) (hall' j (by omega))
        unfold ws at this
        rw [hd] at this; simp at this)
      rw [show lastW (ws pre t) listed pre.length + (pre.length - lastW (ws pre t) listed pre.length) = pre.length by omega] at this
      exact this.symm
    refine hR ρ β' W' (T pre.length) a' w' ctx ⟨[], by simp⟩ (by rw [T_lvl hst _ (Nat.le_refl _), h0]; exact hlv) ⟨inv.toPMem.congr fun k b _ => (hHv k).symm, fun k hk => ?_, inv.top, T_facts hst hf0 _ (Nat.le_refl _), hkt⟩ ⟨by rw [inv.sz, T_len hst _ (Nat.le_refl _)], fun t sl ht => inv.slots t sl (by rw [hVs]; exact ht)⟩ ⟨⟨[], by simp⟩, ⟨ks, by rw [hks, h0]⟩, hle0, fun k b hk hb => inv.map k b (by rw [h0]; exact hk) hb⟩ inv.defers hd
    rcases T_find T k pre.length hk with h1 | ⟨i, h1, h2, h3⟩
    · exact inv.base k h1
    · exact inv.done i h1 (hall i h1) k h2 h3
  · have hrep : ∀ j, j < pre.length → (Array.replicate pre.length false).getD j true = false := fun j hj => by
      rw [Array.getD_eq_getD_getElem?, Array.getElem?_replicate, if_pos hj]; rfl
    have hz : ∀ p, lastW p (Array.replicate pre.length false) pre.length = 0 := fun p => lastW_eq (Nat.zero_le _) (fun j _ hj hl => by rw [hrep j hj] at hl; cases hl) (.inl rfl)
    refine ⟨⟨mp.below, mp.size, mp.wlo, fun k e b hk hb' => ?_, mp.dist, mp.own, mp.glob⟩, fun j o hj hl => ?_, fun i hi hl k h1 h2 => ?_, fun i hi hl k h1 h2 => ?_, fun k hk => ?_, fun k hk => ?_, by rw [h0]; exact fr.1, fun t sl ht => ?_, rfl, fun k b _ hb' => ⟨b, hb', rfl⟩, by simp⟩
    · unfold Hv at hk
      rw [hz, h0] at hk
      exact mp.heap k e b hk hb'
    · rw [hrep j (List.getElem?_eq_some_iff.1 hj).1] at hl; cases hl
    · rw [hrep i hi] at hl; cases hl
    · refine m.top k ?_
      have := T_hle hst (i := 0) (j := i) (by omega) (by omega)
      rw [h0] at this
      omega
    · rw [h0] at hk; exact m.all k hk
    · exact m.top k (by omega)
    · rw [hz, h0] at ht
      exact fr.2 t sl ht
end
end Go.Proofs.Ytiiabaklipmbbaa.Vc
