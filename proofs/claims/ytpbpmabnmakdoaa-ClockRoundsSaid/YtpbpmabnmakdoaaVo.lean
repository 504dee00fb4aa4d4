/- The symbolic executor: a head in whatever order. -/
import Derived.Test.YtpbpmabnmakdoaaVn
namespace Go.Proofs.Ytpbpmabnmakdoaa.Vc
open Go Go.RowKit
variable {ρ ρ' : List AV} {β β' : Mp} {W W' : Nat → Prop} {w w' : World} {P : Program} {C : Cfg} {B : Nat} {w0 : World}
variable {Γ : FuncId → Con} {Qd : List AV → Prop} {ctx : List (List AV → Prop)}

theorem head_step (hC : C.Ok P) (hΓ : ConsOk P C Γ) {s : S} {a : Act} {ops : Array Oper} {o : Oper} {K' : Act → World → Prop} {Q : Exit → Act → World → Prop} {st : St} {H : Nat → Option HE} (hq : qstep C s ops o = some st) (hnd : ∀ x ∈ st.needs, x.B ρ = true) (m : PMem C B w0 ρ β W H w)
    (hcall : ∀ g f aks ks xs, st.call = some (g, f, aks, ks, xs) → (g.B ρ = true → (Γ f).pre (fixL aks (xs.map (X.den ρ)))) ∧ Piece ρ s.ks.length (fixL ks ((Γ f).out (fixL aks (xs.map (X.den ρ))))))
    (hs : ∀ (k : Nat) e, st.s.heap[k]? = some e → H k = some e) (hnone : ∀ k, s.heap.length ≤ k → k < st.s.heap.length → β k = none) (hf : s.factsOk ρ)
    (hop : ∀ x ∈ o.op.operands.toList, OpdOk ρ β s a x)
    (hgd : ∀ j b t, o.guard = some (j, b) → (ops[j]?).bind (·.dst) = some t → ∀ sl, s.tmps[t]? = some (some sl) → sl.rel ρ β (a.tmps.getD t Go.undef) ∧ t < a.tmps.size)
    (hK : ∀ sl β' W' w' u, st.s.tmps = (s.put o.dst sl).tmps → sl.rel ρ β' u → Left C B w0 ρ β β' W' H w' s.heap.length st.s.heap.length → K' (a.put o.dst u) w') :
    if Region.wanted o (yielded ops a.tmps) then o.wp P a w K' Q else K' (a.put o.dst Go.undef) w := by
  unfold qstep at hq
  split at hq
  · cases hq
  · rename_i g hgo
    have hw := guard_sound hgo hgd
    split at hq
    · rename_i hno
      obtain rfl := Option.some.inj hq
      have hgf : g.B ρ = false := by
        have := S.holds_B hf (show (X.bl true).B ρ = true from rfl) hno
        rw [xnot] at this
        cases h : g.B ρ
        · rfl
        · rw [h] at this; cases this
      rw [hw, hgf]
      simp only [Bool.false_eq_true, if_false]
      exact hK ⟨.bl true, .undef⟩ β W w Go.undef rfl ⟨fun _ => rfl, fun _ => rfl⟩ (by simp only [put_heap]; exact Left.refl m _)
    · have hgs : (if s.holds (.bl true) g then X.bl true else g).B ρ = g.B ρ := by
        split
        · rename_i h; rw [S.holds_B hf (show (X.bl true).B ρ = true from rfl) h]; rfl
        · rfl
      rw [← hgs] at hw
      generalize (if s.holds (.bl true) g then X.bl true else g) = g1 at hq hgs hw
      simp only at hq
      split at hq
      · rename_i r hr
        obtain rfl := Option.some.inj hq
        have hh : ∀ d sl, (S.put ((addE s g1 r.add).with ((r.needs.filter fun x => !s.holds g1 x).map (imp g1))) d sl).heap = s.heap ++ (r.add.map (guarded g1)).toList := fun d sl => by
          rw [put_heap]; cases r.add <;> simp [addE, S.with, S.add]
        refine head_qop hC hr hnd m (fun k e hk => hs k e ?_) (fun e he => ⟨hs _ _ ?_, hnone _ (Nat.le_refl _) ?_⟩) hf hop hw fun β' W' w' u hsl hl => ?_
        · simp only [hh]; rw [List.getElem?_append_left (List.getElem?_eq_some_iff.1 hk).1]; exact hk
        · simp only [hh]
          show (s.heap ++ (r.add.map (guarded g1)).toList)[s.heap.length]? = some (guarded g1 e)
          rw [he]; simp
        · simp only [hh]
          show s.heap.length < (s.heap ++ (r.add.map (guarded g1)).toList).length
          rw [he]; simp
        · refine hK ⟨g1, r.v⟩ β' W' w' u ?_ hsl ?_
          · cases r.add <;> exact put_tmps_eq _ _ _ _ rfl
          · have e : (s.heap ++ (r.add.map (guarded g1)).toList).length = s.heap.length + r.add.toList.length := by cases r.add <;> simp
            simp only [hh, e]; exact hl
      · exact head_call hC hΓ hq hnd m hcall hs hnone hf hop hw hK
def HStep (C : Cfg) (ops : Array Oper) (Γ : FuncId → Con) (ρ : List AV) (s : S) (o : Oper) (s' : S) : Prop :=
  ∃ st, qstep C s ops o = some st ∧ st.s = s' ∧ (∀ x ∈ st.needs, x.B ρ = true) ∧
    ∀ g f aks ks xs, st.call = some (g, f, aks, ks, xs) → (g.B ρ = true → (Γ f).pre (fixL aks (xs.map (X.den ρ)))) ∧ Piece ρ s.ks.length (fixL ks ((Γ f).out (fixL aks (xs.map (X.den ρ)))))
theorem clo_den {n : Nat} {x : X} (h : cloB n x = true) (hn : n ≤ ρ.length) (δ : List AV) : x.den (ρ ++ δ) = x.den ρ := by
  have h : x.sub n .var = some x := by simpa [cloB] using h
  exact X.sub_den (ρ' := ρ ++ δ) (ρ := ρ) (fun k hk => by
    have : k < ρ.length := by omega
    simp [X.den, List.getD_eq_getElem?_getD, List.getElem?_append_left this]) h
theorem head_den {ops : Array Oper} : ∀ (l : List Oper) (s : S) (ρ : List AV) (K : S → Tree), KT s.ks ρ → (execHead C ops l s K).den Γ Qd ρ ctx →
    ∃ (δ : List AV) (T : Nat → S), T 0 = s ∧ KT (T l.length).ks (ρ ++ δ) ∧ (∀ i o, l[i]? = some o → HStep C ops Γ (ρ ++ δ) (T i) o (T (i + 1))) ∧ (K (T l.length)).den Γ Qd (ρ ++ δ) ctx
  | [], s, ρ, K, hk, h => ⟨[], fun _ => s, rfl, by simpa using hk, fun i o h => by simp at h, by simpa [execHead] using h⟩
  | o :: l, s, ρ, K, hk, h => by
    simp only [execHead] at h
    split at h
    · rename_i st hst
      split at h
      · rename_i hcl
        simp only [St.closed, Bool.and_eq_true, List.all_eq_true] at hcl
        obtain ⟨hc1, hc2⟩ := hcl
        obtain ⟨hnd, h⟩ := needAll_den h
        obtain ⟨es, vks, sl, sh⟩ := qstep_shape hst
        have hle : s.ks.length ≤ ρ.length := by rw [hk.1]; exact Nat.le_refl _
        have hnd' : ∀ δ, ∀ x ∈ st.needs, x.B (ρ ++ δ) = true := fun δ x hx => by
          show (x.den _).bool = true
          rw [clo_den (hc1 x hx) hle]; exact hnd x hx
        split at h
        · rename_i hn
          have hks : st.s.ks = s.ks := by rw [sh.ks, sh.nocall hn]; simp
          obtain ⟨δ, T, h0, h1, h2, h3⟩ := head_den l st.s ρ K (by rw [hks]; exact hk) h
          refine ⟨δ, fun i => match i with | 0 => s | i + 1 => T i, rfl, h1, fun i o' ho => ?_, h3⟩
          cases i with
          | zero =>
            simp at ho
            subst ho
            exact ⟨st, hst, h0.symm, hnd' δ, fun g f aks ks xs hc => (by rw [hn] at hc; cases hc)⟩
          | succ i => exact h2 i o' (by simpa using ho)
        · rename_i g f aks ks xs hsome
          obtain ⟨hpre, h⟩ := h
          obtain rfl := sh.call _ _ _ _ _ hsome
          rw [hsome] at hc2
          simp only [Bool.and_eq_true, List.all_eq_true] at hc2
          generalize hF : fixL ks ((Γ f).out (fixL aks (xs.map (X.den ρ)))) = F at h
          have hkF : KT ks F := by rw [← hF]; exact fixL_KT _ _
          obtain ⟨δ, T, h0, h1, h2, h3⟩ := head_den l st.s (ρ ++ F) K (by rw [sh.ks]; exact hk.append hkF) h
          rw [List.append_assoc] at h1 h2 h3
          have ex : xs.map (X.den (ρ ++ (F ++ δ))) = xs.map (X.den ρ) := List.map_congr_left fun x hx => clo_den (hc2.2 x hx) hle _
          refine ⟨F ++ δ, fun i => match i with | 0 => s | i + 1 => T i, rfl, h1, fun i o' ho => ?_, h3⟩
          cases i with
          | zero =>
            simp at ho
            subst ho
            refine ⟨st, hst, h0.symm, hnd' _, fun g' f' aks' ks' xs' hc => ?_⟩
            rw [hsome] at hc
            cases hc
            rw [ex]
            refine ⟨fun hg => hpre ?_, fun i v hv => ?_⟩
            · have : g.den (ρ ++ (F ++ δ)) = g.den ρ := clo_den hc2.1 hle _
              show (g.den ρ).bool = true
              rw [← this]; exact hg
            · rw [hF] at hv
              have hlt := (List.getElem?_eq_some_iff.1 hv).1
              rw [← hk.1, List.getD_eq_getElem?_getD, List.getElem?_append_right (by omega), List.getElem?_append_left (by omega), Nat.add_sub_cancel_left, hv]
              rfl
          | succ i => exact h2 i o' (by simpa using ho)
      · exact h.elim
    · exact h.elim
section
variable {ops : Array Oper} {l : List Oper} {T : Nat → S}
theorem T_shape (hst : ∀ i o, l[i]? = some o → HStep C ops Γ ρ (T i) o (T (i + 1))) (i : Nat) (hi : i < l.length) : ∃ es vks sl, (T (i + 1)).heap = (T i).heap ++ es ∧ (T (i + 1)).ks = (T i).ks ++ vks ∧ (T (i + 1)).tmps = ((T i).put l[i].dst sl).tmps ∧ ((T i).factsOk ρ → (T (i + 1)).factsOk ρ) ∧ (T (i + 1)).lvl = (T i).lvl := by
  obtain ⟨st, hq, he, hnd, _⟩ := hst i l[i] (List.getElem?_eq_getElem hi)
  obtain ⟨es, vks, sl, sh⟩ := qstep_shape hq
  rw [← he]
  exact ⟨es, vks, sl, sh.heap, sh.ks, sh.tmps, fun hf x hx => by rcases sh.facts x hx with h | h; exact hf x h; exact hnd x h, sh.lvl⟩
theorem T_heap (hst : ∀ i o, l[i]? = some o → HStep C ops Γ ρ (T i) o (T (i + 1))) {i : Nat} : ∀ d, i + d ≤ l.length → ∃ es, (T (i + d)).heap = (T i).heap ++ es
  | 0, _ => ⟨[], by simp⟩
  | d + 1, h => by
    obtain ⟨es, he⟩ := T_heap hst (i := i) d (by omega)
    obtain ⟨es', _, _, h1, _⟩ := T_shape hst (i + d) (by omega)
    exact ⟨es ++ es', by rw [← Nat.add_assoc, h1, he, List.append_assoc]⟩
theorem T_ks (hst : ∀ i o, l[i]? = some o → HStep C ops Γ ρ (T i) o (T (i + 1))) : ∀ d, d ≤ l.length → ∃ ks, (T d).ks = (T 0).ks ++ ks
  | 0, _ => ⟨[], by simp⟩
  | d + 1, h => by
    obtain ⟨es, he⟩ := T_ks hst d (by omega)
    obtain ⟨_, es', _, _, h1, _⟩ := T_shape hst d (by omega)
    exact ⟨es ++ es', by rw [h1, he, List.append_assoc]⟩
theorem T_facts (hst : ∀ i o, l[i]? = some o → HStep C ops Γ ρ (T i) o (T (i + 1))) (h0 : (T 0).factsOk ρ) : ∀ d, d ≤ l.length → (T d).factsOk ρ
  | 0, _ => h0
  | d + 1, h => by
    obtain ⟨_, _, _, _, _, _, h1, _⟩ := T_shape hst d (by omega)
    exact h1 (T_facts hst h0 d (by omega))
theorem T_lvl (hst : ∀ i o, l[i]? = some o → HStep C ops Γ ρ (T i) o (T (i + 1))) : ∀ d, d ≤ l.length → (T d).lvl = (T 0).lvl
  | 0, _ => rfl
  | d + 1, h => by
    obtain ⟨_, _, _, _, _, _, _, h1⟩ := T_shape hst d (by omega)
    rw [h1, T_lvl hst d (by omega)]
theorem T_len (hst : ∀ i o, l[i]? = some o → HStep C ops Γ ρ (T i) o (T (i + 1))) : ∀ d, d ≤ l.length → (T d).tmps.length = (T 0).tmps.length
  | 0, _ => rfl
  | d + 1, h => by
    obtain ⟨_, _, _, _, _, h1, _⟩ := T_shape hst d (by omega)
    rw [h1, put_len, T_len hst d (by omega)]
theorem T_slot (hst : ∀ i o, l[i]? = some o → HStep C ops Γ ρ (T i) o (T (i + 1))) {i t : Nat} : ∀ d, i + d ≤ l.length → (∀ j, i ≤ j → j < i + d → ∀ o, l[j]? = some o → o.dst ≠ some t) → (T (i + d)).tmps[t]? = (T i).tmps[t]?
  | 0, _, _ => rfl
  | d + 1, h, hd => by
    obtain ⟨_, _, _, _, _, h1, _⟩ := T_shape hst (i + d) (by omega)
    rw [← Nat.add_assoc, h1, put_tmps, if_neg (fun hc => hd (i + d) (by omega) (by omega) _ (List.getElem?_eq_getElem (by omega)) hc.1), T_slot hst d (by omega) (fun j h1 h2 => hd j h1 (by omega))]
end
structure HeadOk (l : List Oper) : Prop where
  guard : ∀ (i : Nat) (o : Oper), l[i]? = some o → ∀ j b, o.guard = some (j, b) → j < l.length ∧ ∃ e ∈ o.after, Region.binds .any e = true ∧ e.on = j
  opd : ∀ (i : Nat) (o : Oper), l[i]? = some o → ∀ (j : Nat) (p : Oper), l[j]? = some p → ∀ t, p.dst = some t → Operand.tmp t ∈ o.op.operands.toList → ∃ e ∈ o.after, Region.binds .any e = true ∧ e.on = j
  once : ∀ (i : Nat) (o : Oper), l[i]? = some o → ∀ (j : Nat) (p : Oper), l[j]? = some p → ∀ t, p.dst = some t → o.dst = some t → i = j
theorem afterB_of {o : Oper} {j : Nat} (h : afterB o j = true) : ∃ e ∈ o.after, Region.binds .any e = true ∧ e.on = j := by
  simp only [afterB, Array.any_eq_true', Bool.and_eq_true, decide_eq_true_eq] at h
  exact h
theorem headOk_of {l : List Oper} (h : headB l = true) : HeadOk l := by
  simp only [headB, List.all_eq_true, Bool.and_eq_true] at h
  have z : ∀ (i : Nat) (o : Oper), l[i]? = some o → (o, i) ∈ l.zipIdx := fun i o ho => by
    rw [List.mem_zipIdx_iff_getElem?]; simpa using ho
  refine ⟨fun i o ho j b hg => ?_, fun i o ho j p hp t ht hop => ?_, fun i o ho j p hp t ht hd => ?_⟩
  · have := (h _ (z _ _ ho)).1
    simp only [hg, Bool.and_eq_true, decide_eq_true_eq] at this
    exact ⟨this.2, afterB_of this.1⟩
  · have := (h _ (z _ _ ho)).2 _ (z _ _ hp)
    simp only [ht, Bool.and_eq_true, Bool.or_eq_true] at this
    rcases this.1 with h1 | h1
    · exfalso
      have : t ∈ opTmps o := by
        simp only [opTmps, List.mem_filterMap]
        exact ⟨_, hop, rfl⟩
      simp [this] at h1
    · exact afterB_of h1
  · have := (h _ (z _ _ ho)).2 _ (z _ _ hp)
    simp only [ht, Bool.and_eq_true, Bool.or_eq_true, decide_eq_true_eq] at this
    rcases this.2 with h1 | h1
    · exact h1
    · exact absurd hd h1
end Go.Proofs.Ytpbpmabnmakdoaa.Vc
