/- The symbolic executor: what its tree asks gives what the code does. -/
import Derived.Test.YtiiabaklipmbbaaVi
import Derived.Test.YtiiabaklipmbbaaVp
import Derived.Test.YtiiabaklipmbbaaV3
namespace Go.Proofs.Ytiiabaklipmbbaa.Vc
noncomputable section
open Go Go.RowKit
variable {ρ ρ' : List AV} {β β' : Mp} {W W' : Nat → Prop} {w w' : World} {P : Program} {C : Cfg} {B : Nat} {w0 : World}
variable {Γ : FuncId → Con} {Qd : List AV → Prop}

def Ex.to : Ex → Exit
  | .normal => .normal
  | .exit id => .exit id
  | .ret => .ret
/-- a call's body keeps the caller's frame -/
def FrLater (ρ : List AV) (β : Mp) (s : S) (ρ' : List AV) (β' : Mp) (s' : S) : Prop := ∀ a, Fr ρ β s a → Fr ρ' β' s' a
/-- walking into callees is sound -/
def CallOk (P : Program) (C : Cfg) (Γ : FuncId → Con) (Qd : List AV → Prop) (B : Nat) (w0 : World) (callF : CallF) : Prop :=
  ∀ (f : FuncId) (args : List SV) (s : S) (K : SV → S → Tree) (ρ : List AV) (β : Mp) (W : Nat → Prop) (w : World) (ctx : List (List AV → Prop)) (vals : List Value),
    Mem C B w0 ρ β W s w → RelL (SV.rel ρ β) args vals → ctx.length = s.lvl → (callF f args s K).den Γ Qd ρ ctx →
    (∃ fn, P.funcs[f]? = some fn ∧ fn.body.isNone = false ∧ (fn.name == "runtime.NumGoroutine") = false) ∧
    ∀ R : Ending → World → Prop, (∀ sv s' ρ' β' W' w' ctx' v, (∃ d, ctx' = ctx ++ d) → ctx'.length = s'.lvl → Mem C B w0 ρ' β' W' s' w' → FrLater ρ β s ρ' β' s' → Later ρ β s ρ' β' s' → sv.rel ρ' β' v → (K sv s').den Γ Qd ρ' ctx' → R (.returned v) w') → Calls P f vals.toArray w R
section
variable {ctx : List (List AV → Prop)} {s : S} {a : Act} {ops : Array Oper}
theorem Onw.step {K : S → Tree} {K' : Act → World → Prop} {ds : List Deferred} (hK : Onw C B w0 Γ Qd ctx ρ β s ds K K') {ρ1 : List AV} {β1 : Mp} {s1 : S} {ctx1 : List (List AV → Prop)} (hc : ∃ d, ctx1 = ctx ++ d) (hl : Later ρ β s ρ1 β1 s1) : Onw C B w0 Γ Qd ctx1 ρ1 β1 s1 ds K K' := by
  intro ρ' β' W' s' a' w' ctx' ⟨d, hd⟩ hlv m fr l df hden
  obtain ⟨d0, rfl⟩ := hc
  exact hK ρ' β' W' s' a' w' ctx' ⟨d0 ++ d, by rw [hd, List.append_assoc]⟩ hlv m fr (hl.trans l) df hden
theorem qstep_seq (hC : C.Ok P) (hΓ : ConsOk P C Γ B w0) (hlv : ctx.length = s.lvl) {o : Oper} {st : St} (hq : qstep C s ops o = some st) (m : Mem C B w0 ρ β W s w) (fr : Fr ρ β s a) {K : S → Tree} {K' : Act → World → Prop} {Q : Exit → Act → World → Prop}
    (hden : (st.emit K).den Γ Qd ρ ctx) (hK : Onw C B w0 Γ Qd ctx ρ β s a.defers K K') :
    if Region.wanted o (yielded ops a.tmps) then o.wp P a w K' Q else K' (a.put o.dst Go.undef) w := by
  unfold qstep at hq
  split at hq
  · cases hq
  · rename_i g hgo
    have hx : ∀ j b t, o.guard = some (j, b) → (ops[j]?).bind (·.dst) = some t → ∀ sl, s.tmps[t]? = some (some sl) → sl.rel ρ β (a.tmps.getD t Go.undef) ∧ t < a.tmps.size :=
      fun j b t _ _ sl hs => ⟨fr.2 t sl hs, by rw [fr.1]; exact (List.getElem?_eq_some_iff.1 hs).1⟩
    have hw := guard_sound hgo hx
    split at hq
    · -- never carried out
      rename_i hno
      obtain rfl := Option.some.inj hq
      have hgf : g.B ρ = false := by
        have := S.holds_B m.facts (show (X.bl true).B ρ = true from rfl) hno
        rw [xnot] at this
        cases h : g.B ρ
        · rfl
        · rw [h] at this; cases this
      rw [hw, hgf]
      simp only [Bool.false_eq_true, if_false]
      exact hK ρ β W _ _ w ctx ⟨[], by simp⟩ (by rw [put_lvl]; exact hlv) (m.put _ _) (fr.put (sl := ⟨.bl true, .undef⟩) (v := Go.undef) ⟨fun _ => rfl, fun _ => rfl⟩) ((Later.refl _ _ _).put _ _) (put_defers _ _ _) hden
    · -- the guard as it will be used
      have hgs : guardOf s ops o = some (if s.holds (.bl true) g then .bl true else g) ∨ (guardOf s ops o).map (fun g => g.B ρ) = some true ∧ (if s.holds (.bl true) g then .bl true else g) = .bl true := by
        by_cases h : s.holds (.bl true) g = true
        · refine .inr ⟨?_, by rw [if_pos h]⟩
          rw [hgo]
          exact congrArg some (S.holds_B m.facts (show (X.bl true).B ρ = true from rfl) h)
        · exact .inl (by rw [if_neg h]; exact hgo)
      generalize (if s.holds (.bl true) g then X.bl true else g) = g1 at hq hgs
      simp only at hq
      split at hq
      · rename_i r hr
        obtain rfl := Option.some.inj hq
        exact qop_seq hC hlv hr m fr hgs hden hK
      · exact call_seq hC hlv hΓ hq m fr hgs hden hK
theorem with_lvl (s : S) (l : List X) : (s.with l).lvl = s.lvl := rfl
theorem stepW_sound (hC : C.Ok P) {callF : CallF} (hF : CallOk P C Γ Qd B w0 callF) {Q : Exit → Act → World → Prop} {o : Oper} (hgd : o.guard = none) {K : S → Tree} {K' : Act → World → Prop} (hlv : ctx.length = s.lvl) (m : Mem C B w0 ρ β W s w) (fr : Fr ρ β s a)
    (hden : (stepW C callF o s K).den Γ Qd ρ ctx) (hK : Onw C B w0 Γ Qd ctx ρ β s a.defers K K') : o.wp P a w K' Q := by
  unfold stepW at hden
  split at hden
  · -- a step that writes
    rename_i nd s' hst
    obtain ⟨hnd, hden'⟩ := needAll_den hden
    have hnd' : ∀ x ∈ nd, x.B ρ = true := fun x hx => by
      by_cases hh : s.holds (.bl true) x = true
      · exact S.holds_B m.facts rfl hh
      · exact hnd x (List.mem_filter.2 ⟨hx, by simpa using hh⟩)
    cases ho : o.op with
    | store t p x =>
      obtain ⟨hw, w', hrun, m', fr', hl', hlvl⟩ := store_seq (ops := #[]) hC ho hst m fr hnd'
      unfold Oper.wp
      rw [hrun, Oper.upon_skip]
      exact hK ρ β W _ _ w' ctx ⟨[], by simp⟩ (by rw [with_lvl, hlvl]; exact hlv) (m'.with hnd) ⟨fr'.1, fr'.2⟩ (hl'.with _) (put_defers _ _ _) hden'
    | call c =>
      obtain ⟨hw, u, w', β', W', hrun, m', fr', hl', hlvl⟩ := append_seq (ops := #[]) hC ho hst m fr hnd'
      unfold Oper.wp
      rw [hrun, Oper.upon_value]
      exact hK ρ β' W' _ _ w' ctx ⟨[], by simp⟩ (by rw [with_lvl, hlvl]; exact hlv) (m'.with hnd) ⟨fr'.1, fr'.2⟩ (hl'.with _) (put_defers _ _ _) hden'
    | _ => simp [estep, ho] at hst
  · split at hden
    · -- nil or not
      rename_i op t x ty ho
      split at hden
      · rename_i b sz off len cp e0 s0 b0 z0 el0 pl0 s' hv htd hmore
        have tt : (X.bl true).B ρ = true := rfl
        have hrel := val_rel m.facts tt m.glob (opd_of_fr fr x) hv
        obtain ⟨q, m0, c, hu, h0, hnil⟩ := slc_nil hrel
        have hsl := slice_dk (hC.ty _ _ htd) rfl
        obtain ⟨e1, e2⟩ := nil_eq (P := P) (w := w) hsl (op := op) x (.const (.slice none 0 0)) q m0 c
        have hkt : KT [VK.b] [AV.b q.isNone] := ⟨rfl, fun i k hk => by
          cases i with
          | zero => simp at hk; subst hk; rfl
          | succ i => simp at hk⟩
        obtain ⟨rfl, m2⟩ := m.more hmore hkt
        have fr2 := Fr.more (δ := [AV.b q.isNone]) m hmore fr
        have hrel2 : (SV.v (.sc (.c (.slc b sz off len cp)))).rel (ρ ++ [AV.b q.isNone]) β (a.eval x) := val_rel m2.facts rfl m2.glob (opd_of_fr fr2 x) hv
        obtain ⟨q2, m1, c1, hu2, _, hnil2⟩ := slc_nil hrel2
        have hqq : q2 = q := by rw [hu] at hu2; injection hu2 with h1; exact h1.symm
        rw [hqq] at hnil2
        have hvar : (X.var s.ks.length).B (ρ ++ [AV.b q.isNone]) = q.isNone := by
          simp [X.B, X.den, ← m.kt.1, AV.bool]
        have hfacts : ∀ y ∈ [imp (.var s.ks.length) (xb .eq len (.lit 0))], y.B (ρ ++ [AV.b q.isNone]) = true := fun y hy => by
          simp only [List.mem_singleton] at hy
          subst hy
          unfold imp
          rw [xor_, xnot, hvar, xeq, lit_I]
          rcases Bool.eq_false_or_eq_true q.isNone with hq | hq
          · rw [hnil2 hq]; simp
          · rw [hq]; rfl
        have hlat : Later ρ β s (ρ ++ [AV.b q.isNone]) β ({ s with ks := s.ks ++ [VK.b] }) := ⟨⟨_, rfl⟩, ⟨_, rfl⟩, Nat.le_refl _, fun k b _ hb => ⟨b, hb, rfl⟩⟩
        have fin : ∀ (y : X) (p : Bool), y.B (ρ ++ [AV.b q.isNone]) = p → ((do eqGuard op t x (.const (.slice none 0 0)) (a.eval x) (a.eval (.const (.slice none 0 0))); binOp op t (a.eval x) (a.eval (.const (.slice none 0 0)))) : Sem Value).run P w = .ok (.bool p) w →
            (Tree.fresh VK.b (assumeAll [imp (.var s.ks.length) (xb .eq len (.lit 0))] (K ((S.with { s with ks := s.ks ++ [VK.b] } [imp (.var s.ks.length) (xb .eq len (.lit 0))]).put o.dst { g := .bl true, v := .v (.sc (.c (.bool y))) })))).den Γ Qd ρ ctx → o.wp P a w K' Q := fun y p hy hrun hd => by
          have hd1 : Tree.den Γ Qd (ρ ++ [AV.b q.isNone]) ctx _ := hd q.isNone
          have hd2 := assumeAll_den hd1 hfacts
          have hr := runv (o := o) (a := a) (m := do eqGuard op t x (.const (.slice none 0 0)) (a.eval x) (a.eval (.const (.slice none 0 0))); binOp op t (a.eval x) (a.eval (.const (.slice none 0 0)))) (by simp [execOp, ho]) hrun
          unfold Oper.wp
          rw [hr, Oper.upon_value]
          exact hK _ β W _ _ w ctx ⟨[], by simp⟩ (by rw [put_lvl]; exact hlv) ((m2.with hfacts).put _ _) (Fr.put (s := S.with { s with ks := s.ks ++ [VK.b] } [imp (.var s.ks.length) (xb .eq len (.lit 0))]) ⟨fr2.1, fr2.2⟩ ⟨fun _ => by show Value.bool _ = Value.bool _; rw [hy], fun h => (by cases h)⟩) ((hlat.with _).put _ _) (put_defers _ _ _) hd2
        simp only at hden
        split at hden
        · exact fin _ _ hvar (by rw [hu]; exact e1 rfl) hden
        · exact fin _ _ (by rw [xnot, hvar]) (by rw [hu]; exact e2 rfl) hden
        · exact hden.elim
      · exact hden.elim
    · -- a callee walked into
      rename_i f args ts ho
      split at hden
      · rename_i fid first caps vs hv hvs
        have tt : (X.bl true).B ρ = true := rfl
        obtain ⟨us1, us2, hfe, hr1, hr2⟩ := val_rel m.facts tt m.glob (opd_of_fr fr f) hv
        have hrv := vals_rel (C := C) (s := s) (a := a) m.facts tt m.glob hvs (fun x _ => opd_of_fr fr x)
        have hall := ((caps_relL hr1).append hrv).append (caps_relL hr2)
        obtain ⟨⟨fn, hfn, hbody, hname⟩, hcall⟩ := hF fid _ s _ ρ β W w ctx _ m hall hlv hden
        unfold Oper.wp
        rw [run_call ho hfe hfn hbody hname, Oper.upon_enter]
        refine hcall _ fun sv s' ρ' β' W' w' ctx' v hc hlv' m' hfl hl' hrel hden' => ?_
        exact hK ρ' β' W' _ _ w' ctx' hc (by rw [put_lvl]; exact hlv') (m'.put _ _) ((hfl a fr).put ⟨fun _ => hrel, fun h => by cases h⟩) (hl'.put _ _) (put_defers _ _ _) hden'
      · exact hden.elim
    · exact hden.elim
theorem execOps_sound (hC : C.Ok P) (hΓ : ConsOk P C Γ B w0) {callF : CallF} (hF : CallOk P C Γ Qd B w0 callF) {Q : Exit → Act → World → Prop} : ∀ (l : List Oper) (ctx : List (List AV → Prop)) (s : S) (ρ : List AV) (β : Mp) (W : Nat → Prop) (a : Act) (w : World) (K : S → Tree),
    ctx.length = s.lvl → Mem C B w0 ρ β W s w → Fr ρ β s a → (execOps C callF ops l s K).den Γ Qd ρ ctx → Onw C B w0 Γ Qd ctx ρ β s a.defers K (fun a w => Q .normal a w) → wpList P ops Q l a w
  | [], ctx, s, ρ, β, W, a, w, K, hlv, m, fr, hden, hK => wpList_nil (hK ρ β W s a w ctx ⟨[], by simp⟩ hlv m fr (Later.refl _ _ _) rfl hden)
  | o :: l, ctx, s, ρ, β, W, a, w, K, hlv, m, fr, hden, hK => by
    have next : ∀ ctx' s' ρ' β' W' a' w', (∃ d, ctx' = ctx ++ d) → ctx'.length = s'.lvl → Mem C B w0 ρ' β' W' s' w' → Fr ρ' β' s' a' → Later ρ β s ρ' β' s' → a'.defers = a.defers → (execOps C callF ops l s' K).den Γ Qd ρ' ctx' → wpList P ops Q l a' w' :=
      fun ctx' s' ρ' β' W' a' w' hc hlv' m' fr' hl' hd' hden' => execOps_sound hC hΓ hF l ctx' s' ρ' β' W' a' w' K hlv' m' fr' hden' (by rw [hd']; exact hK.step hc hl')
    simp only [execOps] at hden
    split at hden
    · rename_i st hst
      refine wpList_step fun K' hK' => ?_
      refine qstep_seq hC hΓ hlv hst m fr hden ?_
      intro ρ' β' W' s' a' w' ctx' hc hlv' m' fr' hl' hd' hden'
      exact hK' _ _ (next ctx' s' ρ' β' W' a' w' hc hlv' m' fr' hl' hd' hden')
    · split at hden
      · rename_i hgd
        refine wpList_step fun K' hK' => ?_
        have hw : Region.wanted o (yielded ops a.tmps) = true := by simp [Region.wanted, hgd]
        rw [hw, if_pos rfl]
        refine stepW_sound hC hF hgd hlv m fr hden ?_
        intro ρ' β' W' s' a' w' ctx' hc hlv' m' fr' hl' hd' hden'
        exact hK' _ _ (next ctx' s' ρ' β' W' a' w' hc hlv' m' fr' hl' hd' hden')
      · split at hden
        · rename_i g hgo
          refine wpList_step fun K' hK' => ?_
          have hx : ∀ j b t, o.guard = some (j, b) → (ops[j]?).bind (·.dst) = some t → ∀ sl, s.tmps[t]? = some (some sl) → sl.rel ρ β (a.tmps.getD t Go.undef) ∧ t < a.tmps.size :=
            fun j b t _ _ sl hs => ⟨fr.2 t sl hs, by rw [fr.1]; exact (List.getElem?_eq_some_iff.1 hs).1⟩
          have hw := guard_sound hgo hx
          rw [hw]
          split at hden
          · rename_i hh
            have hgB := S.holds_B m.facts (show (X.bl true).B ρ = true from rfl) hh
            rw [hgB, if_pos rfl]
            have hs := stepW_sound (Q := Q) (o := { o with guard := none }) (K' := K') hC hF rfl hlv m (s := s) (a := a) fr hden (by
              intro ρ' β' W' s' a' w' ctx' hc hlv' m' fr' hl' hd' hden'
              exact hK' _ _ (next ctx' s' ρ' β' W' a' w' hc hlv' m' fr' hl' hd' hden'))
            exact hs
          obtain ⟨h1, h2⟩ := hden
          cases hgB : g.B ρ
          · simp only [Bool.false_eq_true, if_false]
            have hng : ∀ x ∈ [mkNot g], x.B ρ = true := fun x hx => by simp at hx; subst hx; rw [xnot, hgB]; rfl
            have mm := (m.with hng).put o.dst ⟨.bl true, .undef⟩
            have ff : Fr ρ β ((s.with [mkNot g]).put o.dst ⟨.bl true, .undef⟩) (a.put o.dst Go.undef) := Fr.put (s := s.with [mkNot g]) ⟨fr.1, fr.2⟩ ⟨fun _ => rfl, fun _ => rfl⟩
            exact hK' _ _ (next ctx _ ρ β W _ w ⟨[], by simp⟩ (by rw [put_lvl]; exact hlv) mm ff (((Later.refl _ _ _).with _).put _ _) (put_defers _ _ _) (h2 hgB))
          · simp only [if_true]
            have hg1 : ∀ x ∈ [g], x.B ρ = true := fun x hx => by simp at hx; subst hx; exact hgB
            have hs := stepW_sound (Q := Q) (o := { o with guard := none }) (K' := K') hC hF rfl (by rw [with_lvl]; exact hlv) (m.with hg1) (s := s.with [g]) (a := a) ⟨fr.1, fr.2⟩ (h1 hgB) (by
              intro ρ' β' W' s' a' w' ctx' hc hlv' m' fr' hl' hd' hden'
              exact hK' _ _ (next ctx' s' ρ' β' W' a' w' hc hlv' m' fr' (Later.trans ((Later.refl _ _ _).with _) hl') hd' hden'))
            exact hs
        · exact hden.elim
/-- a region whose order is open -/
theorem region_sound (hC : C.Ok P) (hΓ : ConsOk P C Γ B w0) (hm : P.follows .mixedOrders = true) {callF : CallF} (hF : CallOk P C Γ Qd B w0 callF) {Q : Exit → Act → World → Prop} {id : Nat} {K : S → Tree} (n : Nat) (hlv : ctx.length = s.lvl) (m : Mem C B w0 ρ β W s w) (fr : Fr ρ β s a)
    (ht : tailB (ops.toList.take n) (ops.toList.drop n) = true) (hsc : (s.more []).isSome = true) {L : List (List Nat × St)} (hrun : headRun C ops (ops.toList.take n) s = some L) (hcl : closedB s L = true) (hob : orderB (predsOf [] (ops.toList.take n)) (infosOf ops (ops.toList.take n) s L) = true)
    (hden : (emitHead (fun s => assumeAll (s.newsC C) (execOps C callF ops (ops.toList.drop n) (s.with (s.newsC C)) K)) s L).den Γ Qd ρ ctx)
    (hK : Onw C B w0 Γ Qd ctx ρ β s a.defers K (fun a w => Q .normal a w)) : (Code.region id ops true).wp P Q a w := by
  have hl : (ops.toList.take n) ++ (ops.toList.drop n) = ops.toList := List.take_append_drop n _
  have ho : ops = ((ops.toList.take n) ++ (ops.toList.drop n)).toArray := by rw [hl]
  refine wp_region_any hm ?_
  generalize ops.toList.take n = pre at *
  generalize ops.toList.drop n = tail at *
  subst ho
  have ok := tailOk_of ht
  have h2 := region_head (Q := Q) (R := wpAny P .any (pre ++ tail).toArray Q tail.length (firstN pre.length (pre ++ tail).length)) hC hΓ hlv m fr ok hsc hrun hcl hob hden ?_
  · have h3 := wpAny_head ok tail.length pre.length (Array.replicate (pre ++ tail).toArray.size false) a { w with drawn := w.drawn + 1 } (by simp) (fun t _ hx => by
      rcases Nat.lt_or_ge t (pre ++ tail).length with hlt | hge
      · simp only [List.size_toArray, Array.getD_eq_getD_getElem?] at hx
        rw [Array.getElem?_replicate, if_pos hlt] at hx
        cases hx
      · exact hge) (by
        have e : (Array.replicate (pre ++ tail).toArray.size false).extract 0 pre.length = Array.replicate pre.length false := by
          apply Array.ext
          · simp
          · intro i _ _; simp
        rw [e]; exact h2)
    simpa using h3
  · intro ρ' β' W' s' a' w' ctx' hc hlv' m' fr' hl' hd' hden'
    have hnews := newsC_sound m' fr'
    have hden2 := assumeAll_den hden' hnews
    refine wpAny_tail ok tail 0 a' w' (by simp) (by simp) ?_
    exact execOps_sound hC hΓ hF tail ctx' (s'.with (s'.newsC C)) ρ' β' W' a' w' K hlv' (m'.with hnews) ⟨fr'.1, fr'.2⟩ hden2 (by rw [hd']; exact hK.step hc (hl'.with _))
theorem region_looks (hC : C.Ok P) (hΓ : ConsOk P C Γ B w0) (hm : P.follows .mixedOrders = true) {callF : CallF} (hF : CallOk P C Γ Qd B w0 callF) {Q : Exit → Act → World → Prop} {id : Nat} {K : S → Tree} (n : Nat) (hlv : ctx.length = s.lvl) (m : Mem C B w0 ρ β W s w) (fr : Fr ρ β s a)
    (hl : lookB ops n = true) (hden : (lookRun C ops (fun s => execOps C callF ops (ops.toList.drop n) s K) (ops.toList.take n) s).den Γ Qd ρ ctx)
    (hK : Onw C B w0 Γ Qd ctx ρ β s a.defers K (fun a w => Q .normal a w)) : (Code.region id ops true).wp P Q a w := by
  simp only [lookB, Bool.and_eq_true] at hl
  obtain ⟨ht, hob⟩ := hl
  have hl : (ops.toList.take n) ++ (ops.toList.drop n) = ops.toList := List.take_append_drop n _
  have ho : ops = ((ops.toList.take n) ++ (ops.toList.drop n)).toArray := by rw [hl]
  refine wp_region_any hm ?_
  generalize ops.toList.take n = pre at *
  generalize ops.toList.drop n = tail at *
  subst ho
  have ok := tailOk_of ht
  have h2 := region_look (Q := Q) (R := wpAny P .any (pre ++ tail).toArray Q tail.length (firstN pre.length (pre ++ tail).length)) hC hΓ hlv m fr ok hob hden ?_
  · have h3 := wpAny_head ok tail.length pre.length (Array.replicate (pre ++ tail).toArray.size false) a { w with drawn := w.drawn + 1 } (by simp) (fun t _ hx => by
      rcases Nat.lt_or_ge t (pre ++ tail).length with hlt | hge
      · simp only [List.size_toArray, Array.getD_eq_getD_getElem?] at hx
        rw [Array.getElem?_replicate, if_pos hlt] at hx
        cases hx
      · exact hge) (by
        have e : (Array.replicate (pre ++ tail).toArray.size false).extract 0 pre.length = Array.replicate pre.length false := by
          apply Array.ext
          · simp
          · intro i _ _; simp
        rw [e]; exact h2)
    simpa using h3
  · intro ρ' β' W' s' a' w' ctx' hc hlv' m' fr' hl' hd' hden'
    refine wpAny_tail ok tail 0 a' w' (by simp) (by simp) ?_
    exact execOps_sound hC hΓ hF tail ctx' s' ρ' β' W' a' w' K hlv' m' fr' hden' (by rw [hd']; exact hK.step hc hl')
theorem wp_frame {o : Oper} {a : Act} {w : World} {K : Act → World → Prop} {Q : Exit → Act → World → Prop} (h : o.wp P a w K Q) :
    o.wp P a w (fun a' w' => K a' w' ∧ ∀ t, o.dst ≠ some t → a'.tmps.getD t Go.undef = a.tmps.getD t Go.undef) Q := by
  have hp : ∀ (b : Act) v, b.tmps = a.tmps → ∀ t, o.dst ≠ some t → (b.put o.dst v).tmps.getD t Go.undef = a.tmps.getD t Go.undef := fun b v hb t ht => by
    rw [getD_put, if_neg (fun hc => ht hc.1), hb]
  unfold Oper.wp at *
  generalize (execOp a.eval o).run P w = r at *
  cases r with
  | ok n w' =>
    cases n <;> simp only [Oper.upon] at h ⊢ <;>
      first
        | exact ⟨h, fun t ht => hp _ _ rfl t ht⟩
        | exact ⟨h, fun t ht => hp { a with defers := _ :: a.defers } _ rfl t ht⟩
        | exact Calls.mono h (fun e w'' he => by
            cases e <;> first
              | exact ⟨he, fun t ht => hp _ _ rfl t ht⟩
              | exact he)
        | exact Rows.mono h (fun v w'' he => ⟨he, fun t ht => hp _ _ rfl t ht⟩)
        | exact h
  | halt x w' => cases x <;> simp only [Oper.upon] at h ⊢ <;> exact h
theorem frame_if {o : Oper} {a : Act} {w : World} {K : Act → World → Prop} {Q : Exit → Act → World → Prop} (h : if Region.wanted o (yielded ops a.tmps) then o.wp P a w K Q else K (a.put o.dst Go.undef) w) :
    if Region.wanted o (yielded ops a.tmps) then o.wp P a w (fun a' w' => K a' w' ∧ ∀ t, o.dst ≠ some t → a'.tmps.getD t Go.undef = a.tmps.getD t Go.undef) Q
    else (fun a' w' => K a' w' ∧ ∀ t, o.dst ≠ some t → a'.tmps.getD t Go.undef = a.tmps.getD t Go.undef) (a.put o.dst Go.undef) w := by
  split at h
  · rename_i hw
    rw [if_pos hw]
    exact wp_frame h
  · rename_i hw
    rw [if_neg hw]
    exact ⟨h, fun t ht => by rw [getD_put, if_neg (fun hc => ht hc.1)]⟩
/-- one operation -/
theorem oper_sound (hC : C.Ok P) (hΓ : ConsOk P C Γ B w0) {callF : CallF} (hF : CallOk P C Γ Qd B w0 callF) {Q : Exit → Act → World → Prop} {o : Oper} {K : S → Tree} {K' : Act → World → Prop}
    (hlv : ctx.length = s.lvl) (m : Mem C B w0 ρ β W s w) (fr : Fr ρ β s a) (hden : (execOps C callF ops [o] s K).den Γ Qd ρ ctx) (hK : Onw C B w0 Γ Qd ctx ρ β s a.defers K K') :
    if Region.wanted o (yielded ops a.tmps) then o.wp P a w K' Q else K' (a.put o.dst Go.undef) w := by
  simp only [execOps] at hden
  split at hden
  · rename_i st hst
    exact qstep_seq hC hΓ hlv hst m fr hden hK
  · split at hden
    · rename_i hgd
      have hw : Region.wanted o (yielded ops a.tmps) = true := by simp [Region.wanted, hgd]
      rw [hw, if_pos rfl]
      exact stepW_sound hC hF hgd hlv m fr hden hK
    · split at hden
      · rename_i g hgo
        have hx : ∀ j b t, o.guard = some (j, b) → (ops[j]?).bind (·.dst) = some t → ∀ sl, s.tmps[t]? = some (some sl) → sl.rel ρ β (a.tmps.getD t Go.undef) ∧ t < a.tmps.size :=
          fun j b t _ _ sl hs => ⟨fr.2 t sl hs, by rw [fr.1]; exact (List.getElem?_eq_some_iff.1 hs).1⟩
        have hw := guard_sound hgo hx
        rw [hw]
        split at hden
        · rename_i hh
          have hgB := S.holds_B m.facts (show (X.bl true).B ρ = true from rfl) hh
          rw [hgB, if_pos rfl]
          exact stepW_sound (Q := Q) (o := { o with guard := none }) (K' := K') hC hF rfl hlv m (s := s) (a := a) fr hden hK
        obtain ⟨h1, h2⟩ := hden
        cases hgB : g.B ρ
        · simp only [Bool.false_eq_true, if_false]
          have hng : ∀ x ∈ [mkNot g], x.B ρ = true := fun x hx => by simp at hx; subst hx; rw [xnot, hgB]; rfl
          have mm := (m.with hng).put o.dst ⟨.bl true, .undef⟩
          have ff : Fr ρ β ((s.with [mkNot g]).put o.dst ⟨.bl true, .undef⟩) (a.put o.dst Go.undef) := Fr.put (s := s.with [mkNot g]) ⟨fr.1, fr.2⟩ ⟨fun _ => rfl, fun _ => rfl⟩
          exact hK ρ β W _ _ w ctx ⟨[], by simp⟩ (by rw [put_lvl]; exact hlv) mm ff (((Later.refl _ _ _).with _).put _ _) (put_defers _ _ _) (h2 hgB)
        · simp only [if_true]
          have hg1 : ∀ x ∈ [g], x.B ρ = true := fun x hx => by simp at hx; subst hx; exact hgB
          exact stepW_sound (Q := Q) (o := { o with guard := none }) (K' := K') hC hF rfl (by rw [with_lvl]; exact hlv) (m.with hg1) (s := s.with [g]) (a := a) ⟨fr.1, fr.2⟩ (h1 hgB) (by
            intro ρ' β' W' s' a' w' ctx' hc hlv' m' fr' hl' hd' hden'
            exact hK ρ' β' W' s' a' w' ctx' hc hlv' m' fr' (Later.trans ((Later.refl _ _ _).with _) hl') hd' hden')
      · exact hden.elim
/-- looking around leaves all as it is, but for slots -/
theorem pureRun_den {K : S → Tree} : ∀ (l : List Nat) (s : S), (pureRun C ops K l s).den Γ Qd ρ ctx → Mem C B w0 ρ β W s w →
    ∃ s2, (K s2).den Γ Qd ρ ctx ∧ Mem C B w0 ρ β W s2 w ∧ s2.heap = s.heap ∧ s2.ks = s.ks ∧ s2.lvl = s.lvl ∧ s2.tmps.length = s.tmps.length ∧ ∀ t, t ∉ dstsOf ops l → s2.tmps[t]? = s.tmps[t]?
  | [], s, h, m => ⟨s, h, m, rfl, rfl, rfl, rfl, fun _ _ => rfl⟩
  | i :: l, s, h, m => by
    simp only [pureRun] at h
    split at h
    · exact h.elim
    · rename_i o ho
      split at h
      · rename_i st hq
        split at h
        · rename_i hc
          simp only [Bool.and_eq_true, Option.isNone_iff_eq_none, decide_eq_true_eq] at hc
          obtain ⟨hcall, hlen⟩ := hc
          obtain ⟨hnd, h⟩ := needAll_den h
          obtain ⟨es, ks, sl, sh⟩ := qstep_shape hq
          have hes : es = [] := by
            have := congrArg List.length sh.heap
            rw [List.length_append, hlen] at this
            exact List.length_eq_zero_iff.1 (by omega)
          have hks : ks = [] := sh.nocall hcall
          have eh : st.s.heap = s.heap := by rw [sh.heap, hes, List.append_nil]
          have ek : st.s.ks = s.ks := by rw [sh.ks, hks, List.append_nil]
          have hfacts : st.s.factsOk ρ := fun x hx => by
            rcases sh.facts x hx with h1 | h1
            · exact m.facts x h1
            · exact hnd x h1
          have m2 : Mem C B w0 ρ β W st.s w := ⟨⟨m.below, m.size, m.wlo, fun k e b hk => m.heap k e b (by simpa [S.H, eh] using hk), m.dist, m.own, m.glob⟩, by rw [eh]; exact m.all, by rw [eh]; exact m.top, hfacts, by rw [ek]; exact m.kt⟩
          obtain ⟨s2, h1, h2, h3, h4, h5, h6, h7⟩ := pureRun_den l st.s h m2
          refine ⟨s2, h1, h2, h3.trans eh, h4.trans ek, h5.trans sh.lvl, h6.trans (by rw [sh.tmps, put_len]), fun t ht => ?_⟩
          simp only [dstsOf, List.filterMap_cons, ho, Option.bind_some] at ht
          have ht2 : t ∉ dstsOf ops l := by
            intro hc; apply ht
            cases o.dst with
            | none => exact hc
            | some d => exact List.mem_cons_of_mem _ hc
          have ht1 : o.dst ≠ some t := fun hc => by
            apply ht; rw [hc]; exact List.mem_cons_self ..
          rw [h7 t ht2, sh.tmps, put_tmps, if_neg (fun hc => ht1 hc.1)]
        · exact h.elim
      · exact h.elim
theorem normS_rel {s : S} (hf : s.factsOk ρ) (sl : Slot) (u : Value) : (normS s sl).rel ρ β u ↔ sl.rel ρ β u := by
  unfold normS
  split
  · rename_i h
    have hg := S.holds_B hf (show (X.bl true).B ρ = true from rfl) h
    exact ⟨fun hr => ⟨fun _ => hr.1 rfl, fun hc => (by rw [hg] at hc; cases hc)⟩, fun hr => ⟨fun _ => hr.1 hg, fun hc => (by cases hc)⟩⟩
  · split
    · rename_i h
      have hg := S.holds_B hf (show (X.bl true).B ρ = true from rfl) h
      rw [xnot] at hg
      have hg : sl.g.B ρ = false := by simpa using hg
      exact ⟨fun hr => ⟨fun hc => (by rw [hg] at hc; cases hc), fun _ => hr.1 rfl⟩, fun hr => ⟨fun _ => hr.2 hg, fun hc => (by cases hc)⟩⟩
    · exact Iff.rfl
theorem dsts_mem {l : List Nat} {t : Nat} : t ∈ dstsOf ops l ↔ ∃ i ∈ l, (ops[i]?).bind (·.dst) = some t := by
  simp [dstsOf, List.mem_filterMap]
theorem maskT_get (s : S) (ds : List Nat) (t : Nat) : (maskT s ds).tmps[t]? = (s.tmps[t]?).map fun x => if ds.contains t then none else x := by
  simp only [maskT, List.getElem?_map, List.getElem?_zipIdx, Option.map_map, Nat.zero_add]
  rfl
theorem unmaskT_get (o s : S) (ds : List Nat) (t : Nat) : (unmaskT o s ds).tmps[t]? = (s.tmps[t]?).map fun x => if ds.contains t then (o.tmps[t]?).getD none else x := by
  simp only [unmaskT, List.getElem?_map, List.getElem?_zipIdx, Option.map_map, Nat.zero_add]
  rfl
theorem mem_tmps (m : Mem C B w0 ρ β W s w) (l : List (Option Slot)) : Mem C B w0 ρ β W { s with tmps := l } w := ⟨m.toPMem, m.all, m.top, m.facts, m.kt⟩
/-- while the operations of a region come up -/
structure FInv (C : Cfg) (B : Nat) (w0 : World) (Γ : FuncId → Con) (Qd : List AV → Prop) (ops : Array Oper) (callF : CallF) (K : S → Tree) (ctx : List (List AV → Prop)) (ρ0 : List AV) (β0 : Mp) (s0 : S) (ds : List Deferred)
    (n : Nat) (past fl : List Nat) (listed : Array Bool) (a : Act) (w : World) (ρ : List AV) (β : Mp) (W : Nat → Prop) (s : S) (ctx' : List (List AV → Prop)) : Prop where
  m : Mem C B w0 ρ β W s w
  sz : a.tmps.size = s.tmps.length
  slots : ∀ (t : Nat) sl, s.tmps[t]? = some (some sl) → (∀ i ∈ fl, listed.getD i true = false → (ops[i]?).bind (·.dst) ≠ some t) → sl.rel ρ β (a.tmps.getD t Go.undef)
  st : ∀ i ∈ fl, stillB C ops s i = true
  lst : ∀ i, i < ops.size → listed.getD i true = true → i ∈ past
  unl : ∀ i ∈ past, listed.getD i true = false → i ∈ fl
  flp : ∀ i ∈ fl, i ∈ past ∧ i < ops.size ∧ isAn ops i = false
  cmp : ∀ i, i < ops.size → isAn ops i = false → anDone ops (predsOf [] ops.toList) past i = true → i ∈ past
  clo : ∀ (j : Nat) o, ops.toList[j]? = some o → listed.getD j true = true → ∀ e ∈ o.after, Region.binds .any e = true → listed.getD e.on false = true
  lsz : listed.size = ops.size
  den : (execDy C callF ops (predsOf [] ops.toList) K n past fl s).den Γ Qd ρ ctx'
  lat : Later ρ0 β0 s0 ρ β s
  cx : ∃ d, ctx' = ctx ++ d
  lv : ctx'.length = s.lvl
  df : a.defers = ds
theorem preds_of {i j : Nat} {p : List Nat} (h : (predsOf [] ops.toList)[j]? = some p) (hi : i ∈ p) : Bef ops.toList i j :=
  preds_bef ops.toList ops.toList [] (by simp) (fun j p h => by simp at h) j p h i hi
theorem preds_of' {i j : Nat} (hi : (((predsOf [] ops.toList)[j]?).getD []).contains i = true) : Bef ops.toList i j := by
  cases h : (predsOf [] ops.toList)[j]? with
  | none => rw [h] at hi; simp at hi
  | some p => rw [h] at hi; exact preds_of h (List.contains_iff_mem.1 hi)
theorem allT_den : ∀ {l : List Tree}, (allT l).den Γ Qd ρ ctx → ∀ t ∈ l, t.den Γ Qd ρ ctx
  | [], h, t, ht => by cases ht
  | [x], h, t, ht => by simp at ht; subst ht; exact h
  | x :: y :: l, h, t, ht => by
    rcases List.mem_cons.1 ht with rfl | ht
    · exact h.1
    · exact allT_den (l := y :: l) h.2 t ht
theorem isAn_false {i : Nat} (hi : i < ops.size) (h : isAn ops i = false) {o : Oper} (ho : ops[i]? = some o) : pureKind o = true := by
  unfold isAn at h
  rw [ho] at h
  simpa using h
theorem newPure_mem {ps : List (List Nat)} {past : List Nat} {i : Nat} : i ∈ newPure ops ps past ↔ i < ops.size ∧ isAn ops i = false ∧ i ∉ past ∧ anDone ops ps past i = true := by
  simp [newPure, and_assoc]
theorem anDone_mono {ps : List (List Nat)} {past : List Nat} {i : Nat} (l : List Nat) (h : anDone ops ps (l ++ past) i = true) (hl : ∀ j ∈ l, isAn ops j = false) : anDone ops ps past i = true := by
  simp only [anDone, List.all_eq_true, Bool.or_eq_true, Bool.not_eq_true', List.contains_iff_mem, List.mem_append] at h ⊢
  intro j hj
  rcases h j hj with h1 | h1 | h1
  · exact .inl h1
  · exact .inl (hl j h1)
  · exact .inr h1
theorem float_any (hC : C.Ok P) (hΓ : ConsOk P C Γ B w0) {callF : CallF} (hF : CallOk P C Γ Qd B w0 callF) {K : S → Tree} {Q : Exit → Act → World → Prop} {ρ0 : List AV} {β0 : Mp} {s0 : S} {ds : List Deferred}
    (early : ∀ (i : Nat) o, ops.toList[i]? = some o → ∀ e ∈ o.after, Region.binds .any e = true → e.on < i)
    (haz : ∀ (i j : Nat) oi oj t, ops[i]? = some oi → ops[j]? = some oj → pureKind oi = true → pureKind oj = true → oi.dst = some t → t ∈ usesOf ops oj → Bef ops.toList i j)
    (hK : Onw C B w0 Γ Qd ctx ρ0 β0 s0 ds K (fun a w => Q .normal a w)) :
    ∀ (f : Nat) (n : Nat) (past fl : List Nat) (listed : Array Bool) (a : Act) (w : World) (ρ : List AV) (β : Mp) (W : Nat → Prop) (s : S) (ctx' : List (List AV → Prop)),
      FInv C B w0 Γ Qd ops callF K ctx ρ0 β0 s0 ds n past fl listed a w ρ β W s ctx' → unl listed ops.size ≤ f → wpAny P .any ops Q f listed a w := by
  -- all listed: the end
  have fin : ∀ (n : Nat) (past fl : List Nat) (listed : Array Bool) (a : Act) (w : World) (ρ : List AV) (β : Mp) (W : Nat → Prop) (s : S) (ctx' : List (List AV → Prop)),
      FInv C B w0 Γ Qd ops callF K ctx ρ0 β0 s0 ds n past fl listed a w ρ β W s ctx' → (∀ i, i < ops.size → listed.getD i true = true) → Q .normal a w := by
    intro n past fl listed a w ρ β W s ctx' inv hall
    have hpast : (List.range ops.size).all past.contains = true := by
      rw [List.all_eq_true]
      intro i hi
      have hi := List.mem_range.1 hi
      exact List.contains_iff_mem.2 (inv.lst i hi (hall i hi))
    have hden := inv.den
    have hden : (K s).den Γ Qd ρ ctx' := by
      cases n <;> (simp only [execDy, hpast, if_true] at hden; exact hden)
    exact hK ρ β W s a w ctx' inv.cx inv.lv inv.m ⟨inv.sz, fun t sl hs => inv.slots t sl hs (fun i hi hl => by
      rw [hall i (inv.flp i hi).2.1] at hl; cases hl)⟩ inv.lat inv.df hden
  have empty : ∀ (n : Nat) (past fl : List Nat) (listed : Array Bool) (a : Act) (w : World) (ρ : List AV) (β : Mp) (W : Nat → Prop) (s : S) (ctx' : List (List AV → Prop)),
      FInv C B w0 Γ Qd ops callF K ctx ρ0 β0 s0 ds n past fl listed a w ρ β W s ctx' → Region.ready .any ops listed = [] → Q .normal a w := by
    intro n past fl listed a w ρ β W s ctx' inv h0
    refine fin n past fl listed a w ρ β W s ctx' inv ?_
    intro i
    induction i using Nat.strongRecOn with
    | _ i ih =>
      intro hi
      cases hc : listed.getD i true
      · exfalso
        have : i ∈ Region.ready .any ops listed := by
          refine mem_rd.2 ⟨hi, hc, ops[i], by simp [hi], fun e he hb => ?_⟩
          have he2 := early i ops[i] (by simp [hi]) e he hb
          have h3 := ih e.on he2 (by omega)
          rw [← getD_tf (by rw [inv.lsz]; omega)]
          exact h3
        rw [h0] at this; cases this
      · rfl
  intro f
  induction f with
  | zero =>
    intro n past fl listed a w ρ β W s ctx' inv hf
    have hall := unl_zero (Nat.le_zero.1 hf)
    refine ⟨?_, fin n past fl listed a w ρ β W s ctx' inv hall⟩
    apply List.eq_nil_iff_forall_not_mem.2
    intro i hi
    obtain ⟨h1, h2, _⟩ := mem_rd.1 hi
    rw [hall i h1] at h2; cases h2
  | succ f ih =>
    intro n past fl listed a w ρ β W s ctx' inv hf
    refine ⟨empty n past fl listed a w ρ β W s ctx' inv, fun i hi => ?_⟩
    obtain ⟨hlt, hun, o, ho, hready⟩ := mem_rd.1 hi
    have hol : ops.toList[i]? = some o := by simpa using ho
    have hr : ∀ o', ops.toList[i]? = some o' → ∀ e ∈ o'.after, Region.binds .any e = true → listed.getD e.on false = true := fun o' ho' => by
      rw [hol] at ho'; obtain rfl := Option.some.inj ho'; exact hready
    have hbef : ∀ j, Bef ops.toList j i → listed.getD j true = true := fun j hj => bef_ready inv.clo hr hj
    have hsi : i < listed.size := by rw [inv.lsz]; exact hlt
    have hset : ∀ j d, (listed.setIfInBounds i true).getD j d = if j = i ∧ i < listed.size then true else listed.getD j d := fun j d => set_getD _ _ _ _
    have hunl : Vc.unl (listed.setIfInBounds i true) ops.size ≤ f := by
      have := unl_set (l := listed) hun (n := ops.size)
      rw [if_pos hlt] at this
      omega
    have hclo : ∀ (j : Nat) oj, ops.toList[j]? = some oj → (listed.setIfInBounds i true).getD j true = true → ∀ e ∈ oj.after, Region.binds .any e = true → (listed.setIfInBounds i true).getD e.on false = true := fun j oj hoj hlj e he hb => by
      rw [hset]
      split
      · rfl
      · by_cases hji : j = i
        · subst hji; exact hr oj hoj e he hb
        · rw [hset, if_neg (fun h => hji h.1)] at hlj
          exact inv.clo j oj hoj hlj e he hb
    have hdone : anDone ops (predsOf [] ops.toList) past i = true := by
      simp only [anDone, List.all_eq_true, Bool.or_eq_true, Bool.not_eq_true', List.contains_iff_mem]
      intro j hj
      right
      have hb : Bef ops.toList j i := preds_of' (List.contains_iff_mem.2 hj)
      have hlj := hbef j hb
      rcases Nat.lt_or_ge j ops.size with h | h
      · exact inv.lst j h hlj
      · exfalso
        have : ∀ {x y : Nat}, Bef ops.toList x y → y < ops.size → x < ops.size := fun {x y} hxy => by
          induction hxy with
          | one hoy he hb => intro hy; have := early _ _ hoy _ he hb; omega
          | step hoy he hb _ ih => intro hy; have := early _ _ hoy _ he hb; exact ih (by omega)
        have := this hb hlt
        omega
    -- operands are done
    have hop : ∀ (s1 : S), s1.tmps = s.tmps → i ∈ fl → ∀ t ∈ usesOf ops o, ∀ sl, s1.tmps[t]? = some (some sl) → sl.rel ρ β (a.tmps.getD t Go.undef) := fun s1 e1 hifl t ht sl hs => by
      rw [e1] at hs
      refine inv.slots t sl hs fun j hj hlj hd => ?_
      obtain ⟨_, hjl, hja⟩ := inv.flp j hj
      obtain ⟨oj, hoj⟩ : ∃ oj, ops[j]? = some oj := ⟨ops[j], by simp [hjl]⟩
      rw [hoj] at hd
      have hb := haz j i oj o t hoj ho (isAn_false hjl hja hoj) (isAn_false hlt (inv.flp i hifl).2.2 ho) hd ht
      have := hbef j hb
      rw [hlj] at this; cases this
    have wrap : ∀ {K' : Act → World → Prop}, (∀ a w, K' a w → wpAny P .any ops Q f (listed.setIfInBounds i true) a w) → (if Region.wanted o (yielded ops a.tmps) then o.wp P a w K' Q else K' (a.put o.dst Go.undef) w) → wpOp P ops Q i (wpAny P .any ops Q f (listed.setIfInBounds i true)) a w := fun hk h => by
      unfold wpOp
      rw [ho]
      simp only
      split
      · rename_i hw; rw [if_pos hw] at h; exact .inl (Oper.wp_mono hk h)
      · rename_i hw; rw [if_neg hw] at h; exact hk _ _ h
    cases hia : isAn ops i with
    | false =>
      -- it looks around
      have hfl : i ∈ fl := inv.unl i (inv.cmp i hlt hia hdone) hun
      have hst := inv.st i hfl
      unfold stillB at hst
      rw [ho] at hst
      simp only at hst
      cases hq : qstep C s ops o with
      | none => rw [hq] at hst; cases hst
      | some st =>
        rw [hq] at hst
        simp only [Bool.and_eq_true, Option.isNone_iff_eq_none, decide_eq_true_eq] at hst
        obtain ⟨⟨⟨hnd0, hcall⟩, hlen⟩, hslot⟩ := hst
        rw [List.all_eq_true] at hnd0
        refine wrap (K' := wpAny P .any ops Q f (listed.setIfInBounds i true)) (fun _ _ h => h) ?_
        have hm := inv.m
        refine head_step hC hΓ hq (fun x hx => S.holds_B hm.facts rfl (hnd0 x hx)) hm.toPMem (by rw [hcall]; intro g f aks ks xs h; cases h) (fun k e b hk hb => hm.heap k e b hk hb) (fun k e h1 h2 => ?_) (fun k h1 h2 => by omega) hm.facts (fun x hx t ht sl hs => ?_) (fun j b t hg ht sl hs => ⟨?_, ?_⟩) fun sl β' W' w' u htm hrel hl' => ?_
        · have := (List.getElem?_eq_some_iff.1 h2).1; omega
        · subst ht
          refine hop s rfl hfl t (List.mem_append.2 (.inl ?_)) sl hs
          simp only [opTmps, List.mem_filterMap]
          exact ⟨_, hx, rfl⟩
        · refine hop s rfl hfl t (List.mem_append.2 (.inr ?_)) sl hs
          rw [hg]; simp only; rw [ht]; simp
        · rw [inv.sz]; exact (List.getElem?_eq_some_iff.1 hs).1
        · have hβ : β' = β := funext fun k => hl'.same k (by omega)
          subst hβ
          refine ih n past fl _ _ w' ρ β' W' s ctx' ⟨⟨hl'.toPMem, hm.all, hm.top, hm.facts, hm.kt⟩, by rw [size_put]; exact inv.sz, fun t sl' hs hno => ?_, inv.st, fun j hj hlj => ?_, fun j hj hlj => ?_, inv.flp, inv.cmp, hclo, by simpa using inv.lsz, inv.den, inv.lat, inv.cx, inv.lv, by rw [put_defers]; exact inv.df⟩ hunl
          · rw [getD_put]
            have hlt2 : t < s.tmps.length := (List.getElem?_eq_some_iff.1 hs).1
            by_cases hd : o.dst = some t
            · rw [if_pos ⟨hd, by rw [inv.sz]; exact hlt2⟩]
              rw [hd] at hslot
              simp only at hslot
              rw [htm, put_tmps, if_pos ⟨hd, hlt2⟩, hs] at hslot
              simp only [decide_eq_true_eq] at hslot
              exact (normS_rel hm.facts sl' u).1 (hslot ▸ (normS_rel hm.facts sl u).2 hrel)
            · rw [if_neg (fun h => hd h.1)]
              refine inv.slots t sl' hs fun j hj hlj => ?_
              by_cases hji : j = i
              · subst hji; rw [ho]; exact hd
              · exact hno j hj (by rw [hset, if_neg (fun h => hji h.1)]; exact hlj)
          · rw [hset] at hlj
            split at hlj
            · rename_i h; rw [h.1]; exact (inv.flp i hfl).1
            · exact inv.lst j hj hlj
          · rw [hset] at hlj
            split at hlj
            · cases hlj
            · exact inv.unl j hj hlj
    | true =>
      have hip : i ∉ past := fun h => by
        have := (inv.flp i (inv.unl i h hun)).2.2
        rw [hia] at this; cases this
      have hnall : ¬ (List.range ops.size).all past.contains = true := fun h => hip (List.contains_iff_mem.1 (List.all_eq_true.1 h i (List.mem_range.2 hlt)))
      have hden := inv.den
      cases n with
      | zero =>
        simp only [execDy] at hden
        rw [if_neg hnall] at hden
        exact (show False from hden).elim
      | succ n =>
        simp only [execDy] at hden
        rw [if_neg hnall] at hden
        have hmem : i ∈ readyAn ops (predsOf [] ops.toList) past := by
          simp only [readyAn, List.mem_filter, List.mem_range, Bool.and_eq_true, Bool.not_eq_true']
          refine ⟨hlt, ⟨hia, ?_⟩, hdone⟩
          cases hc : past.contains i
          · rfl
          · exact absurd (List.contains_iff_mem.1 hc) hip
        have hden := allT_den hden _ (List.mem_map_of_mem hmem)
        simp only [ho] at hden
        generalize hfl' : fl.filter (fun k => !(((predsOf [] ops.toList)[i]?).getD []).contains k) = fl' at hden
        have hfm : ∀ j, j ∈ fl' → j ∈ fl := fun j hj => by rw [← hfl'] at hj; exact (List.mem_filter.1 hj).1
        -- what floats and is not done is kept
        have hkeep : ∀ j ∈ fl, listed.getD j true = false → j ∈ fl' := fun j hj hlj => by
          rw [← hfl']
          refine List.mem_filter.2 ⟨hj, ?_⟩
          cases hc : (((predsOf [] ops.toList)[i]?).getD []).contains j
          · rfl
          · have := hbef j (preds_of' hc)
            rw [hlj] at this; cases this
        generalize hcb : ((dstsOf ops fl').all (scopedT s) && !(match o.dst with | some d => (dstsOf ops fl').contains d | none => false)) = cb at hden
        cases cb with
        | true =>
          simp only [if_true] at hden
          have hif := hcb
          simp only [Bool.and_eq_true] at hif
          obtain ⟨hmore, hdst⟩ := hif
          rw [List.all_eq_true] at hmore
          have sc : ∀ t ∈ dstsOf ops fl', ∀ sl, s.tmps[t]? = some (some sl) → sl.sub (idR s.ks.length s.heap.length) = some sl := fun t ht sl hs => by
            have := hmore t ht
            unfold scopedT at this
            rw [hs] at this
            simp only [decide_eq_true_eq] at this
            exact this
          have hdst' : ∀ t, o.dst = some t → t ∉ dstsOf ops fl' := fun t ht hc => by
            rw [ht] at hdst
            simp only [List.contains_iff_mem.2 hc] at hdst; cases hdst
          have frm : Fr ρ β (maskT s (dstsOf ops fl')) a := by
            refine ⟨by simpa [maskT] using inv.sz, fun t sl hs => ?_⟩
            rw [maskT_get, Option.map_eq_some_iff] at hs
            obtain ⟨x, hx, hxe⟩ := hs
            by_cases hc : (dstsOf ops fl').contains t = true
            · rw [if_pos hc] at hxe; cases hxe
            · rw [if_neg hc] at hxe
              subst hxe
              refine inv.slots t sl hx fun j hj hlj hd => hc (List.contains_iff_mem.2 (dsts_mem.2 ⟨j, hkeep j hj hlj, hd⟩))
          have hm : Mem C B w0 ρ β W (maskT s (dstsOf ops fl')) w := mem_tmps inv.m _
          generalize hln : newPure ops (predsOf [] ops.toList) (i :: past) = l at hden
          have step := oper_sound (s := maskT s (dstsOf ops fl')) (Q := Q) (K' := fun a' w' => ∃ ρ' β' W' s' ctx2, (∃ d, ctx2 = ctx' ++ d) ∧ ctx2.length = s'.lvl ∧ Mem C B w0 ρ' β' W' s' w' ∧ Fr ρ' β' s' a' ∧ Later ρ β (maskT s (dstsOf ops fl')) ρ' β' s' ∧ a'.defers = a.defers ∧
              (pureRun C ops (fun s2 => if (fl' ++ l).all (stillB C ops s2) then execDy C callF ops (predsOf [] ops.toList) K n (l ++ i :: past) (fl' ++ l) s2 else .fail "float") l (unmaskT s s' (dstsOf ops fl'))).den Γ Qd ρ' ctx2)
            hC hΓ hF inv.lv hm frm hden (fun ρ' β' W' s' a' w' ctx2 h1 h2 h3 h4 h5 h6 h7 => ⟨ρ', β', W', s', ctx2, h1, h2, h3, h4, h5, h6, h7⟩)
          refine wrap (fun a' w' hk => ?_) (frame_if step)
          obtain ⟨⟨ρ', β', W', s', ctx2, hcx, hlv, m', fr', hl', hd', hden'⟩, hsame⟩ := hk
          have m2 : Mem C B w0 ρ' β' W' (unmaskT s s' (dstsOf ops fl')) w' := mem_tmps m' _
          obtain ⟨s3, h1, h2, h3, h4, h5, h6, h7⟩ := pureRun_den l _ hden' m2
          split at h1
          · rename_i hall
            rw [List.all_eq_true] at hall
            have hlm : ∀ j, j ∈ l → j < ops.size ∧ isAn ops j = false ∧ j ∉ i :: past ∧ anDone ops (predsOf [] ops.toList) (i :: past) j = true := fun j hj => by
              rw [← hln] at hj; exact newPure_mem.1 hj
            have hlu : ∀ j, j ∈ l → (listed.setIfInBounds i true).getD j true = false := fun j hj => by
              obtain ⟨q1, q2, q3, q4⟩ := hlm j hj
              simp only [List.mem_cons, not_or] at q3
              rw [hset, if_neg (fun h => q3.1 h.1)]
              cases hc : listed.getD j true
              · rfl
              · exact absurd (inv.lst j q1 hc) q3.2
            have hid : (idR s.ks.length s.heap.length).Ok ρ β ρ' β' := by
              obtain ⟨δ, hδ⟩ := hl'.env
              rw [hδ]
              refine idR_ok (by rw [inv.m.kt.1]; exact Nat.le_refl _) fun k hk => ?_
              obtain ⟨b, hb⟩ := inv.m.all k hk
              obtain ⟨b', hb', hv⟩ := hl'.map k b hk hb
              rw [hb, hb']; simp [hv]
            refine ih n (l ++ i :: past) (fl' ++ l) _ a' w' ρ' β' W' s3 ctx2 ⟨h2, ?_, fun t sl hs hno => ?_, hall, fun j hj hlj => ?_, fun j hj hlj => ?_, fun j hj => ?_, fun j hj hja hjd => ?_, hclo, by simpa using inv.lsz, h1, ?_, ?_, ?_, hd'.trans inv.df⟩ hunl
            · rw [fr'.1, h6]; simp [unmaskT]
            · have htl : t ∉ dstsOf ops l := fun hc => by
                obtain ⟨j, hj, hd⟩ := dsts_mem.1 hc
                exact hno j (by simp [hj]) (hlu j hj) hd
              rw [h7 t htl, unmaskT_get, Option.map_eq_some_iff] at hs
              obtain ⟨x, hx, hxe⟩ := hs
              by_cases hc : (dstsOf ops fl').contains t = true
              · rw [if_pos hc] at hxe
                have hs1 : s.tmps[t]? = some (some sl) := by
                  cases hh : s.tmps[t]? with
                  | none => rw [hh] at hxe; cases hxe
                  | some y => rw [hh] at hxe; simp at hxe; rw [hxe]
                have hold := inv.slots t sl hs1 fun j hj hlj => by
                  have hji : j ≠ i := fun h => hip (h ▸ (inv.flp j hj).1)
                  exact hno j (by simp [hkeep j hj hlj]) (by rw [hset, if_neg (fun h => hji h.1)]; exact hlj)
                rw [hsame t (fun hd => hdst' t hd (List.contains_iff_mem.1 hc))]
                exact (Slot.sub_rel hid (sc t (List.contains_iff_mem.1 hc) sl hs1) _).2 hold
              · rw [if_neg hc] at hxe
                subst hxe
                exact fr'.2 t sl hx
            · rw [hset] at hlj
              split at hlj
              · rename_i h; simp [h.1]
              · have := inv.lst j hj hlj
                simp [this]
            · simp only [List.mem_append, List.mem_cons] at hj
              rcases hj with hj | hj | hj
              · simp [hj]
              · rw [hset, if_pos ⟨hj, hsi⟩] at hlj; cases hlj
              · have hji : j ≠ i := fun h => hip (h ▸ hj)
                rw [hset, if_neg (fun h => hji h.1)] at hlj
                have := hkeep j (inv.unl j hj hlj) hlj
                simp [this]
            · simp only [List.mem_append] at hj
              rcases hj with hj | hj
              · obtain ⟨q1, q2, q3⟩ := inv.flp j (hfm j hj)
                exact ⟨by simp [q1], q2, q3⟩
              · obtain ⟨q1, q2, _⟩ := hlm j hj
                exact ⟨by simp [hj], q1, q2⟩
            · have hjd := anDone_mono l hjd (fun k hk => (hlm k hk).2.1)
              by_cases hjp : j ∈ i :: past
              · simp only [List.mem_append]; exact .inr hjp
              · have : j ∈ l := by rw [← hln]; exact newPure_mem.2 ⟨hj, hja, hjp, hjd⟩
                simp [this]
            · refine inv.lat.trans ?_
              obtain ⟨e1, ⟨e2, e3⟩, e4, e5⟩ := hl'
              refine ⟨e1, ⟨e2, ?_⟩, ?_, e5⟩
              · rw [h4]; exact e3
              · rw [h3]; exact e4
            · obtain ⟨d, hd⟩ := hcx
              obtain ⟨d0, hd0⟩ := inv.cx
              exact ⟨d0 ++ d, by rw [hd, hd0, List.append_assoc]⟩
            · rw [h5]; exact hlv
          · exact h1.elim
        | false => exact (show False from hden).elim
theorem region_float (hC : C.Ok P) (hΓ : ConsOk P C Γ B w0) (hm : P.follows .mixedOrders = true) {callF : CallF} (hF : CallOk P C Γ Qd B w0 callF) {Q : Exit → Act → World → Prop} {id : Nat} {K : S → Tree} (hlv : ctx.length = s.lvl) (m : Mem C B w0 ρ β W s w) (fr : Fr ρ β s a)
    (hden : (floatT C callF id ops K s).den Γ Qd ρ ctx)
    (hK : Onw C B w0 Γ Qd ctx ρ β s a.defers K (fun a w => Q .normal a w)) : (Code.region id ops true).wp P Q a w := by
  refine wp_region_any hm ?_
  unfold floatT at hden
  simp only at hden
  generalize hln : newPure ops (predsOf [] ops.toList) [] = l at hden
  split at hden
  · rename_i hb
    simp only [floatB, Bool.and_eq_true] at hb
    obtain ⟨b5, b6⟩ := hb
    have z : ∀ (i : Nat) (o : Oper), ops[i]? = some o → (o, i) ∈ ops.toList.zipIdx := fun i o ho => by
      rw [List.mem_zipIdx_iff_getElem?]; simpa using ho
    have hbw : Below w.heap.size w { w with drawn := w.drawn + 1 } := (Below.refl _ _).drew
    have m1 : Mem C B w0 ρ β W s { w with drawn := w.drawn + 1 } := ⟨m.toPMem.later hbw, m.all, m.top, m.facts, m.kt⟩
    obtain ⟨s2, h1, h2, h3, h4, h5, h6, h7⟩ := pureRun_den l s hden m1
    split at h1
    · rename_i hall
      rw [List.all_eq_true] at hall b5 b6
      have hrep : ∀ j, j < ops.size → (Array.replicate ops.size false).getD j true = false := fun j hj => by
        rw [Array.getD_eq_getD_getElem?, Array.getElem?_replicate, if_pos hj]; rfl
      have hlm : ∀ j, j ∈ l → j < ops.size ∧ isAn ops j = false ∧ j ∉ [] ∧ anDone ops (predsOf [] ops.toList) [] j = true := fun j hj => by
        rw [← hln] at hj; exact newPure_mem.1 hj
      refine float_any hC hΓ hF (fun i o ho e he hbd => ?_) (fun i j oi oj t hoi hoj hpi hpj hd ht => ?_) hK ops.size ops.size l l _ a _ ρ β W s2 ctx
        ⟨h2, by rw [h6]; exact fr.1, fun t sl hs hno => ?_, hall, fun i hi hl => ?_, fun i hi _ => hi, fun i hi => ⟨hi, (hlm i hi).1, (hlm i hi).2.1⟩, fun i hi hia hid => ?_, fun j o ho hl => ?_, by simp, h1, ⟨⟨[], by simp⟩, ⟨[], by simp [h4]⟩, by rw [h3]; exact Nat.le_refl _, fun k b _ hb => ⟨b, hb, rfl⟩⟩, ⟨[], by simp⟩, by rw [h5]; exact hlv, rfl⟩ (unl_le _ _)
      · have := b5 _ (z i o (by simpa using ho))
        simp only [Bool.and_eq_true, Array.all_eq_true', Bool.or_eq_true, Bool.not_eq_true', decide_eq_true_eq] at this
        rcases this.1 e he with h | h
        · rw [hbd] at h; cases h
        · exact h
      · have := b6 _ (z i oi hoi)
        rw [List.all_eq_true] at this
        have := this _ (z j oj hoj)
        simp only [hpi, hpj, hd, Bool.and_self, Bool.not_true, Bool.false_or, Bool.or_eq_true, Bool.not_eq_true'] at this
        rcases this with h | h
        · rw [List.contains_iff_mem.2 ht] at h; cases h
        · exact preds_of' h
      · have htl : t ∉ dstsOf ops l := fun hc => by
          obtain ⟨j, hj, hd⟩ := dsts_mem.1 hc
          exact hno j hj (hrep j (hlm j hj).1) hd
        rw [h7 t htl] at hs
        exact fr.2 t sl hs
      · rw [hrep i hi] at hl; cases hl
      · have hid := anDone_mono (past := []) l (by simpa using hid) (fun k hk => (hlm k hk).2.1)
        rw [← hln]
        exact newPure_mem.2 ⟨hi, hia, by simp, hid⟩
      · have hj : j < ops.size := by
          have := (List.getElem?_eq_some_iff.1 ho).1
          simpa using this
        rw [hrep j hj] at hl; cases hl
    · exact h1.elim
  · exact hden.elim
/-- what is asked of whatever comes behind a piece of code -/
def OnwE (C : Cfg) (B : Nat) (w0 : World) (Γ : FuncId → Con) (Qd : List AV → Prop) (ctx : List (List AV → Prop)) (ρ : List AV) (β : Mp) (s : S) (ds : List Deferred) (K : Ex → S → Tree) (Q : Exit → Act → World → Prop) : Prop :=
  ∀ e, Onw C B w0 Γ Qd ctx ρ β s ds (K e) (fun a w => Q e.to a w)
theorem OnwE.step {K : Ex → S → Tree} {Q : Exit → Act → World → Prop} {ds : List Deferred} (hK : OnwE C B w0 Γ Qd ctx ρ β s ds K Q) {ρ1 : List AV} {β1 : Mp} {s1 : S} {ctx1 : List (List AV → Prop)} (hc : ∃ d, ctx1 = ctx ++ d) (hl : Later ρ β s ρ1 β1 s1) : OnwE C B w0 Γ Qd ctx1 ρ1 β1 s1 ds K Q := fun e => (hK e).step hc hl
theorem inst_ks {s h : S} {args : List X} {r fixed : List Nat} (hi : s.inst h s.ks.length args r fixed = true) : ∃ d, h.ks = s.ks ++ d := by
  simp only [S.inst, Bool.and_eq_true, decide_eq_true_eq] at hi
  obtain ⟨⟨⟨⟨⟨⟨⟨⟨⟨i1, i2⟩, i3⟩, i4⟩, i5⟩, i6⟩, i7⟩, i8⟩, i9⟩, i10⟩ := hi
  rw [List.take_length] at i4
  have := List.take_append_drop s.ks.length h.ks
  rw [i4] at this
  exact ⟨_, this.symm⟩
theorem range_get {n k : Nat} (h : k < n) (own : List Nat) : ((List.range n ++ own)[k]?).getD k = k := by
  rw [List.getElem?_append_left (by simpa using h)]
  simp [h]
theorem execC_sound (hC : C.Ok P) (hΓ : ConsOk P C Γ B w0) (hm : P.follows .mixedOrders = true) {callF : CallF} (hF : CallOk P C Γ Qd B w0 callF) (fn : FuncId) : ∀ (c : Code) (ctx : List (List AV → Prop)) (s : S) (ρ : List AV) (β : Mp) (W : Nat → Prop) (a : Act) (w : World) (K : Ex → S → Tree) (Q : Exit → Act → World → Prop),
    ctx.length = s.lvl → Mem C B w0 ρ β W s w → Fr ρ β s a → (execC C callF fn c s K).den Γ Qd ρ ctx → OnwE C B w0 Γ Qd ctx ρ β s a.defers K Q → c.wp P Q a w := by
  intro c
  induction c with
  | skip => intro ctx s ρ β W a w K Q hlv m fr hden hK; simp only [execC] at hden; exact wp_skip (hK .normal ρ β W s a w ctx ⟨[], by simp⟩ hlv m fr (Later.refl _ _ _) rfl hden)
  | ret => intro ctx s ρ β W a w K Q hlv m fr hden hK; simp only [execC] at hden; exact wp_ret (hK .ret ρ β W s a w ctx ⟨[], by simp⟩ hlv m fr (Later.refl _ _ _) rfl hden)
  | exit id => intro ctx s ρ β W a w K Q hlv m fr hden hK; simp only [execC] at hden; exact wp_exit (hK (.exit id) ρ β W s a w ctx ⟨[], by simp⟩ hlv m fr (Later.refl _ _ _) rfl hden)
  | region id ops draw =>
    intro ctx s ρ β W a w K Q hlv m fr hden hK
    simp only [execC, S.tidy_eq] at hden
    cases draw with
    | false =>
      simp only [Bool.false_eq_true, if_false] at hden
      exact wp_region_list (execOps_sound hC hΓ hF _ ctx s ρ β W a w _ hlv m fr hden (hK .normal))
    | true =>
      simp only [if_true] at hden
      have hfl : (floatT C callF id ops (fun s => K .normal s) s).den Γ Qd ρ ctx → (Code.region id ops true).wp P Q a w := fun h => by
        exact region_float hC hΓ hm hF hlv m fr h (hK .normal)
      generalize (if (headRun C ops ops.toList s).isSome = true then ops.toList.length else headN C ops.toList) = n at hden
      split at hden
      · rename_i hlk
        simp only [Bool.and_eq_true] at hlk
        exact region_looks hC hΓ hm hF _ hlv m fr hlk.2 hden (hK .normal)
      split at hden
      · exact hfl hden
      split at hden
      · rename_i ht
        split at hden
        · rename_i L hL
          split at hden
          · rename_i hsc
            simp only [Bool.and_eq_true] at hsc
            split at hden
            · rename_i hob
              exact region_sound hC hΓ hm hF _ hlv m fr ht hsc.1 hL hsc.2 hob hden (hK .normal)
            · exact hfl hden
          · exact hfl hden
        · exact hfl hden
      · exact hfl hden
  | seq x y hx hy =>
    intro ctx s ρ β W a w K Q hlv m fr hden hK
    simp only [execC] at hden
    refine wp_seq (hx ctx s ρ β W a w _ _ hlv m fr hden fun e => ?_)
    intro ρ' β' W' s' a' w' ctx' hc hlv' m' fr' hl' hd' hden'
    cases e with
    | normal => exact hy ctx' s' ρ' β' W' a' w' K Q hlv' m' fr' hden' (by rw [hd']; exact hK.step hc hl')
    | exit id => exact hK (.exit id) ρ' β' W' s' a' w' ctx' hc hlv' m' fr' hl' hd' hden'
    | ret => exact hK .ret ρ' β' W' s' a' w' ctx' hc hlv' m' fr' hl' hd' hden'
  | cond c x y hx hy =>
    intro ctx s ρ β W a w K Q hlv m fr hden hK
    simp only [execC] at hden
    split at hden
    · exact hden.elim
    · rename_i e he
      have hv := bool_rel m.facts (show (X.bl true).B ρ = true from rfl) m.glob (opd_of_fr fr c) he
      split at hden
      · rename_i hh
        have := S.holds_B m.facts (show (X.bl true).B ρ = true from rfl) hh
        rw [this] at hv
        exact wp_cond_true hv (hx ctx s ρ β W a w K Q hlv m fr hden hK)
      · split at hden
        · rename_i hh
          have := S.holds_B m.facts (show (X.bl true).B ρ = true from rfl) hh
          rw [xnot] at this
          have : e.B ρ = false := by simpa using this
          rw [this] at hv
          exact wp_cond_false hv (hy ctx s ρ β W a w K Q hlv m fr hden hK)
        · have hnews := news_sound m fr
          obtain ⟨h1, h2⟩ := assumeAll_den hden hnews
          have m2 := m.with hnews
          refine wp_cond_split hv (fun ht => ?_) (fun hf => ?_)
          · exact hx ctx ((s.with s.news).with [e]) ρ β W a w K Q hlv (m2.with (l := [e]) (fun x hx => by simp at hx; subst hx; exact ht)) ⟨fr.1, fr.2⟩ (h1 ht) (hK.step ⟨[], by simp⟩ (((Later.refl _ _ _).with _).with _))
          · exact hy ctx ((s.with s.news).with [mkNot e]) ρ β W a w K Q hlv (m2.with (l := [mkNot e]) (fun x hx => by simp at hx; subst hx; rw [xnot, hf]; rfl)) ⟨fr.1, fr.2⟩ (h2 hf) (hK.step ⟨[], by simp⟩ (((Later.refl _ _ _).with _).with _))
  | block id c hc =>
    intro ctx s ρ β W a w K Q hlv m fr hden hK
    simp only [execC] at hden
    refine wp_block (hc ctx s ρ β W a w _ _ hlv m fr hden fun e => ?_)
    intro ρ' β' W' s' a' w' ctx' hcx hlv' m' fr' hl' hd' hden'
    cases e with
    | normal => exact hK .normal ρ' β' W' s' a' w' ctx' hcx hlv' m' fr' hl' hd' hden'
    | ret => exact hK .ret ρ' β' W' s' a' w' ctx' hcx hlv' m' fr' hl' hd' hden'
    | exit i =>
      simp only at hden'
      show Exit.inBlock id Q (.exit i) a' w'
      simp only [Exit.inBlock]
      by_cases hi : i = id
      · rw [if_pos hi] at hden' ⊢
        exact hK .normal ρ' β' W' s' a' w' ctx' hcx hlv' m' fr' hl' hd' hden'
      · rw [if_neg hi] at hden' ⊢
        exact hK (.exit i) ρ' β' W' s' a' w' ctx' hcx hlv' m' fr' hl' hd' hden'
  | loop c hc =>
    intro ctx s ρ β W a w K Q hlv m fr hden hK
    simp only [execC] at hden
    split at hden
    · rename_i la hla
      split at hden
      · -- nil lists made lists of our own
        obtain ⟨β1, W1, m1, fr1, l1, e1⟩ := normOwn_sound (ρ := ρ) la.gens m fr
        generalize normOwn s la.gens = s1 at hden m1 fr1 l1 e1
        have hlv1 : ctx.length = s1.lvl := by rw [e1]; exact hlv
        have hK1 := hK.step (ctx1 := ctx) ⟨[], by simp⟩ l1
        split at hden
        · rename_i G init own hG hinit
          split at hden
          · rename_i hinst0
            simp only [Bool.and_eq_true, decide_eq_true_eq] at hinst0
            obtain ⟨hinst, hlen0⟩ := hinst0
            generalize hh : ({ G.s with lvl := s1.lvl + 1 } : S) = h at hden hinst hlen0
            have hhl : h.lvl = s1.lvl + 1 := by rw [← hh]
            have eks : G.s.ks = h.ks := by rw [← hh]
            have ehp : G.s.heap = h.heap := by rw [← hh]
            rw [ehp] at hlen0
            obtain ⟨I, μ, hI, hbody⟩ := hden
            have hn : s1.ks.length = ρ.length := m1.kt.1.symm
            obtain ⟨m2, fr2, hmp⟩ := inst_sound hinst m1 fr1
            have hksd := inst_ks hinst
            rw [hn, List.take_length] at m2 fr2
            rw [hn] at hI hbody
            try rw [eks] at hI
            try rw [eks] at hbody
            -- the loop's relation
            refine wp_loop_ghost (fun k a' w' => ∃ vs βh Wh, μ vs = k ∧ I vs ∧ KT (h.ks.drop ρ.length) vs ∧ Mem C B w0 (ρ ++ vs) βh Wh h w' ∧ Fr (ρ ++ vs) βh h a' ∧ (∀ k b, k < s1.heap.length → β1 k = some b → ∃ b', βh k = some b' ∧ b'.v = b.v) ∧ a'.defers = a.defers) (μ (fixL (h.ks.drop ρ.length) (init.map (X.den ρ))))
              ⟨fixL (h.ks.drop ρ.length) (init.map (X.den ρ)), _, W1, rfl, hI, fixL_KT _ _, m2, fr2, fun k b hk hb => ?_, rfl⟩ ?_
            · have := hmp k (by omega)
              rw [range_get hk, hb] at this
              simp only [Option.map_some, Option.map_eq_some_iff] at this
              exact this
            · rintro k a' w' ⟨vs, βh, Wh, rfl, hIv, hkt, mh, frh, hmap, hdf⟩
              have hbd := allAV_elim hbody vs hkt hIv
              have hnews := news_sound mh frh
              have hbd' := assumeAll_den hbd hnews
              have hlen : s1.heap.length ≤ h.heap.length := hlen0
              have hks : ∃ d, h.ks = s1.ks ++ d := hksd
              have hlh : Later ρ β1 s1 (ρ ++ vs) βh h := ⟨⟨vs, rfl⟩, hks, hlen, hmap⟩
              refine hc (ctx ++ [fun ns => I ns ∧ μ ns < μ vs]) (h.with h.news) (ρ ++ vs) βh Wh a' w' _ _ (by rw [with_lvl, hhl, ← hlv1]; simp) (mh.with hnews) ⟨frh.1, frh.2⟩ hbd' fun e => ?_
              intro ρ2 β2 W2 s2 a2 w2 ctx2 hcx hlv2 m3 fr3 hl3 hd3 hden3
              cases e with
              | normal =>
                simp only at hden3
                obtain ⟨β5, W5, m5, fr5, l5, e5⟩ := normOwn_sound (ρ := ρ2) la.gens m3 fr3
                generalize normOwn s2 la.gens = s5 at hden3 m5 fr5 l5 e5
                split at hden3
                · rename_i args own' hargs
                  split at hden3
                  · rename_i hinst2
                    obtain ⟨m4, fr4, hmp4⟩ := inst_sound hinst2 m5 fr5
                    obtain ⟨δ, rfl⟩ := hl3.env
                    have htk : (ρ ++ vs ++ δ).take ρ.length = ρ := by rw [List.append_assoc, List.take_left]
                    rw [htk] at m4 fr4
                    obtain ⟨d, rfl⟩ := hcx
                    simp only [Tree.den] at hden3
                    have hget : (ctx ++ [fun ns => I ns ∧ μ ns < μ vs] ++ d).getD s1.lvl (fun _ => False) = fun ns => I ns ∧ μ ns < μ vs := by
                      rw [← hlv1, List.append_assoc, List.getD_eq_getElem?_getD, List.getElem?_append_right (Nat.le_refl _)]
                      simp
                    rw [hget] at hden3
                    show Exit.then _ _ Exit.normal a2 w2
                    refine ⟨_, hden3.2, _, _, W5, rfl, hden3.1, fixL_KT _ _, m4, fr4, fun k b hk hb => ?_, hd3.trans hdf⟩
                    have h4 := hmp4 k (by omega)
                    rw [range_get hk] at h4
                    obtain ⟨b', hb', hbv⟩ := hmap k b hk hb
                    have hk2 : k < (h.with h.news).heap.length := by simp only [S.with]; omega
                    obtain ⟨b2, hb2, hbv2⟩ := hl3.map k b' hk2 hb'
                    obtain ⟨b6, hb6, hbv6⟩ := l5.map k b2 (Nat.lt_of_lt_of_le hk2 hl3.len) hb2
                    rw [hb6] at h4
                    simp only [Option.map_some, Option.map_eq_some_iff] at h4
                    obtain ⟨b3, hb3, hbv3⟩ := h4
                    exact ⟨b3, hb3, by rw [hbv3, hbv6, hbv2, hbv]⟩
                  · exact hden3.elim
                · exact hden3.elim
              | exit id =>
                exact hK1 (.exit id) ρ2 β2 W2 s2 a2 w2 ctx2 (by obtain ⟨d, hd⟩ := hcx; exact ⟨[fun ns => I ns ∧ μ ns < μ vs] ++ d, by rw [hd, List.append_assoc]⟩) hlv2 m3 fr3 (hlh.trans ⟨hl3.env, hl3.ks, hl3.len, hl3.map⟩) (hd3.trans hdf) hden3
              | ret =>
                exact hK1 .ret ρ2 β2 W2 s2 a2 w2 ctx2 (by obtain ⟨d, hd⟩ := hcx; exact ⟨[fun ns => I ns ∧ μ ns < μ vs] ++ d, by rw [hd, List.append_assoc]⟩) hlv2 m3 fr3 (hlh.trans ⟨hl3.env, hl3.ks, hl3.len, hl3.map⟩) (hd3.trans hdf) hden3
          · exact hden.elim
        · exact hden.elim
      · -- unrolled
        refine wp_loop_rounds la.unr ?_
        generalize la.unr = n at hden
        induction n generalizing ctx s ρ β W a w with
        | zero => simp only [roundsT] at hden; exact (show False from hden).elim
        | succ n ih =>
          simp only [roundsT] at hden
          rw [rounds_succ]
          refine hc ctx s ρ β W a w _ _ hlv m fr hden fun e => ?_
          intro ρ' β' W' s' a' w' ctx' hcx hlv' m' fr' hl' hd' hden'
          cases e with
          | normal => exact ih ctx' s' ρ' β' W' a' w' hlv' m' fr' (by rw [hd']; exact hK.step hcx hl') hden'
          | exit id => exact hK (.exit id) ρ' β' W' s' a' w' ctx' hcx hlv' m' fr' hl' hd' hden'
          | ret => exact hK .ret ρ' β' W' s' a' w' ctx' hcx hlv' m' fr' hl' hd' hden'
    · split at hden
      · refine wp_loop_rounds C.conc ?_
        generalize C.conc = n at hden
        induction n generalizing ctx s ρ β W a w with
        | zero => simp only [roundsT] at hden; exact (show False from hden).elim
        | succ n ih =>
          simp only [roundsT] at hden
          rw [rounds_succ]
          refine hc ctx s ρ β W a w _ _ hlv m fr hden fun e => ?_
          intro ρ' β' W' s' a' w' ctx' hcx hlv' m' fr' hl' hd' hden'
          cases e with
          | normal => exact ih ctx' s' ρ' β' W' a' w' hlv' m' fr' (by rw [hd']; exact hK.step hcx hl') hden'
          | exit id => exact hK (.exit id) ρ' β' W' s' a' w' ctx' hcx hlv' m' fr' hl' hd' hden'
          | ret => exact hK .ret ρ' β' W' s' a' w' ctx' hcx hlv' m' fr' hl' hd' hden'
      · exact hden.elim
  | _ => intro ctx s ρ β W a w K Q hlv m fr hden hK; simp only [execC] at hden; exact (show False from hden).elim
end
end
end Go.Proofs.Ytiiabaklipmbbaa.Vc
