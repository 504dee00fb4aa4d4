/- The symbolic executor: what its tree asks gives what the code does. -/
import Derived.Test.YtakkebjoeceplaaVi
import Derived.Test.YtakkebjoeceplaaVp
import Derived.Test.YtakkebjoeceplaaV3
namespace Go.Proofs.Ytakkebjoeceplaa.Vc
open Go Go.RowKit
variable {ρ ρ' : List AV} {β β' : Mp} {W W' : Nat → Prop} {w w' : World} {P : Program} {C : Cfg} {B : Nat} {w0 : World}
variable {Γ : FuncId → Con} {Qd : List AV → Prop}

def Ex.to : Ex → Exit
  | .normal => .normal
  | .exit id => .exit id
  | .ret => .ret
/-- a call's body keeps the caller's frame -/
def FrLater (ρ : List AV) (β : Mp) (s : S) (ρ' : List AV) (β' : Mp) (s' : S) : Prop := ∀ a, Fr ρ β s a → Fr ρ' β' s' a
/-- walking into callees is sound -/
def CallOk (P : Program) (C : Cfg) (Γ : FuncId → Con) (Qd : List AV → Prop) (callF : CallF) : Prop :=
  ∀ (B : Nat) (w0 : World) (f : FuncId) (args : List SV) (s : S) (K : SV → S → Tree) (ρ : List AV) (β : Mp) (W : Nat → Prop) (w : World) (ctx : List (List AV → Prop)) (vals : List Value),
    Mem C B w0 ρ β W s w → RelL (SV.rel ρ β) args vals → ctx.length = s.lvl → (callF f args s K).den Γ Qd ρ ctx →
    (∃ fn, P.funcs[f]? = some fn ∧ fn.body.isNone = false ∧ (fn.name == "runtime.NumGoroutine") = false) ∧
    ∀ R : Ending → World → Prop, (∀ sv s' ρ' β' W' w' ctx' v, (∃ d, ctx' = ctx ++ d) → ctx'.length = s'.lvl → Mem C B w0 ρ' β' W' s' w' → FrLater ρ β s ρ' β' s' → Later ρ β s ρ' β' s' → sv.rel ρ' β' v → (K sv s').den Γ Qd ρ' ctx' → R (.returned v) w') → Calls P f vals.toArray w R
section
variable {ctx : List (List AV → Prop)} {s : S} {a : Act} {ops : Array Oper}
theorem Onw.step {K : S → Tree} {K' : Act → World → Prop} {ds : List Deferred} (hK : Onw C B w0 Γ Qd ctx ρ β s ds K K') {ρ1 : List AV} {β1 : Mp} {s1 : S} {ctx1 : List (List AV → Prop)} (hc : ∃ d, ctx1 = ctx ++ d) (hl : Later ρ β s ρ1 β1 s1) : Onw C B w0 Γ Qd ctx1 ρ1 β1 s1 ds K K' := by
  intro ρ' β' W' s' a' w' ctx' ⟨d, hd⟩ hlv m fr l df hden
  obtain ⟨d0, rfl⟩ := hc
  exact hK ρ' β' W' s' a' w' ctx' ⟨d0 ++ d, by rw [hd, List.append_assoc]⟩ hlv m fr (hl.trans l) df hden
theorem qstep_seq (hC : C.Ok P) (hΓ : ConsOk P C Γ) (hlv : ctx.length = s.lvl) {o : Oper} {st : St} (hq : qstep C s ops o = some st) (m : Mem C B w0 ρ β W s w) (fr : Fr ρ β s a) {K : S → Tree} {K' : Act → World → Prop} {Q : Exit → Act → World → Prop}
    (hden : (st.emit K).den Γ Qd ρ ctx) (hK : Onw C B w0 Γ Qd ctx ρ β s a.defers K K') :
    if Region.wanted o (yielded ops a.tmps) then o.wp P a w K' Q else K' (a.put o.dst Go.undef) w := by
  unfold qstep at hq
  split at hq
  · cases hq
  · rename_i g hgo
    have hx : ∀ j b t, o.guard = some (j, b) → (ops[j]?).bind (·.dst) = some t → ∀ sl, s.tmps[t]? = some (some sl) → sl.rel ρ β (a.tmps.getD t Go.undef) ∧ t < a.tmps.size :=
      fun j b t _ _ sl hs => ⟨fr.2 t sl hs, by rw [fr.1]; exact (List.getElem?_eq_some_iff.1 hs).1⟩
    have hw := guard_sound hgo hx
    split at hq
    · -- never carried out
      rename_i hno
      obtain rfl := Option.some.inj hq
      have hgf : g.B ρ = false := by
        have := S.holds_B m.facts (show (X.bl true).B ρ = true from rfl) hno
        rw [xnot] at this
        cases h : g.B ρ
        · rfl
        · rw [h] at this; cases this
      rw [hw, hgf]
      simp only [Bool.false_eq_true, if_false]
      exact hK ρ β W _ _ w ctx ⟨[], by simp⟩ (by rw [put_lvl]; exact hlv) (m.put _ _) (fr.put (sl := ⟨.bl true, .undef⟩) (v := Go.undef) ⟨fun _ => rfl, fun _ => rfl⟩) ((Later.refl _ _ _).put _ _) (put_defers _ _ _) hden
    · -- the guard as it will be used
      have hgs : guardOf s ops o = some (if s.holds (.bl true) g then .bl true else g) ∨ (guardOf s ops o).map (fun g => g.B ρ) = some true ∧ (if s.holds (.bl true) g then .bl true else g) = .bl true := by
        by_cases h : s.holds (.bl true) g = true
        · refine .inr ⟨?_, by rw [if_pos h]⟩
          rw [hgo]
          exact congrArg some (S.holds_B m.facts (show (X.bl true).B ρ = true from rfl) h)
        · exact .inl (by rw [if_neg h]; exact hgo)
      generalize (if s.holds (.bl true) g then X.bl true else g) = g1 at hq hgs
      simp only at hq
      split at hq
      · rename_i r hr
        obtain rfl := Option.some.inj hq
        exact qop_seq hC hlv hr m fr hgs hden hK
      · exact call_seq hC hlv hΓ hq m fr hgs hden hK
theorem with_lvl (s : S) (l : List X) : (s.with l).lvl = s.lvl := rfl
theorem stepW_sound (hC : C.Ok P) {callF : CallF} (hF : CallOk P C Γ Qd callF) {Q : Exit → Act → World → Prop} {o : Oper} (hgd : o.guard = none) {K : S → Tree} {K' : Act → World → Prop} (hlv : ctx.length = s.lvl) (m : Mem C B w0 ρ β W s w) (fr : Fr ρ β s a)
    (hden : (stepW C callF o s K).den Γ Qd ρ ctx) (hK : Onw C B w0 Γ Qd ctx ρ β s a.defers K K') : o.wp P a w K' Q := by
  unfold stepW at hden
  split at hden
  · -- a step that writes
    rename_i nd s' hst
    obtain ⟨hnd, hden'⟩ := needAll_den hden
    have hnd' : ∀ x ∈ nd, x.B ρ = true := fun x hx => by
      by_cases hh : s.holds (.bl true) x = true
      · exact S.holds_B m.facts rfl hh
      · exact hnd x (List.mem_filter.2 ⟨hx, by simpa using hh⟩)
    cases ho : o.op with
    | store t p x =>
      obtain ⟨hw, w', hrun, m', fr', hl', hlvl⟩ := store_seq (ops := #[]) hC ho hst m fr hnd'
      unfold Oper.wp
      rw [hrun, Oper.upon_skip]
      exact hK ρ β W _ _ w' ctx ⟨[], by simp⟩ (by rw [with_lvl, hlvl]; exact hlv) (m'.with hnd) ⟨fr'.1, fr'.2⟩ (hl'.with _) (put_defers _ _ _) hden'
    | call c =>
      obtain ⟨hw, u, w', β', W', hrun, m', fr', hl', hlvl⟩ := append_seq (ops := #[]) hC ho hst m fr hnd'
      unfold Oper.wp
      rw [hrun, Oper.upon_value]
      exact hK ρ β' W' _ _ w' ctx ⟨[], by simp⟩ (by rw [with_lvl, hlvl]; exact hlv) (m'.with hnd) ⟨fr'.1, fr'.2⟩ (hl'.with _) (put_defers _ _ _) hden'
    | _ => simp [estep, ho] at hst
  · split at hden
    · -- nil or not
      rename_i op t x ty ho
      split at hden
      · rename_i b sz off len cp e0 s0 b0 z0 el0 pl0 s' hv htd hmore
        have tt : (X.bl true).B ρ = true := rfl
        have hrel := val_rel m.facts tt m.glob (opd_of_fr fr x) hv
        obtain ⟨q, m0, c, hu, h0, hnil⟩ := slc_nil hrel
        have hsl := slice_dk (hC.ty _ _ htd) rfl
        obtain ⟨e1, e2⟩ := nil_eq (P := P) (w := w) hsl (op := op) x (.const (.slice none 0 0)) q m0 c
        have hkt : KT [VK.b] [AV.b q.isNone] := ⟨rfl, fun i k hk => by
          cases i with
          | zero => simp at hk; subst hk; rfl
          | succ i => simp at hk⟩
        obtain ⟨rfl, m2⟩ := m.more hmore hkt
        have fr2 := Fr.more (δ := [AV.b q.isNone]) m hmore fr
        have hrel2 : (SV.v (.sc (.c (.slc b sz off len cp)))).rel (ρ ++ [AV.b q.isNone]) β (a.eval x) := val_rel m2.facts rfl m2.glob (opd_of_fr fr2 x) hv
        obtain ⟨q2, m1, c1, hu2, _, hnil2⟩ := slc_nil hrel2
        have hqq : q2 = q := by rw [hu] at hu2; injection hu2 with h1; exact h1.symm
        rw [hqq] at hnil2
        have hvar : (X.var s.ks.length).B (ρ ++ [AV.b q.isNone]) = q.isNone := by
          simp [X.B, X.den, ← m.kt.1, AV.bool]
        have hfacts : ∀ y ∈ [imp (.var s.ks.length) (xb .eq len (.lit 0))], y.B (ρ ++ [AV.b q.isNone]) = true := fun y hy => by
          simp only [List.mem_singleton] at hy
          subst hy
          unfold imp
          rw [xor_, xnot, hvar, xeq, lit_I]
          rcases Bool.eq_false_or_eq_true q.isNone with hq | hq
          · rw [hnil2 hq]; simp
          · rw [hq]; rfl
        have hlat : Later ρ β s (ρ ++ [AV.b q.isNone]) β ({ s with ks := s.ks ++ [VK.b] }) := ⟨⟨_, rfl⟩, ⟨_, rfl⟩, Nat.le_refl _, fun k b _ hb => ⟨b, hb, rfl⟩⟩
        have fin : ∀ (y : X) (p : Bool), y.B (ρ ++ [AV.b q.isNone]) = p → ((do eqGuard op t x (.const (.slice none 0 0)) (a.eval x) (a.eval (.const (.slice none 0 0))); binOp op t (a.eval x) (a.eval (.const (.slice none 0 0)))) : Sem Value).run P w = .ok (.bool p) w →
            (Tree.fresh VK.b (assumeAll [imp (.var s.ks.length) (xb .eq len (.lit 0))] (K ((S.with { s with ks := s.ks ++ [VK.b] } [imp (.var s.ks.length) (xb .eq len (.lit 0))]).put o.dst { g := .bl true, v := .v (.sc (.c (.bool y))) })))).den Γ Qd ρ ctx → o.wp P a w K' Q := fun y p hy hrun hd => by
          have hd1 : Tree.den Γ Qd (ρ ++ [AV.b q.isNone]) ctx _ := hd q.isNone
          have hd2 := assumeAll_den hd1 hfacts
          have hr := runv (o := o) (a := a) (m := do eqGuard op t x (.const (.slice none 0 0)) (a.eval x) (a.eval (.const (.slice none 0 0))); binOp op t (a.eval x) (a.eval (.const (.slice none 0 0)))) (by simp [execOp, ho]) hrun
          unfold Oper.wp
          rw [hr, Oper.upon_value]
          exact hK _ β W _ _ w ctx ⟨[], by simp⟩ (by rw [put_lvl]; exact hlv) ((m2.with hfacts).put _ _) (Fr.put (s := S.with { s with ks := s.ks ++ [VK.b] } [imp (.var s.ks.length) (xb .eq len (.lit 0))]) ⟨fr2.1, fr2.2⟩ ⟨fun _ => by show Value.bool _ = Value.bool _; rw [hy], fun h => (by cases h)⟩) ((hlat.with _).put _ _) (put_defers _ _ _) hd2
        simp only at hden
        split at hden
        · exact fin _ _ hvar (by rw [hu]; exact e1 rfl) hden
        · exact fin _ _ (by rw [xnot, hvar]) (by rw [hu]; exact e2 rfl) hden
        · exact hden.elim
      · exact hden.elim
    · -- a callee walked into
      rename_i f args ts ho
      split at hden
      · rename_i fid first caps vs hv hvs
        have tt : (X.bl true).B ρ = true := rfl
        obtain ⟨us1, us2, hfe, hr1, hr2⟩ := val_rel m.facts tt m.glob (opd_of_fr fr f) hv
        have hrv := vals_rel (C := C) (s := s) (a := a) m.facts tt m.glob hvs (fun x _ => opd_of_fr fr x)
        have hall := ((caps_relL hr1).append hrv).append (caps_relL hr2)
        obtain ⟨⟨fn, hfn, hbody, hname⟩, hcall⟩ := hF B w0 fid _ s _ ρ β W w ctx _ m hall hlv hden
        unfold Oper.wp
        rw [run_call ho hfe hfn hbody hname, Oper.upon_enter]
        refine hcall _ fun sv s' ρ' β' W' w' ctx' v hc hlv' m' hfl hl' hrel hden' => ?_
        exact hK ρ' β' W' _ _ w' ctx' hc (by rw [put_lvl]; exact hlv') (m'.put _ _) ((hfl a fr).put ⟨fun _ => hrel, fun h => by cases h⟩) (hl'.put _ _) (put_defers _ _ _) hden'
      · exact hden.elim
    · exact hden.elim
theorem execOps_sound (hC : C.Ok P) (hΓ : ConsOk P C Γ) {callF : CallF} (hF : CallOk P C Γ Qd callF) {Q : Exit → Act → World → Prop} : ∀ (l : List Oper) (ctx : List (List AV → Prop)) (s : S) (ρ : List AV) (β : Mp) (W : Nat → Prop) (a : Act) (w : World) (K : S → Tree),
    ctx.length = s.lvl → Mem C B w0 ρ β W s w → Fr ρ β s a → (execOps C callF ops l s K).den Γ Qd ρ ctx → Onw C B w0 Γ Qd ctx ρ β s a.defers K (fun a w => Q .normal a w) → wpList P ops Q l a w
  | [], ctx, s, ρ, β, W, a, w, K, hlv, m, fr, hden, hK => wpList_nil (hK ρ β W s a w ctx ⟨[], by simp⟩ hlv m fr (Later.refl _ _ _) rfl hden)
  | o :: l, ctx, s, ρ, β, W, a, w, K, hlv, m, fr, hden, hK => by
    have next : ∀ ctx' s' ρ' β' W' a' w', (∃ d, ctx' = ctx ++ d) → ctx'.length = s'.lvl → Mem C B w0 ρ' β' W' s' w' → Fr ρ' β' s' a' → Later ρ β s ρ' β' s' → a'.defers = a.defers → (execOps C callF ops l s' K).den Γ Qd ρ' ctx' → wpList P ops Q l a' w' :=
      fun ctx' s' ρ' β' W' a' w' hc hlv' m' fr' hl' hd' hden' => execOps_sound hC hΓ hF l ctx' s' ρ' β' W' a' w' K hlv' m' fr' hden' (by rw [hd']; exact hK.step hc hl')
    simp only [execOps] at hden
    split at hden
    · rename_i st hst
      refine wpList_step fun K' hK' => ?_
      refine qstep_seq hC hΓ hlv hst m fr hden ?_
      intro ρ' β' W' s' a' w' ctx' hc hlv' m' fr' hl' hd' hden'
      exact hK' _ _ (next ctx' s' ρ' β' W' a' w' hc hlv' m' fr' hl' hd' hden')
    · split at hden
      · rename_i hgd
        refine wpList_step fun K' hK' => ?_
        have hw : Region.wanted o (yielded ops a.tmps) = true := by simp [Region.wanted, hgd]
        rw [hw, if_pos rfl]
        refine stepW_sound hC hF hgd hlv m fr hden ?_
        intro ρ' β' W' s' a' w' ctx' hc hlv' m' fr' hl' hd' hden'
        exact hK' _ _ (next ctx' s' ρ' β' W' a' w' hc hlv' m' fr' hl' hd' hden')
      · split at hden
        · rename_i g hgo
          refine wpList_step fun K' hK' => ?_
          have hx : ∀ j b t, o.guard = some (j, b) → (ops[j]?).bind (·.dst) = some t → ∀ sl, s.tmps[t]? = some (some sl) → sl.rel ρ β (a.tmps.getD t Go.undef) ∧ t < a.tmps.size :=
            fun j b t _ _ sl hs => ⟨fr.2 t sl hs, by rw [fr.1]; exact (List.getElem?_eq_some_iff.1 hs).1⟩
          have hw := guard_sound hgo hx
          rw [hw]
          split at hden
          · rename_i hh
            have hgB := S.holds_B m.facts (show (X.bl true).B ρ = true from rfl) hh
            rw [hgB, if_pos rfl]
            have hs := stepW_sound (Q := Q) (o := { o with guard := none }) (K' := K') hC hF rfl hlv m (s := s) (a := a) fr hden (by
              intro ρ' β' W' s' a' w' ctx' hc hlv' m' fr' hl' hd' hden'
              exact hK' _ _ (next ctx' s' ρ' β' W' a' w' hc hlv' m' fr' hl' hd' hden'))
            exact hs
          obtain ⟨h1, h2⟩ := hden
          cases hgB : g.B ρ
          · simp only [Bool.false_eq_true, if_false]
            have hng : ∀ x ∈ [mkNot g], x.B ρ = true := fun x hx => by simp at hx; subst hx; rw [xnot, hgB]; rfl
            have mm := (m.with hng).put o.dst ⟨.bl true, .undef⟩
            have ff : Fr ρ β ((s.with [mkNot g]).put o.dst ⟨.bl true, .undef⟩) (a.put o.dst Go.undef) := Fr.put (s := s.with [mkNot g]) ⟨fr.1, fr.2⟩ ⟨fun _ => rfl, fun _ => rfl⟩
            exact hK' _ _ (next ctx _ ρ β W _ w ⟨[], by simp⟩ (by rw [put_lvl]; exact hlv) mm ff (((Later.refl _ _ _).with _).put _ _) (put_defers _ _ _) (h2 hgB))
          · simp only [if_true]
            have hg1 : ∀ x ∈ [g], x.B ρ = true := fun x hx => by simp at hx; subst hx; exact hgB
            have hs := stepW_sound (Q := Q) (o := { o with guard := none }) (K' := K') hC hF rfl (by rw [with_lvl]; exact hlv) (m.with hg1) (s := s.with [g]) (a := a) ⟨fr.1, fr.2⟩ (h1 hgB) (by
              intro ρ' β' W' s' a' w' ctx' hc hlv' m' fr' hl' hd' hden'
              exact hK' _ _ (next ctx' s' ρ' β' W' a' w' hc hlv' m' fr' (Later.trans ((Later.refl _ _ _).with _) hl') hd' hden'))
            exact hs
        · exact hden.elim
/-- a region whose order is open -/
theorem region_sound (hC : C.Ok P) (hΓ : ConsOk P C Γ) (hm : P.follows .mixedOrders = true) {callF : CallF} (hF : CallOk P C Γ Qd callF) {Q : Exit → Act → World → Prop} {id : Nat} {K : S → Tree} (n : Nat) (hlv : ctx.length = s.lvl) (m : Mem C B w0 ρ β W s w) (fr : Fr ρ β s a)
    (ht : tailB (ops.toList.take n) (ops.toList.drop n) = true) (hsc : (s.more []).isSome = true) {L : List (List Nat × St)} (hrun : headRun C ops (ops.toList.take n) s = some L) (hcl : closedB s L = true) (hob : orderB (predsOf [] (ops.toList.take n)) (infosOf ops (ops.toList.take n) s L) = true)
    (hden : (emitHead (fun s => assumeAll s.news (execOps C callF ops (ops.toList.drop n) (s.with s.news) K)) s L).den Γ Qd ρ ctx)
    (hK : Onw C B w0 Γ Qd ctx ρ β s a.defers K (fun a w => Q .normal a w)) : (Code.region id ops true).wp P Q a w := by
  have hl : (ops.toList.take n) ++ (ops.toList.drop n) = ops.toList := List.take_append_drop n _
  have ho : ops = ((ops.toList.take n) ++ (ops.toList.drop n)).toArray := by rw [hl]
  refine wp_region_any hm ?_
  generalize ops.toList.take n = pre at *
  generalize ops.toList.drop n = tail at *
  subst ho
  have ok := tailOk_of ht
  have h2 := region_head (Q := Q) (R := wpAny P .any (pre ++ tail).toArray Q tail.length (firstN pre.length (pre ++ tail).length)) hC hΓ hlv m fr ok hsc hrun hcl hob hden ?_
  · have h3 := wpAny_head ok tail.length pre.length (Array.replicate (pre ++ tail).toArray.size false) a { w with drawn := w.drawn + 1 } (by simp) (fun t _ hx => by
      rcases Nat.lt_or_ge t (pre ++ tail).length with hlt | hge
      · simp only [List.size_toArray, Array.getD_eq_getD_getElem?] at hx
        rw [Array.getElem?_replicate, if_pos hlt] at hx
        cases hx
      · exact hge) (by
        have e : (Array.replicate (pre ++ tail).toArray.size false).extract 0 pre.length = Array.replicate pre.length false := by
          apply Array.ext
          · simp
          · intro i _ _; simp
        rw [e]; exact h2)
    simpa using h3
  · intro ρ' β' W' s' a' w' ctx' hc hlv' m' fr' hl' hd' hden'
    have hnews := news_sound m' fr'
    have hden2 := assumeAll_den hden' hnews
    refine wpAny_tail ok tail 0 a' w' (by simp) (by simp) ?_
    exact execOps_sound hC hΓ hF tail ctx' (s'.with s'.news) ρ' β' W' a' w' K hlv' (m'.with hnews) ⟨fr'.1, fr'.2⟩ hden2 (by rw [hd']; exact hK.step hc (hl'.with _))
/-- what is asked of whatever comes behind a piece of code -/
def OnwE (C : Cfg) (B : Nat) (w0 : World) (Γ : FuncId → Con) (Qd : List AV → Prop) (ctx : List (List AV → Prop)) (ρ : List AV) (β : Mp) (s : S) (ds : List Deferred) (K : Ex → S → Tree) (Q : Exit → Act → World → Prop) : Prop :=
  ∀ e, Onw C B w0 Γ Qd ctx ρ β s ds (K e) (fun a w => Q e.to a w)
theorem OnwE.step {K : Ex → S → Tree} {Q : Exit → Act → World → Prop} {ds : List Deferred} (hK : OnwE C B w0 Γ Qd ctx ρ β s ds K Q) {ρ1 : List AV} {β1 : Mp} {s1 : S} {ctx1 : List (List AV → Prop)} (hc : ∃ d, ctx1 = ctx ++ d) (hl : Later ρ β s ρ1 β1 s1) : OnwE C B w0 Γ Qd ctx1 ρ1 β1 s1 ds K Q := fun e => (hK e).step hc hl
theorem inst_ks {s h : S} {args : List X} {r fixed : List Nat} (hi : s.inst h s.ks.length args r fixed = true) : ∃ d, h.ks = s.ks ++ d := by
  simp only [S.inst, Bool.and_eq_true, decide_eq_true_eq] at hi
  obtain ⟨⟨⟨⟨⟨⟨⟨⟨⟨i1, i2⟩, i3⟩, i4⟩, i5⟩, i6⟩, i7⟩, i8⟩, i9⟩, i10⟩ := hi
  rw [List.take_length] at i4
  have := List.take_append_drop s.ks.length h.ks
  rw [i4] at this
  exact ⟨_, this.symm⟩
theorem range_get {n k : Nat} (h : k < n) (own : List Nat) : ((List.range n ++ own)[k]?).getD k = k := by
  rw [List.getElem?_append_left (by simpa using h)]
  simp [h]
theorem execC_sound (hC : C.Ok P) (hΓ : ConsOk P C Γ) (hm : P.follows .mixedOrders = true) {callF : CallF} (hF : CallOk P C Γ Qd callF) (fn : FuncId) : ∀ (c : Code) (ctx : List (List AV → Prop)) (s : S) (ρ : List AV) (β : Mp) (W : Nat → Prop) (a : Act) (w : World) (K : Ex → S → Tree) (Q : Exit → Act → World → Prop),
    ctx.length = s.lvl → Mem C B w0 ρ β W s w → Fr ρ β s a → (execC C callF fn c s K).den Γ Qd ρ ctx → OnwE C B w0 Γ Qd ctx ρ β s a.defers K Q → c.wp P Q a w := by
  intro c
  induction c with
  | skip => intro ctx s ρ β W a w K Q hlv m fr hden hK; simp only [execC] at hden; exact wp_skip (hK .normal ρ β W s a w ctx ⟨[], by simp⟩ hlv m fr (Later.refl _ _ _) rfl hden)
  | ret => intro ctx s ρ β W a w K Q hlv m fr hden hK; simp only [execC] at hden; exact wp_ret (hK .ret ρ β W s a w ctx ⟨[], by simp⟩ hlv m fr (Later.refl _ _ _) rfl hden)
  | exit id => intro ctx s ρ β W a w K Q hlv m fr hden hK; simp only [execC] at hden; exact wp_exit (hK (.exit id) ρ β W s a w ctx ⟨[], by simp⟩ hlv m fr (Later.refl _ _ _) rfl hden)
  | region id ops draw =>
    intro ctx s ρ β W a w K Q hlv m fr hden hK
    simp only [execC] at hden
    cases draw with
    | false =>
      simp only [Bool.false_eq_true, if_false] at hden
      exact wp_region_list (execOps_sound hC hΓ hF _ ctx s ρ β W a w _ hlv m fr hden (hK .normal))
    | true =>
      simp only [if_true] at hden
      generalize (if (headRun C ops ops.toList s).isSome = true then ops.toList.length else headN C ops.toList) = n at hden
      split at hden
      · rename_i ht
        split at hden
        · rename_i L hL
          split at hden
          · rename_i hsc
            simp only [Bool.and_eq_true] at hsc
            split at hden
            · rename_i hob
              exact region_sound hC hΓ hm hF _ hlv m fr ht hsc.1 hL hsc.2 hob hden (hK .normal)
            · exact hden.elim
          · exact hden.elim
        · exact hden.elim
      · exact hden.elim
  | seq x y hx hy =>
    intro ctx s ρ β W a w K Q hlv m fr hden hK
    simp only [execC] at hden
    refine wp_seq (hx ctx s ρ β W a w _ _ hlv m fr hden fun e => ?_)
    intro ρ' β' W' s' a' w' ctx' hc hlv' m' fr' hl' hd' hden'
    cases e with
    | normal => exact hy ctx' s' ρ' β' W' a' w' K Q hlv' m' fr' hden' (by rw [hd']; exact hK.step hc hl')
    | exit id => exact hK (.exit id) ρ' β' W' s' a' w' ctx' hc hlv' m' fr' hl' hd' hden'
    | ret => exact hK .ret ρ' β' W' s' a' w' ctx' hc hlv' m' fr' hl' hd' hden'
  | cond c x y hx hy =>
    intro ctx s ρ β W a w K Q hlv m fr hden hK
    simp only [execC] at hden
    split at hden
    · exact hden.elim
    · rename_i e he
      have hv := bool_rel m.facts (show (X.bl true).B ρ = true from rfl) m.glob (opd_of_fr fr c) he
      split at hden
      · rename_i hh
        have := S.holds_B m.facts (show (X.bl true).B ρ = true from rfl) hh
        rw [this] at hv
        exact wp_cond_true hv (hx ctx s ρ β W a w K Q hlv m fr hden hK)
      · split at hden
        · rename_i hh
          have := S.holds_B m.facts (show (X.bl true).B ρ = true from rfl) hh
          rw [xnot] at this
          have : e.B ρ = false := by simpa using this
          rw [this] at hv
          exact wp_cond_false hv (hy ctx s ρ β W a w K Q hlv m fr hden hK)
        · have hnews := news_sound m fr
          obtain ⟨h1, h2⟩ := assumeAll_den hden hnews
          have m2 := m.with hnews
          refine wp_cond_split hv (fun ht => ?_) (fun hf => ?_)
          · exact hx ctx ((s.with s.news).with [e]) ρ β W a w K Q hlv (m2.with (l := [e]) (fun x hx => by simp at hx; subst hx; exact ht)) ⟨fr.1, fr.2⟩ (h1 ht) (hK.step ⟨[], by simp⟩ (((Later.refl _ _ _).with _).with _))
          · exact hy ctx ((s.with s.news).with [mkNot e]) ρ β W a w K Q hlv (m2.with (l := [mkNot e]) (fun x hx => by simp at hx; subst hx; rw [xnot, hf]; rfl)) ⟨fr.1, fr.2⟩ (h2 hf) (hK.step ⟨[], by simp⟩ (((Later.refl _ _ _).with _).with _))
  | block id c hc =>
    intro ctx s ρ β W a w K Q hlv m fr hden hK
    simp only [execC] at hden
    refine wp_block (hc ctx s ρ β W a w _ _ hlv m fr hden fun e => ?_)
    intro ρ' β' W' s' a' w' ctx' hcx hlv' m' fr' hl' hd' hden'
    cases e with
    | normal => exact hK .normal ρ' β' W' s' a' w' ctx' hcx hlv' m' fr' hl' hd' hden'
    | ret => exact hK .ret ρ' β' W' s' a' w' ctx' hcx hlv' m' fr' hl' hd' hden'
    | exit i =>
      simp only at hden'
      show Exit.inBlock id Q (.exit i) a' w'
      simp only [Exit.inBlock]
      by_cases hi : i = id
      · rw [if_pos hi] at hden' ⊢
        exact hK .normal ρ' β' W' s' a' w' ctx' hcx hlv' m' fr' hl' hd' hden'
      · rw [if_neg hi] at hden' ⊢
        exact hK (.exit i) ρ' β' W' s' a' w' ctx' hcx hlv' m' fr' hl' hd' hden'
  | loop c hc =>
    intro ctx s ρ β W a w K Q hlv m fr hden hK
    simp only [execC] at hden
    split at hden
    · rename_i la hla
      split at hden
      · -- nil lists made lists of our own
        obtain ⟨β1, W1, m1, fr1, l1, e1⟩ := normOwn_sound (ρ := ρ) la.gens m fr
        generalize normOwn s la.gens = s1 at hden m1 fr1 l1 e1
        have hlv1 : ctx.length = s1.lvl := by rw [e1]; exact hlv
        have hK1 := hK.step (ctx1 := ctx) ⟨[], by simp⟩ l1
        split at hden
        · rename_i G init own hG hinit
          split at hden
          · rename_i hinst0
            simp only [Bool.and_eq_true, decide_eq_true_eq] at hinst0
            obtain ⟨hinst, hlen0⟩ := hinst0
            generalize hh : ({ G.s with lvl := s1.lvl + 1 } : S) = h at hden hinst hlen0
            have hhl : h.lvl = s1.lvl + 1 := by rw [← hh]
            have eks : G.s.ks = h.ks := by rw [← hh]
            have ehp : G.s.heap = h.heap := by rw [← hh]
            rw [ehp] at hlen0
            obtain ⟨I, μ, hI, hbody⟩ := hden
            have hn : s1.ks.length = ρ.length := m1.kt.1.symm
            obtain ⟨m2, fr2, hmp⟩ := inst_sound hinst m1 fr1
            have hksd := inst_ks hinst
            rw [hn, List.take_length] at m2 fr2
            rw [hn] at hI hbody
            try rw [eks] at hI
            try rw [eks] at hbody
            -- the loop's relation
            refine wp_loop_ghost (fun k a' w' => ∃ vs βh Wh, μ vs = k ∧ I vs ∧ KT (h.ks.drop ρ.length) vs ∧ Mem C B w0 (ρ ++ vs) βh Wh h w' ∧ Fr (ρ ++ vs) βh h a' ∧ (∀ k b, k < s1.heap.length → β1 k = some b → ∃ b', βh k = some b' ∧ b'.v = b.v) ∧ a'.defers = a.defers) (μ (fixL (h.ks.drop ρ.length) (init.map (X.den ρ))))
              ⟨fixL (h.ks.drop ρ.length) (init.map (X.den ρ)), _, W1, rfl, hI, fixL_KT _ _, m2, fr2, fun k b hk hb => ?_, rfl⟩ ?_
            · have := hmp k (by omega)
              rw [range_get hk, hb] at this
              simp only [Option.map_some, Option.map_eq_some_iff] at this
              exact this
            · rintro k a' w' ⟨vs, βh, Wh, rfl, hIv, hkt, mh, frh, hmap, hdf⟩
              have hbd := allAV_elim hbody vs hkt hIv
              have hnews := news_sound mh frh
              have hbd' := assumeAll_den hbd hnews
              have hlen : s1.heap.length ≤ h.heap.length := hlen0
              have hks : ∃ d, h.ks = s1.ks ++ d := hksd
              have hlh : Later ρ β1 s1 (ρ ++ vs) βh h := ⟨⟨vs, rfl⟩, hks, hlen, hmap⟩
              refine hc (ctx ++ [fun ns => I ns ∧ μ ns < μ vs]) (h.with h.news) (ρ ++ vs) βh Wh a' w' _ _ (by rw [with_lvl, hhl, ← hlv1]; simp) (mh.with hnews) ⟨frh.1, frh.2⟩ hbd' fun e => ?_
              intro ρ2 β2 W2 s2 a2 w2 ctx2 hcx hlv2 m3 fr3 hl3 hd3 hden3
              cases e with
              | normal =>
                simp only at hden3
                obtain ⟨β5, W5, m5, fr5, l5, e5⟩ := normOwn_sound (ρ := ρ2) la.gens m3 fr3
                generalize normOwn s2 la.gens = s5 at hden3 m5 fr5 l5 e5
                split at hden3
                · rename_i args own' hargs
                  split at hden3
                  · rename_i hinst2
                    obtain ⟨m4, fr4, hmp4⟩ := inst_sound hinst2 m5 fr5
                    obtain ⟨δ, rfl⟩ := hl3.env
                    have htk : (ρ ++ vs ++ δ).take ρ.length = ρ := by rw [List.append_assoc, List.take_left]
                    rw [htk] at m4 fr4
                    obtain ⟨d, rfl⟩ := hcx
                    simp only [Tree.den] at hden3
                    have hget : (ctx ++ [fun ns => I ns ∧ μ ns < μ vs] ++ d).getD s1.lvl (fun _ => False) = fun ns => I ns ∧ μ ns < μ vs := by
                      rw [← hlv1, List.append_assoc, List.getD_eq_getElem?_getD, List.getElem?_append_right (Nat.le_refl _)]
                      simp
                    rw [hget] at hden3
                    show Exit.then _ _ Exit.normal a2 w2
                    refine ⟨_, hden3.2, _, _, W5, rfl, hden3.1, fixL_KT _ _, m4, fr4, fun k b hk hb => ?_, hd3.trans hdf⟩
                    have h4 := hmp4 k (by omega)
                    rw [range_get hk] at h4
                    obtain ⟨b', hb', hbv⟩ := hmap k b hk hb
                    have hk2 : k < (h.with h.news).heap.length := by simp only [S.with]; omega
                    obtain ⟨b2, hb2, hbv2⟩ := hl3.map k b' hk2 hb'
                    obtain ⟨b6, hb6, hbv6⟩ := l5.map k b2 (Nat.lt_of_lt_of_le hk2 hl3.len) hb2
                    rw [hb6] at h4
                    simp only [Option.map_some, Option.map_eq_some_iff] at h4
                    obtain ⟨b3, hb3, hbv3⟩ := h4
                    exact ⟨b3, hb3, by rw [hbv3, hbv6, hbv2, hbv]⟩
                  · exact hden3.elim
                · exact hden3.elim
              | exit id =>
                exact hK1 (.exit id) ρ2 β2 W2 s2 a2 w2 ctx2 (by obtain ⟨d, hd⟩ := hcx; exact ⟨[fun ns => I ns ∧ μ ns < μ vs] ++ d, by rw [hd, List.append_assoc]⟩) hlv2 m3 fr3 (hlh.trans ⟨hl3.env, hl3.ks, hl3.len, hl3.map⟩) (hd3.trans hdf) hden3
              | ret =>
                exact hK1 .ret ρ2 β2 W2 s2 a2 w2 ctx2 (by obtain ⟨d, hd⟩ := hcx; exact ⟨[fun ns => I ns ∧ μ ns < μ vs] ++ d, by rw [hd, List.append_assoc]⟩) hlv2 m3 fr3 (hlh.trans ⟨hl3.env, hl3.ks, hl3.len, hl3.map⟩) (hd3.trans hdf) hden3
          · exact hden.elim
        · exact hden.elim
      · -- unrolled
        refine wp_loop_rounds la.unr ?_
        generalize la.unr = n at hden
        induction n generalizing ctx s ρ β W a w with
        | zero => simp only [roundsT] at hden; exact (show False from hden).elim
        | succ n ih =>
          simp only [roundsT] at hden
          rw [rounds_succ]
          refine hc ctx s ρ β W a w _ _ hlv m fr hden fun e => ?_
          intro ρ' β' W' s' a' w' ctx' hcx hlv' m' fr' hl' hd' hden'
          cases e with
          | normal => exact ih ctx' s' ρ' β' W' a' w' hlv' m' fr' (by rw [hd']; exact hK.step hcx hl') hden'
          | exit id => exact hK (.exit id) ρ' β' W' s' a' w' ctx' hcx hlv' m' fr' hl' hd' hden'
          | ret => exact hK .ret ρ' β' W' s' a' w' ctx' hcx hlv' m' fr' hl' hd' hden'
    · exact hden.elim
  | _ => intro ctx s ρ β W a w K Q hlv m fr hden hK; simp only [execC] at hden; exact (show False from hden).elim
end
end Go.Proofs.Ytakkebjoeceplaa.Vc
