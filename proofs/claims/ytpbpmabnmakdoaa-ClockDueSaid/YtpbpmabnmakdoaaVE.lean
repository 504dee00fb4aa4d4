/- The symbolic executor: what its tree asks gives what the code does. -/
import Derived.Test.YtpbpmabnmakdoaaVC
import Derived.Test.YtpbpmabnmakdoaaVD
import Derived.Test.YtpbpmabnmakdoaaVB
import Derived.ChangeShapes
import Derived.ChangeArms
import Derived.OpenShut
import Derived.WideShapes
import Derived.RowKit
set_option linter.unusedVariables false
namespace Go.Proofs.Ytpbpmabnmakdoaa.Vc
noncomputable section
open Go Go.RowKit
variable {ρ ρ' : List AV} {β β' : Mp} {W W' : Nat → Prop} {w w' : World} {P : Program} {C : Cfg} {B : Nat} {w0 : World}
variable {Γ : FuncId → Con} {Qd : List AV → Prop}

def Ex.to : Ex → Exit
  | .normal => .normal
  | .exit id => .exit id
  | .ret => .ret
/-- a call's body keeps the caller's frame -/
def FrLater (ρ : List AV) (β : Mp) (s : S) (ρ' : List AV) (β' : Mp) (s' : S) : Prop := ∀ a, Fr ρ β s a → Fr ρ' β' s' a
/-- walking into callees is sound -/
def CallOk (P : Program) (C : Cfg) (Γ : FuncId → Con) (Qd : List AV → Prop) (B : Nat) (w0 : World) (callF : CallF) : Prop :=
  ∀ (f : FuncId) (args : List SV) (s : S) (K : SV → S → Tree) (ρ : List AV) (β : Mp) (W : Nat → Prop) (w : World) (ctx : List (List AV → Prop)) (vals : List Value),
    Mem C B w0 ρ β W s w → RelL (SV.rel ρ β) args vals → ctx.length = s.lvl → (callF f args s K).den Γ Qd ρ ctx →
    (∃ fn, P.funcs[f]? = some fn ∧ fn.body.isNone = false ∧ (fn.name == "runtime.NumGoroutine") = false) ∧
    ∀ R : Ending → World → Prop, (∀ sv s' ρ' β' W' w' ctx' v, (∃ d, ctx' = ctx ++ d) → ctx'.length = s'.lvl → Mem C B w0 ρ' β' W' s' w' → FrLater ρ β s ρ' β' s' → Later ρ β s ρ' β' s' → sv.rel ρ' β' v → (K sv s').den Γ Qd ρ' ctx' → R (.returned v) w') → Calls P f vals.toArray w R
section
variable {ctx : List (List AV → Prop)} {s : S} {a : Act} {ops : Array Oper}
theorem Onw.step {K : S → Tree} {K' : Act → World → Prop} {ds : List Deferred} (hK : Onw C B w0 Γ Qd ctx ρ β s ds K K') {ρ1 : List AV} {β1 : Mp} {s1 : S} {ctx1 : List (List AV → Prop)} (hc : ∃ d, ctx1 = ctx ++ d) (hl : Later ρ β s ρ1 β1 s1) : Onw C B w0 Γ Qd ctx1 ρ1 β1 s1 ds K K' := by
  intro ρ' β' W' s' a' w' ctx' ⟨d, hd⟩ hlv m fr l df hden
  obtain ⟨d0, rfl⟩ := hc
  exact hK ρ' β' W' s' a' w' ctx' ⟨d0 ++ d, by rw [hd, List.append_assoc]⟩ hlv m fr (hl.trans l) df hden
theorem qstep_seq (hC : C.Ok P) (hΓ : ConsOk P C Γ B w0) (hlv : ctx.length = s.lvl) {o : Oper} {st : St} (hq : qstep C s ops o = some st) (m : Mem C B w0 ρ β W s w) (fr : Fr ρ β s a) {K : S → Tree} {K' : Act → World → Prop} {Q : Exit → Act → World → Prop}
    (hden : (st.emit K).den Γ Qd ρ ctx) (hK : Onw C B w0 Γ Qd ctx ρ β s a.defers K K') :
    if Region.wanted o (yielded ops a.tmps) then o.wp P a w K' Q else K' (a.put o.dst Go.undef) w := by
  unfold qstep at hq
  simp only [needF_eq] at hq
  split at hq
  · cases hq
  · rename_i g hgo
    have hx : ∀ j b t, o.guard = some (j, b) → (ops[j]?).bind (·.dst) = some t → ∀ sl, s.tmps[t]? = some (some sl) → sl.rel ρ β (a.tmps.getD t Go.undef) ∧ t < a.tmps.size :=
      fun j b t _ _ sl hs => ⟨fr.2 t sl hs, by rw [fr.1]; exact TM.lt_of_get hs⟩
    have hw := guard_sound hgo hx
    split at hq
    · -- never carried out
      rename_i hno
      obtain rfl := Option.some.inj hq
      have hgf : g.B ρ = false := by
        have := S.holds_B m.facts (show (X.bl true).B ρ = true from rfl) (S.never_eq hno)
        rw [xnot] at this
        cases h : g.B ρ
        · rfl
        · rw [h] at this; cases this
      rw [hw, hgf]
      simp only [Bool.false_eq_true, if_false]
      exact hK ρ β W _ _ w ctx ⟨[], by simp⟩ (by rw [put_lvl]; exact hlv) (m.put _ _) (fr.put (sl := ⟨.bl true, .undef⟩) (v := Go.undef) ⟨fun _ => rfl, fun _ => rfl⟩) ((Later.refl _ _ _).put _ _) (put_defers _ _ _) hden
    · -- the guard as it will be used
      have hgs : guardOf s ops o = some (s.normG g) ∨ (guardOf s ops o).map (fun g => g.B ρ) = some true ∧ s.normG g = .bl true := by
        unfold S.normG
        cases ht : isTF g with
        | true =>
          refine .inr ⟨?_, rfl⟩
          rw [hgo, isTF_eq ht]
          rfl
        | false =>
          cases h : s.holds (.bl true) g with
          | true =>
            refine .inr ⟨?_, rfl⟩
            rw [hgo]
            exact congrArg some (S.holds_B m.facts (show (X.bl true).B ρ = true from rfl) h)
          | false => exact .inl hgo
      generalize (s.normG g) = g1 at hq hgs
      split at hq
      · rename_i r hr
        obtain rfl := Option.some.inj hq
        exact qop_seq hC hlv hr m fr hgs hden hK
      · exact call_seq hC hlv hΓ hq m fr hgs hden hK
theorem with_lvl (s : S) (l : List X) : (s.with l).lvl = s.lvl := rfl
theorem stepW_sound (hC : C.Ok P) {callF : CallF} (hF : CallOk P C Γ Qd B w0 callF) {Q : Exit → Act → World → Prop} {o : Oper} (hgd : o.guard = none) {K : S → Tree} {K' : Act → World → Prop} (hlv : ctx.length = s.lvl) (m : Mem C B w0 ρ β W s w) (fr : Fr ρ β s a)
    (hden : (stepW C callF o s K).den Γ Qd ρ ctx) (hK : Onw C B w0 Γ Qd ctx ρ β s a.defers K K') : o.wp P a w K' Q := by
  unfold stepW at hden
  split at hden
  · -- a step that writes
    rename_i nd s' hst
    obtain ⟨hnd, hden'⟩ := needAll_den hden
    have hnd' : ∀ x ∈ nd, x.B ρ = true := fun x hx => by
      by_cases hh : s.holds (.bl true) x = true
      · exact S.holds_B m.facts rfl hh
      · exact hnd x (List.mem_filter.2 ⟨hx, by simpa using hh⟩)
    cases ho : o.op with
    | store t p x =>
      obtain ⟨hw, w', hrun, m', fr', hl', hlvl⟩ := store_seq (ops := #[]) hC ho hst m fr hnd'
      unfold Oper.wp
      rw [hrun, Oper.upon_skip]
      exact hK ρ β W _ _ w' ctx ⟨[], by simp⟩ (by rw [with_lvl, hlvl]; exact hlv) (m'.with hnd) ⟨fr'.1, fr'.2⟩ (hl'.with _) (put_defers _ _ _) hden'
    | call c =>
      obtain ⟨hw, u, w', β', W', hrun, m', fr', hl', hlvl⟩ := append_seq (ops := #[]) hC ho hst m fr hnd'
      unfold Oper.wp
      rw [hrun, Oper.upon_value]
      exact hK ρ β' W' _ _ w' ctx ⟨[], by simp⟩ (by rw [with_lvl, hlvl]; exact hlv) (m'.with hnd) ⟨fr'.1, fr'.2⟩ (hl'.with _) (put_defers _ _ _) hden'
    | _ => simp [estep, ho] at hst
  · split at hden
    · -- a step on lists of lists
      rename_i nd s' hst
      obtain ⟨hnd, hden'⟩ := needAll_den hden
      have hnd' : ∀ x ∈ nd, x.B ρ = true := fun x hx => by
        by_cases hh : s.holds (.bl true) x = true
        · exact S.holds_B m.facts rfl hh
        · exact hnd x (List.mem_filter.2 ⟨hx, by simpa using hh⟩)
      rcases mstep_seq hC hst m fr hnd' with ⟨w', β', W', hrun, m', fr', hl', hlvl⟩ | ⟨u, w', β', W', hrun, m', fr', hl', hlvl⟩
      · unfold Oper.wp
        rw [hrun, Oper.upon_skip]
        exact hK ρ β' W' _ _ w' ctx ⟨[], by simp⟩ (by rw [with_lvl, hlvl]; exact hlv) (m'.with hnd) ⟨fr'.1, fr'.2⟩ (hl'.with _) (put_defers _ _ _) hden'
      · unfold Oper.wp
        rw [hrun, Oper.upon_value]
        exact hK ρ β' W' _ _ w' ctx ⟨[], by simp⟩ (by rw [with_lvl, hlvl]; exact hlv) (m'.with hnd) ⟨fr'.1, fr'.2⟩ (hl'.with _) (put_defers _ _ _) hden'
    · split at hden
      · -- nil or not
        rename_i op t x ty ho
        split at hden
        · rename_i b sz off len cp e0 s0 b0 z0 el0 pl0 s' hv htd hmore
          have tt : (X.bl true).B ρ = true := rfl
          have hrel := val_rel m.facts tt m.glob (opd_of_fr fr x) hv
          obtain ⟨q, m0, c, hu, h0, hnil⟩ := slc_nil hrel
          have hsl := slice_dk (hC.ty _ _ htd) rfl
          obtain ⟨e1, e2⟩ := nil_eq (P := P) (w := w) hsl (op := op) x (.const (.slice none 0 0)) q m0 c
          have hkt : KT [VK.b] [AV.b q.isNone] := ⟨rfl, fun i k hk => by
            cases i with
            | zero => simp at hk; subst hk; rfl
            | succ i => simp at hk⟩
          obtain ⟨rfl, m2⟩ := m.more hmore hkt
          have fr2 := Fr.more (δ := [AV.b q.isNone]) m hmore fr
          have hrel2 : (SV.v (.sc (.c (.slc b sz off len cp)))).rel (ρ ++ [AV.b q.isNone]) β (a.eval x) := val_rel m2.facts rfl m2.glob (opd_of_fr fr2 x) hv
          obtain ⟨q2, m1, c1, hu2, _, hnil2⟩ := slc_nil hrel2
          have hqq : q2 = q := by rw [hu] at hu2; injection hu2 with h1; exact h1.symm
          rw [hqq] at hnil2
          have hvar : (X.var s.ks.length).B (ρ ++ [AV.b q.isNone]) = q.isNone := by
            simp [X.B, X.den, ← m.kt.1, AV.bool]
          have hfacts : ∀ y ∈ [imp (.var s.ks.length) (xb .eq len (.lit 0))], y.B (ρ ++ [AV.b q.isNone]) = true := fun y hy => by
            simp only [List.mem_singleton] at hy
            subst hy
            unfold imp
            rw [xor_, xnot, hvar, xeq, lit_I]
            rcases Bool.eq_false_or_eq_true q.isNone with hq | hq
            · rw [hnil2 hq]; simp
            · rw [hq]; rfl
          have hlat : Later ρ β s (ρ ++ [AV.b q.isNone]) β ({ s with ks := s.ks ++ [VK.b] }) := ⟨⟨_, rfl⟩, ⟨_, rfl⟩, Nat.le_refl _, fun k b _ hb => ⟨b, hb, rfl⟩⟩
          have fin : ∀ (y : X) (p : Bool), y.B (ρ ++ [AV.b q.isNone]) = p → ((do eqGuard op t x (.const (.slice none 0 0)) (a.eval x) (a.eval (.const (.slice none 0 0))); binOp op t (a.eval x) (a.eval (.const (.slice none 0 0)))) : Sem Value).run P w = .ok (.bool p) w →
              (Tree.fresh VK.b (assumeAll [imp (.var s.ks.length) (xb .eq len (.lit 0))] (K ((S.with { s with ks := s.ks ++ [VK.b] } [imp (.var s.ks.length) (xb .eq len (.lit 0))]).put o.dst { g := .bl true, v := .v (.sc (.c (.bool y))) })))).den Γ Qd ρ ctx → o.wp P a w K' Q := fun y p hy hrun hd => by
            have hd1 : Tree.den Γ Qd (ρ ++ [AV.b q.isNone]) ctx _ := hd q.isNone
            have hd2 := assumeAll_den hd1 hfacts
            have hr := runv (o := o) (a := a) (m := do eqGuard op t x (.const (.slice none 0 0)) (a.eval x) (a.eval (.const (.slice none 0 0))); binOp op t (a.eval x) (a.eval (.const (.slice none 0 0)))) (by simp [execOp, ho]) hrun
            unfold Oper.wp
            rw [hr, Oper.upon_value]
            exact hK _ β W _ _ w ctx ⟨[], by simp⟩ (by rw [put_lvl]; exact hlv) ((m2.with hfacts).put _ _) (Fr.put (s := S.with { s with ks := s.ks ++ [VK.b] } [imp (.var s.ks.length) (xb .eq len (.lit 0))]) ⟨fr2.1, fr2.2⟩ ⟨fun _ => by show Value.bool _ = Value.bool _; rw [hy], fun h => (by cases h)⟩) ((hlat.with _).put _ _) (put_defers _ _ _) hd2
          simp only at hden
          split at hden
          · exact fin _ _ hvar (by rw [hu]; exact e1 rfl) hden
          · exact fin _ _ (by rw [xnot, hvar]) (by rw [hu]; exact e2 rfl) hden
          · exact hden.elim
        · exact hden.elim
      · -- a callee walked into
        rename_i f args ts ho
        split at hden
        · rename_i fid first caps vs hv hvs
          have tt : (X.bl true).B ρ = true := rfl
          obtain ⟨us1, us2, hfe, hr1, hr2⟩ := val_rel m.facts tt m.glob (opd_of_fr fr f) hv
          have hrv := vals_rel (C := C) (s := s) (a := a) m.facts tt m.glob hvs (fun x _ => opd_of_fr fr x)
          have hall := ((caps_relL hr1).append hrv).append (caps_relL hr2)
          obtain ⟨⟨fn, hfn, hbody, hname⟩, hcall⟩ := hF fid _ s _ ρ β W w ctx _ m hall hlv hden
          unfold Oper.wp
          rw [run_call ho hfe hfn hbody hname, Oper.upon_enter]
          refine hcall _ fun sv s' ρ' β' W' w' ctx' v hc hlv' m' hfl hl' hrel hden' => ?_
          exact hK ρ' β' W' _ _ w' ctx' hc (by rw [put_lvl]; exact hlv') (m'.put _ _) ((hfl a fr).put ⟨fun _ => hrel, fun h => by cases h⟩) (hl'.put _ _) (put_defers _ _ _) hden'
        · exact hden.elim
      · exact hden.elim
theorem execOps_sound (hC : C.Ok P) (hΓ : ConsOk P C Γ B w0) {callF : CallF} (hF : CallOk P C Γ Qd B w0 callF) {Q : Exit → Act → World → Prop} : ∀ (l : List Oper) (ctx : List (List AV → Prop)) (s : S) (ρ : List AV) (β : Mp) (W : Nat → Prop) (a : Act) (w : World) (K : S → Tree),
    ctx.length = s.lvl → Mem C B w0 ρ β W s w → Fr ρ β s a → (execOps C callF ops l s K).den Γ Qd ρ ctx → Onw C B w0 Γ Qd ctx ρ β s a.defers K (fun a w => Q .normal a w) → wpList P ops Q l a w
  | [], ctx, s, ρ, β, W, a, w, K, hlv, m, fr, hden, hK => wpList_nil (hK ρ β W s a w ctx ⟨[], by simp⟩ hlv m fr (Later.refl _ _ _) rfl hden)
  | o :: l, ctx, s, ρ, β, W, a, w, K, hlv, m, fr, hden, hK => by
    have next : ∀ ctx' s' ρ' β' W' a' w', (∃ d, ctx' = ctx ++ d) → ctx'.length = s'.lvl → Mem C B w0 ρ' β' W' s' w' → Fr ρ' β' s' a' → Later ρ β s ρ' β' s' → a'.defers = a.defers → (execOps C callF ops l s' K).den Γ Qd ρ' ctx' → wpList P ops Q l a' w' :=
      fun ctx' s' ρ' β' W' a' w' hc hlv' m' fr' hl' hd' hden' => execOps_sound hC hΓ hF l ctx' s' ρ' β' W' a' w' K hlv' m' fr' hden' (by rw [hd']; exact hK.step hc hl')
    simp only [execOps] at hden
    split at hden
    · rename_i st hst
      refine wpList_step fun K' hK' => ?_
      refine qstep_seq hC hΓ hlv hst m fr hden ?_
      intro ρ' β' W' s' a' w' ctx' hc hlv' m' fr' hl' hd' hden'
      exact hK' _ _ (next ctx' s' ρ' β' W' a' w' hc hlv' m' fr' hl' hd' hden')
    · split at hden
      · rename_i hgd
        refine wpList_step fun K' hK' => ?_
        have hw : Region.wanted o (yielded ops a.tmps) = true := by simp [Region.wanted, hgd]
        rw [hw, if_pos rfl]
        refine stepW_sound hC hF hgd hlv m fr hden ?_
        intro ρ' β' W' s' a' w' ctx' hc hlv' m' fr' hl' hd' hden'
        exact hK' _ _ (next ctx' s' ρ' β' W' a' w' hc hlv' m' fr' hl' hd' hden')
      · split at hden
        · rename_i g hgo
          refine wpList_step fun K' hK' => ?_
          have hx : ∀ j b t, o.guard = some (j, b) → (ops[j]?).bind (·.dst) = some t → ∀ sl, s.tmps[t]? = some (some sl) → sl.rel ρ β (a.tmps.getD t Go.undef) ∧ t < a.tmps.size :=
            fun j b t _ _ sl hs => ⟨fr.2 t sl hs, by rw [fr.1]; exact TM.lt_of_get hs⟩
          have hw := guard_sound hgo hx
          rw [hw]
          split at hden
          · rename_i hh
            have hgB := S.holds_B m.facts (show (X.bl true).B ρ = true from rfl) hh
            rw [hgB, if_pos rfl]
            have hs := stepW_sound (Q := Q) (o := { o with guard := none }) (K' := K') hC hF rfl hlv m (s := s) (a := a) fr hden (by
              intro ρ' β' W' s' a' w' ctx' hc hlv' m' fr' hl' hd' hden'
              exact hK' _ _ (next ctx' s' ρ' β' W' a' w' hc hlv' m' fr' hl' hd' hden'))
            exact hs
          obtain ⟨h1, h2⟩ := hden
          cases hgB : g.B ρ
          · simp only [Bool.false_eq_true, if_false]
            have hng : ∀ x ∈ [mkNot g], x.B ρ = true := fun x hx => by simp at hx; subst hx; rw [xnot, hgB]; rfl
            have mm := (m.with hng).put o.dst ⟨.bl true, .undef⟩
            have ff : Fr ρ β ((s.with [mkNot g]).put o.dst ⟨.bl true, .undef⟩) (a.put o.dst Go.undef) := Fr.put (s := s.with [mkNot g]) ⟨fr.1, fr.2⟩ ⟨fun _ => rfl, fun _ => rfl⟩
            exact hK' _ _ (next ctx _ ρ β W _ w ⟨[], by simp⟩ (by rw [put_lvl]; exact hlv) mm ff (((Later.refl _ _ _).with _).put _ _) (put_defers _ _ _) (h2 hgB))
          · simp only [if_true]
            have hg1 : ∀ x ∈ [g], x.B ρ = true := fun x hx => by simp at hx; subst hx; exact hgB
            have hs := stepW_sound (Q := Q) (o := { o with guard := none }) (K' := K') hC hF rfl (by rw [with_lvl]; exact hlv) (m.with hg1) (s := s.with [g]) (a := a) ⟨fr.1, fr.2⟩ (h1 hgB) (by
              intro ρ' β' W' s' a' w' ctx' hc hlv' m' fr' hl' hd' hden'
              exact hK' _ _ (next ctx' s' ρ' β' W' a' w' hc hlv' m' fr' (Later.trans ((Later.refl _ _ _).with _) hl') hd' hden'))
            exact hs
        · exact hden.elim
/-- a region whose order is open -/
theorem region_sound (hC : C.Ok P) (hΓ : ConsOk P C Γ B w0) (hm : P.follows .mixedOrders = true) {callF : CallF} (hF : CallOk P C Γ Qd B w0 callF) {Q : Exit → Act → World → Prop} {id : Nat} {K : S → Tree} (n : Nat) (hlv : ctx.length = s.lvl) (m : Mem C B w0 ρ β W s w) (fr : Fr ρ β s a)
    (ht : tailB (ops.toList.take n) (ops.toList.drop n) = true) (hsc : (s.more []).isSome = true) {L : List (List Nat × St)} (hrun : headRun C ops (ops.toList.take n) s = some L) (hcl : closedB s L = true) (hob : orderB (predsOf [] (ops.toList.take n)) (infosOf ops (ops.toList.take n) s L) = true)
    (hden : (emitHead (fun s => assumeAll (s.newsC C) (execOps C callF ops (ops.toList.drop n) (s.with (s.newsC C)) K)) s L).den Γ Qd ρ ctx)
    (hK : Onw C B w0 Γ Qd ctx ρ β s a.defers K (fun a w => Q .normal a w)) : (Code.region id ops true).wp P Q a w := by
  have hl : (ops.toList.take n) ++ (ops.toList.drop n) = ops.toList := List.take_append_drop n _
  have ho : ops = ((ops.toList.take n) ++ (ops.toList.drop n)).toArray := by rw [hl]
  refine wp_region_any hm ?_
  generalize ops.toList.take n = pre at *
  generalize ops.toList.drop n = tail at *
  subst ho
  have ok := tailOk_of ht
  have h2 := region_head (Q := Q) (R := wpAny P .any (pre ++ tail).toArray Q tail.length (firstN pre.length (pre ++ tail).length)) hC hΓ hlv m fr ok hsc hrun hcl hob hden ?_
  · have h3 := wpAny_head ok tail.length pre.length (Array.replicate (pre ++ tail).toArray.size false) a { w with drawn := w.drawn + 1 } (by simp) (fun t _ hx => by
      rcases Nat.lt_or_ge t (pre ++ tail).length with hlt | hge
      · simp only [List.size_toArray, Array.getD_eq_getD_getElem?] at hx
        rw [Array.getElem?_replicate, if_pos hlt] at hx
        cases hx
      · exact hge) (by
        have e : (Array.replicate (pre ++ tail).toArray.size false).extract 0 pre.length = Array.replicate pre.length false := by
          apply Array.ext
          · simp
          · intro i _ _; simp
        rw [e]; exact h2)
    simpa using h3
  · intro ρ' β' W' s' a' w' ctx' hc hlv' m' fr' hl' hd' hden'
    have hnews := newsC_sound m' fr'
    have hden2 := assumeAll_den hden' hnews
    refine wpAny_tail ok tail 0 a' w' (by simp) (by simp) ?_
    exact execOps_sound hC hΓ hF tail ctx' (s'.with (s'.newsC C)) ρ' β' W' a' w' K hlv' (m'.with hnews) ⟨fr'.1, fr'.2⟩ hden2 (by rw [hd']; exact hK.step hc (hl'.with _))
theorem region_looks (hC : C.Ok P) (hΓ : ConsOk P C Γ B w0) (hm : P.follows .mixedOrders = true) {callF : CallF} (hF : CallOk P C Γ Qd B w0 callF) {Q : Exit → Act → World → Prop} {id : Nat} {K : S → Tree} (n : Nat) (hlv : ctx.length = s.lvl) (m : Mem C B w0 ρ β W s w) (fr : Fr ρ β s a)
    (hl : lookB ops n = true) (hden : (lookRun C ops (fun s => assumeAll (s.newsC C) (execOps C callF ops (ops.toList.drop n) (s.with (s.newsC C)) K)) (ops.toList.take n) s).den Γ Qd ρ ctx)
    (hK : Onw C B w0 Γ Qd ctx ρ β s a.defers K (fun a w => Q .normal a w)) : (Code.region id ops true).wp P Q a w := by
  simp only [lookB, Bool.and_eq_true] at hl
  obtain ⟨ht, hob⟩ := hl
  have hl : (ops.toList.take n) ++ (ops.toList.drop n) = ops.toList := List.take_append_drop n _
  have ho : ops = ((ops.toList.take n) ++ (ops.toList.drop n)).toArray := by rw [hl]
  refine wp_region_any hm ?_
  generalize ops.toList.take n = pre at *
  generalize ops.toList.drop n = tail at *
  subst ho
  have ok := tailOk_of ht
  have h2 := region_look (Q := Q) (R := wpAny P .any (pre ++ tail).toArray Q tail.length (firstN pre.length (pre ++ tail).length)) hC hΓ hlv m fr ok hob hden ?_
  · have h3 := wpAny_head ok tail.length pre.length (Array.replicate (pre ++ tail).toArray.size false) a { w with drawn := w.drawn + 1 } (by simp) (fun t _ hx => by
      rcases Nat.lt_or_ge t (pre ++ tail).length with hlt | hge
      · simp only [List.size_toArray, Array.getD_eq_getD_getElem?] at hx
        rw [Array.getElem?_replicate, if_pos hlt] at hx
        cases hx
      · exact hge) (by
        have e : (Array.replicate (pre ++ tail).toArray.size false).extract 0 pre.length = Array.replicate pre.length false := by
          apply Array.ext
          · simp
          · intro i _ _; simp
        rw [e]; exact h2)
    simpa using h3
  · intro ρ' β' W' s' a' w' ctx' hc hlv' m' fr' hl' hd' hden'
    have hnews := newsC_sound m' fr'
    have hden2 := assumeAll_den hden' hnews
    refine wpAny_tail ok tail 0 a' w' (by simp) (by simp) ?_
    exact execOps_sound hC hΓ hF tail ctx' (s'.with (s'.newsC C)) ρ' β' W' a' w' K hlv' (m'.with hnews) ⟨fr'.1, fr'.2⟩ hden2 (by rw [hd']; exact hK.step hc (hl'.with _))
theorem wp_frame {o : Oper} {a : Act} {w : World} {K : Act → World → Prop} {Q : Exit → Act → World → Prop} (h : o.wp P a w K Q) :
    o.wp P a w (fun a' w' => K a' w' ∧ ∀ t, o.dst ≠ some t → a'.tmps.getD t Go.undef = a.tmps.getD t Go.undef) Q := by
  have hp : ∀ (b : Act) v, b.tmps = a.tmps → ∀ t, o.dst ≠ some t → (b.put o.dst v).tmps.getD t Go.undef = a.tmps.getD t Go.undef := fun b v hb t ht => by
    rw [getD_put, if_neg (fun hc => ht hc.1), hb]
  unfold Oper.wp at *
  generalize (execOp a.eval o).run P w = r at *
  cases r with
  | ok n w' =>
    cases n <;> simp only [Oper.upon] at h ⊢ <;>
      first
        | exact ⟨h, fun t ht => hp _ _ rfl t ht⟩
        | exact ⟨h, fun t ht => hp { a with defers := _ :: a.defers } _ rfl t ht⟩
        | exact Calls.mono h (fun e w'' he => by
            cases e <;> first
              | exact ⟨he, fun t ht => hp _ _ rfl t ht⟩
              | exact he)
        | exact Rows.mono h (fun v w'' he => ⟨he, fun t ht => hp _ _ rfl t ht⟩)
        | exact h
  | halt x w' => cases x <;> simp only [Oper.upon] at h ⊢ <;> exact h
theorem frame_if {o : Oper} {a : Act} {w : World} {K : Act → World → Prop} {Q : Exit → Act → World → Prop} (h : if Region.wanted o (yielded ops a.tmps) then o.wp P a w K Q else K (a.put o.dst Go.undef) w) :
    if Region.wanted o (yielded ops a.tmps) then o.wp P a w (fun a' w' => K a' w' ∧ ∀ t, o.dst ≠ some t → a'.tmps.getD t Go.undef = a.tmps.getD t Go.undef) Q
    else (fun a' w' => K a' w' ∧ ∀ t, o.dst ≠ some t → a'.tmps.getD t Go.undef = a.tmps.getD t Go.undef) (a.put o.dst Go.undef) w := by
  split at h
  · rename_i hw
    rw [if_pos hw]
    exact wp_frame h
  · rename_i hw
    rw [if_neg hw]
    exact ⟨h, fun t ht => by rw [getD_put, if_neg (fun hc => ht hc.1)]⟩
/-- one operation -/
theorem oper_sound (hC : C.Ok P) (hΓ : ConsOk P C Γ B w0) {callF : CallF} (hF : CallOk P C Γ Qd B w0 callF) {Q : Exit → Act → World → Prop} {o : Oper} {K : S → Tree} {K' : Act → World → Prop}
    (hlv : ctx.length = s.lvl) (m : Mem C B w0 ρ β W s w) (fr : Fr ρ β s a) (hden : (execOps C callF ops [o] s K).den Γ Qd ρ ctx) (hK : Onw C B w0 Γ Qd ctx ρ β s a.defers K K') :
    if Region.wanted o (yielded ops a.tmps) then o.wp P a w K' Q else K' (a.put o.dst Go.undef) w := by
  simp only [execOps] at hden
  split at hden
  · rename_i st hst
    exact qstep_seq hC hΓ hlv hst m fr hden hK
  · split at hden
    · rename_i hgd
      have hw : Region.wanted o (yielded ops a.tmps) = true := by simp [Region.wanted, hgd]
      rw [hw, if_pos rfl]
      exact stepW_sound hC hF hgd hlv m fr hden hK
    · split at hden
      · rename_i g hgo
        have hx : ∀ j b t, o.guard = some (j, b) → (ops[j]?).bind (·.dst) = some t → ∀ sl, s.tmps[t]? = some (some sl) → sl.rel ρ β (a.tmps.getD t Go.undef) ∧ t < a.tmps.size :=
          fun j b t _ _ sl hs => ⟨fr.2 t sl hs, by rw [fr.1]; exact TM.lt_of_get hs⟩
        have hw := guard_sound hgo hx
        rw [hw]
        split at hden
        · rename_i hh
          have hgB := S.holds_B m.facts (show (X.bl true).B ρ = true from rfl) hh
          rw [hgB, if_pos rfl]
          exact stepW_sound (Q := Q) (o := { o with guard := none }) (K' := K') hC hF rfl hlv m (s := s) (a := a) fr hden hK
        obtain ⟨h1, h2⟩ := hden
        cases hgB : g.B ρ
        · simp only [Bool.false_eq_true, if_false]
          have hng : ∀ x ∈ [mkNot g], x.B ρ = true := fun x hx => by simp at hx; subst hx; rw [xnot, hgB]; rfl
          have mm := (m.with hng).put o.dst ⟨.bl true, .undef⟩
          have ff : Fr ρ β ((s.with [mkNot g]).put o.dst ⟨.bl true, .undef⟩) (a.put o.dst Go.undef) := Fr.put (s := s.with [mkNot g]) ⟨fr.1, fr.2⟩ ⟨fun _ => rfl, fun _ => rfl⟩
          exact hK ρ β W _ _ w ctx ⟨[], by simp⟩ (by rw [put_lvl]; exact hlv) mm ff (((Later.refl _ _ _).with _).put _ _) (put_defers _ _ _) (h2 hgB)
        · simp only [if_true]
          have hg1 : ∀ x ∈ [g], x.B ρ = true := fun x hx => by simp at hx; subst hx; exact hgB
          exact stepW_sound (Q := Q) (o := { o with guard := none }) (K' := K') hC hF rfl (by rw [with_lvl]; exact hlv) (m.with hg1) (s := s.with [g]) (a := a) ⟨fr.1, fr.2⟩ (h1 hgB) (by
            intro ρ' β' W' s' a' w' ctx' hc hlv' m' fr' hl' hd' hden'
            exact hK ρ' β' W' s' a' w' ctx' hc hlv' m' fr' (Later.trans ((Later.refl _ _ _).with _) hl') hd' hden')
      · exact hden.elim
/-- looking around leaves all as it is, but for slots -/
theorem pureRun_den {K : S → Tree} : ∀ (l : List Nat) (s : S), (pureRun C ops K l s).den Γ Qd ρ ctx → Mem C B w0 ρ β W s w →
    ∃ s2, (K s2).den Γ Qd ρ ctx ∧ Mem C B w0 ρ β W s2 w ∧ s2.heap = s.heap ∧ s2.ks = s.ks ∧ s2.lvl = s.lvl ∧ s2.tmps.length = s.tmps.length ∧ ∀ t, t ∉ dstsOf ops l → s2.tmps[t]? = s.tmps[t]?
  | [], s, h, m => ⟨s, h, m, rfl, rfl, rfl, rfl, fun _ _ => rfl⟩
  | i :: l, s, h, m => by
    simp only [pureRun] at h
    split at h
    · exact h.elim
    · rename_i o ho
      split at h
      · rename_i st hq
        split at h
        · rename_i hc
          simp only [Bool.and_eq_true, Option.isNone_iff_eq_none] at hc
          obtain ⟨hp, hcall⟩ := hc
          obtain ⟨hnd, h⟩ := needAll_den h
          obtain ⟨es, ks, sl, sh⟩ := qstep_shape hq
          have hks : ks = [] := sh.nocall hcall
          have eh : st.s.heap = s.heap := qstep_pure hp hq
          have hst : ({ st.s with heap := s.heap } : S) = st.s := by rw [← eh]
          rw [hst] at h
          have ek : st.s.ks = s.ks := by rw [sh.ks, hks, List.append_nil]
          have hfacts : st.s.factsOk ρ := fun x hx => by
            rcases sh.facts x hx with h1 | h1
            · exact m.facts x h1
            · exact hnd x h1
          have m2 : Mem C B w0 ρ β W st.s w := ⟨⟨m.below, m.size, m.wlo, fun k e b hk => m.heap k e b (by simpa [S.H, eh] using hk), m.dist, m.own, m.glob⟩, by rw [eh]; exact m.all, by rw [eh]; exact m.top, hfacts, by rw [ek]; exact m.kt⟩
          obtain ⟨s2, h1, h2, h3, h4, h5, h6, h7⟩ := pureRun_den l st.s h m2
          refine ⟨s2, h1, h2, h3.trans eh, h4.trans ek, h5.trans sh.lvl, h6.trans (by rw [sh.tmps, put_len]), fun t ht => ?_⟩
          simp only [dstsOf, List.filterMap_cons, ho, Option.bind_some] at ht
          have ht2 : t ∉ dstsOf ops l := by
            intro hc; apply ht
            cases o.dst with
            | none => exact hc
            | some d => exact List.mem_cons_of_mem _ hc
          have ht1 : o.dst ≠ some t := fun hc => by
            apply ht; rw [hc]; exact List.mem_cons_self ..
          rw [h7 t ht2, sh.tmps, put_tmps, if_neg (fun hc => ht1 hc.1)]
        · exact h.elim
      · exact h.elim
theorem normS_rel {s : S} (hf : s.factsOk ρ) (sl : Slot) (u : Value) : (normS s sl).rel ρ β u ↔ sl.rel ρ β u := by
  unfold normS
  split
  · rename_i h
    have hg := S.holds_B hf (show (X.bl true).B ρ = true from rfl) h
    exact ⟨fun hr => ⟨fun _ => hr.1 rfl, fun hc => (by rw [hg] at hc; cases hc)⟩, fun hr => ⟨fun _ => hr.1 hg, fun hc => (by cases hc)⟩⟩
  · split
    · rename_i h
      have hg := S.holds_B hf (show (X.bl true).B ρ = true from rfl) h
      rw [xnot] at hg
      have hg : sl.g.B ρ = false := by simpa using hg
      exact ⟨fun hr => ⟨fun hc => (by rw [hg] at hc; cases hc), fun _ => hr.1 rfl⟩, fun hr => ⟨fun _ => hr.2 hg, fun hc => (by cases hc)⟩⟩
    · exact Iff.rfl
theorem dsts_mem {l : List Nat} {t : Nat} : t ∈ dstsOf ops l ↔ ∃ i ∈ l, (ops[i]?).bind (·.dst) = some t := by
  simp [dstsOf, List.mem_filterMap]
theorem maskT_get (s : S) (ds : List Nat) (t : Nat) : (maskT s ds).tmps[t]? = (s.tmps[t]?).map fun x => if ds.contains t then none else x := by
  exact TM.mapI_get _ _ _
theorem unmaskT_get (o s : S) (ds : List Nat) (t : Nat) : (unmaskT o s ds).tmps[t]? = (s.tmps[t]?).map fun x => if ds.contains t then (o.tmps[t]?).getD none else x := by
  exact TM.mapI_get _ _ _
theorem mem_tmps (m : Mem C B w0 ρ β W s w) (l : TM) : Mem C B w0 ρ β W { s with tmps := l } w := ⟨m.toPMem, m.all, m.top, m.facts, m.kt⟩
/-- while the operations of a region come up -/
structure FInv (C : Cfg) (B : Nat) (w0 : World) (Γ : FuncId → Con) (Qd : List AV → Prop) (ops : Array Oper) (callF : CallF) (K : S → Tree) (ctx : List (List AV → Prop)) (ρ0 : List AV) (β0 : Mp) (s0 : S) (ds : List Deferred)
    (n : Nat) (past fl : List Nat) (listed : Array Bool) (a : Act) (w : World) (ρ : List AV) (β : Mp) (W : Nat → Prop) (s : S) (ctx' : List (List AV → Prop)) : Prop where
  m : Mem C B w0 ρ β W s w
  sz : a.tmps.size = s.tmps.length
  slots : ∀ (t : Nat) sl, s.tmps[t]? = some (some sl) → (∀ i ∈ fl, listed.getD i true = false → (ops[i]?).bind (·.dst) ≠ some t) → sl.rel ρ β (a.tmps.getD t Go.undef)
  st : ∀ i ∈ fl, stillB C ops s i = true
  lst : ∀ i, i < ops.size → listed.getD i true = true → i ∈ past
  unl : ∀ i ∈ past, listed.getD i true = false → i ∈ fl
  flp : ∀ i ∈ fl, i ∈ past ∧ i < ops.size ∧ isAn ops i = false
  cmp : ∀ i, i < ops.size → isAn ops i = false → anDone ops (predsOf [] ops.toList) past i = true → i ∈ past
  clo : ∀ (j : Nat) o, ops.toList[j]? = some o → listed.getD j true = true → ∀ e ∈ o.after, Region.binds .any e = true → listed.getD e.on false = true
  lsz : listed.size = ops.size
  den : (execDy C callF ops (predsOf [] ops.toList) K n past fl s).den Γ Qd ρ ctx'
  lat : Later ρ0 β0 s0 ρ β s
  cx : ∃ d, ctx' = ctx ++ d
  lv : ctx'.length = s.lvl
  df : a.defers = ds
theorem preds_of {i j : Nat} {p : List Nat} (h : (predsOf [] ops.toList)[j]? = some p) (hi : i ∈ p) : Bef ops.toList i j :=
  preds_bef ops.toList ops.toList [] (by simp) (fun j p h => by simp at h) j p h i hi
theorem preds_of' {i j : Nat} (hi : (((predsOf [] ops.toList)[j]?).getD []).contains i = true) : Bef ops.toList i j := by
  cases h : (predsOf [] ops.toList)[j]? with
  | none => rw [h] at hi; simp at hi
  | some p => rw [h] at hi; exact preds_of h (List.contains_iff_mem.1 hi)
theorem allT_den : ∀ {l : List Tree}, (allT l).den Γ Qd ρ ctx → ∀ t ∈ l, t.den Γ Qd ρ ctx
  | [], h, t, ht => by cases ht
  | [x], h, t, ht => by simp at ht; subst ht; exact h
  | x :: y :: l, h, t, ht => by
    rcases List.mem_cons.1 ht with rfl | ht
    · exact h.1
    · exact allT_den (l := y :: l) h.2 t ht
theorem isAn_false {i : Nat} (hi : i < ops.size) (h : isAn ops i = false) {o : Oper} (ho : ops[i]? = some o) : pureKind o = true := by
  unfold isAn at h
  rw [ho] at h
  simpa using h
theorem newPure_mem {ps : List (List Nat)} {past : List Nat} {i : Nat} : i ∈ newPure ops ps past ↔ i < ops.size ∧ isAn ops i = false ∧ i ∉ past ∧ anDone ops ps past i = true := by
  simp [newPure, and_assoc]
theorem anDone_mono {ps : List (List Nat)} {past : List Nat} {i : Nat} (l : List Nat) (h : anDone ops ps (l ++ past) i = true) (hl : ∀ j ∈ l, isAn ops j = false) : anDone ops ps past i = true := by
  simp only [anDone, List.all_eq_true, Bool.or_eq_true, Bool.not_eq_true', List.contains_iff_mem, List.mem_append] at h ⊢
  intro j hj
  rcases h j hj with h1 | h1 | h1
  · exact .inl h1
  · exact .inl (hl j h1)
  · exact .inr h1
theorem float_any (hC : C.Ok P) (hΓ : ConsOk P C Γ B w0) {callF : CallF} (hF : CallOk P C Γ Qd B w0 callF) {K : S → Tree} {Q : Exit → Act → World → Prop} {ρ0 : List AV} {β0 : Mp} {s0 : S} {ds : List Deferred}
    (early : ∀ (i : Nat) o, ops.toList[i]? = some o → ∀ e ∈ o.after, Region.binds .any e = true → e.on < i)
    (haz : ∀ (i j : Nat) oi oj t, ops[i]? = some oi → ops[j]? = some oj → pureKind oi = true → pureKind oj = true → oi.dst = some t → t ∈ usesOf ops oj → Bef ops.toList i j)
    (hK : Onw C B w0 Γ Qd ctx ρ0 β0 s0 ds K (fun a w => Q .normal a w)) :
    ∀ (f : Nat) (n : Nat) (past fl : List Nat) (listed : Array Bool) (a : Act) (w : World) (ρ : List AV) (β : Mp) (W : Nat → Prop) (s : S) (ctx' : List (List AV → Prop)),
      FInv C B w0 Γ Qd ops callF K ctx ρ0 β0 s0 ds n past fl listed a w ρ β W s ctx' → unl listed ops.size ≤ f → wpAny P .any ops Q f listed a w := by
  -- all listed: the end
  have fin : ∀ (n : Nat) (past fl : List Nat) (listed : Array Bool) (a : Act) (w : World) (ρ : List AV) (β : Mp) (W : Nat → Prop) (s : S) (ctx' : List (List AV → Prop)),
      FInv C B w0 Γ Qd ops callF K ctx ρ0 β0 s0 ds n past fl listed a w ρ β W s ctx' → (∀ i, i < ops.size → listed.getD i true = true) → Q .normal a w := by
    intro n past fl listed a w ρ β W s ctx' inv hall
    have hpast : (List.range ops.size).all past.contains = true := by
      rw [List.all_eq_true]
      intro i hi
      have hi := List.mem_range.1 hi
      exact List.contains_iff_mem.2 (inv.lst i hi (hall i hi))
    have hden := inv.den
    have hden : (K s).den Γ Qd ρ ctx' := by
      cases n <;> (simp only [execDy, hpast, if_true] at hden; exact hden)
    exact hK ρ β W s a w ctx' inv.cx inv.lv inv.m ⟨inv.sz, fun t sl hs => inv.slots t sl hs (fun i hi hl => by
      rw [hall i (inv.flp i hi).2.1] at hl; cases hl)⟩ inv.lat inv.df hden
  have empty : ∀ (n : Nat) (past fl : List Nat) (listed : Array Bool) (a : Act) (w : World) (ρ : List AV) (β : Mp) (W : Nat → Prop) (s : S) (ctx' : List (List AV → Prop)),
      FInv C B w0 Γ Qd ops callF K ctx ρ0 β0 s0 ds n past fl listed a w ρ β W s ctx' → Region.ready .any ops listed = [] → Q .normal a w := by
    intro n past fl listed a w ρ β W s ctx' inv h0
    refine fin n past fl listed a w ρ β W s ctx' inv ?_
    intro i
    induction i using Nat.strongRecOn with
    | _ i ih =>
      intro hi
      cases hc : listed.getD i true
      · exfalso
        have : i ∈ Region.ready .any ops listed := by
          refine mem_rd.2 ⟨hi, hc, ops[i], by simp [hi], fun e he hb => ?_⟩
          have he2 := early i ops[i] (by simp [hi]) e he hb
          have h3 := ih e.on he2 (by omega)
          rw [← getD_tf (by rw [inv.lsz]; omega)]
          exact h3
        rw [h0] at this; cases this
      · rfl
  intro f
  induction f with
  | zero =>
    intro n past fl listed a w ρ β W s ctx' inv hf
    have hall := unl_zero (Nat.le_zero.1 hf)
    refine ⟨?_, fin n past fl listed a w ρ β W s ctx' inv hall⟩
    apply List.eq_nil_iff_forall_not_mem.2
    intro i hi
    obtain ⟨h1, h2, _⟩ := mem_rd.1 hi
    rw [hall i h1] at h2; cases h2
  | succ f ih =>
    intro n past fl listed a w ρ β W s ctx' inv hf
    refine ⟨empty n past fl listed a w ρ β W s ctx' inv, fun i hi => ?_⟩
    obtain ⟨hlt, hun, o, ho, hready⟩ := mem_rd.1 hi
    have hol : ops.toList[i]? = some o := by simpa using ho
    have hr : ∀ o', ops.toList[i]? = some o' → ∀ e ∈ o'.after, Region.binds .any e = true → listed.getD e.on false = true := fun o' ho' => by
      rw [hol] at ho'; obtain rfl := Option.some.inj ho'; exact hready
    have hbef : ∀ j, Bef ops.toList j i → listed.getD j true = true := fun j hj => bef_ready inv.clo hr hj
    have hsi : i < listed.size := by rw [inv.lsz]; exact hlt
    have hset : ∀ j d, (listed.setIfInBounds i true).getD j d = if j = i ∧ i < listed.size then true else listed.getD j d := fun j d => set_getD _ _ _ _
    have hunl : Vc.unl (listed.setIfInBounds i true) ops.size ≤ f := by
      have := unl_set (l := listed) hun (n := ops.size)
      rw [if_pos hlt] at this
      omega
    have hclo : ∀ (j : Nat) oj, ops.toList[j]? = some oj → (listed.setIfInBounds i true).getD j true = true → ∀ e ∈ oj.after, Region.binds .any e = true → (listed.setIfInBounds i true).getD e.on false = true := fun j oj hoj hlj e he hb => by
      rw [hset]
      split
      · rfl
      · by_cases hji : j = i
        · subst hji; exact hr oj hoj e he hb
        · rw [hset, if_neg (fun h => hji h.1)] at hlj
          exact inv.clo j oj hoj hlj e he hb
    have hdone : anDone ops (predsOf [] ops.toList) past i = true := by
      simp only [anDone, List.all_eq_true, Bool.or_eq_true, Bool.not_eq_true', List.contains_iff_mem]
      intro j hj
      right
      have hb : Bef ops.toList j i := preds_of' (List.contains_iff_mem.2 hj)
      have hlj := hbef j hb
      rcases Nat.lt_or_ge j ops.size with h | h
      · exact inv.lst j h hlj
      · exfalso
        have : ∀ {x y : Nat}, Bef ops.toList x y → y < ops.size → x < ops.size := fun {x y} hxy => by
          induction hxy with
          | one hoy he hb => intro hy; have := early _ _ hoy _ he hb; omega
          | step hoy he hb _ ih => intro hy; have := early _ _ hoy _ he hb; exact ih (by omega)
        have := this hb hlt
        omega
    -- operands are done
    have hop : ∀ (s1 : S), s1.tmps = s.tmps → i ∈ fl → ∀ t ∈ usesOf ops o, ∀ sl, s1.tmps[t]? = some (some sl) → sl.rel ρ β (a.tmps.getD t Go.undef) := fun s1 e1 hifl t ht sl hs => by
      rw [e1] at hs
      refine inv.slots t sl hs fun j hj hlj hd => ?_
      obtain ⟨_, hjl, hja⟩ := inv.flp j hj
      obtain ⟨oj, hoj⟩ : ∃ oj, ops[j]? = some oj := ⟨ops[j], by simp [hjl]⟩
      rw [hoj] at hd
      have hb := haz j i oj o t hoj ho (isAn_false hjl hja hoj) (isAn_false hlt (inv.flp i hifl).2.2 ho) hd ht
      have := hbef j hb
      rw [hlj] at this; cases this
    have wrap : ∀ {K' : Act → World → Prop}, (∀ a w, K' a w → wpAny P .any ops Q f (listed.setIfInBounds i true) a w) → (if Region.wanted o (yielded ops a.tmps) then o.wp P a w K' Q else K' (a.put o.dst Go.undef) w) → wpOp P ops Q i (wpAny P .any ops Q f (listed.setIfInBounds i true)) a w := fun hk h => by
      unfold wpOp
      rw [ho]
      simp only
      split
      · rename_i hw; rw [if_pos hw] at h; exact .inl (Oper.wp_mono hk h)
      · rename_i hw; rw [if_neg hw] at h; exact hk _ _ h
    cases hia : isAn ops i with
    | false =>
      -- it looks around
      have hfl : i ∈ fl := inv.unl i (inv.cmp i hlt hia hdone) hun
      have hst := inv.st i hfl
      unfold stillB at hst
      rw [ho] at hst
      simp only at hst
      cases hq : qstep C s ops o with
      | none => rw [hq] at hst; cases hst
      | some st =>
        rw [hq] at hst
        simp only [Bool.and_eq_true, Option.isNone_iff_eq_none] at hst
        obtain ⟨⟨⟨hnd0, hpk⟩, hcall⟩, hslot⟩ := hst
        have hlen : st.s.heap.length = s.heap.length := by rw [qstep_pure hpk hq]
        rw [List.all_eq_true] at hnd0
        refine wrap (K' := wpAny P .any ops Q f (listed.setIfInBounds i true)) (fun _ _ h => h) ?_
        have hm := inv.m
        refine head_step hC hΓ hq (fun x hx => S.holds_B hm.facts rfl (hnd0 x hx)) hm.toPMem (by rw [hcall]; intro g f aks ks xs h; cases h) (fun k e b hk hb => hm.heap k e b hk hb) (fun k e h1 h2 => ?_) (fun k h1 h2 => by omega) hm.facts (fun x hx t ht sl hs => ?_) (fun j b t hg ht sl hs => ⟨?_, ?_⟩) fun sl β' W' w' u htm hrel hl' => ?_
        · have := (List.getElem?_eq_some_iff.1 h2).1; omega
        · subst ht
          refine hop s rfl hfl t (List.mem_append.2 (.inl ?_)) sl hs
          simp only [opTmps, List.mem_filterMap]
          exact ⟨_, hx, rfl⟩
        · refine hop s rfl hfl t (List.mem_append.2 (.inr ?_)) sl hs
          rw [hg]; simp only; rw [ht]; simp
        · rw [inv.sz]; exact TM.lt_of_get hs
        · have hβ : β' = β := funext fun k => hl'.same k (by omega)
          subst hβ
          refine ih n past fl _ _ w' ρ β' W' s ctx' ⟨⟨hl'.toPMem, hm.all, hm.top, hm.facts, hm.kt⟩, by rw [size_put]; exact inv.sz, fun t sl' hs hno => ?_, inv.st, fun j hj hlj => ?_, fun j hj hlj => ?_, inv.flp, inv.cmp, hclo, by simpa using inv.lsz, inv.den, inv.lat, inv.cx, inv.lv, by rw [put_defers]; exact inv.df⟩ hunl
          · rw [getD_put]
            have hlt2 : t < s.tmps.length := TM.lt_of_get hs
            by_cases hd : o.dst = some t
            · rw [if_pos ⟨hd, by rw [inv.sz]; exact hlt2⟩]
              rw [hd] at hslot
              simp only at hslot
              rw [htm, put_tmps, if_pos ⟨hd, hlt2⟩, hs] at hslot
              simp only [decide_eq_true_eq] at hslot
              exact (normS_rel hm.facts sl' u).1 (hslot ▸ (normS_rel hm.facts sl u).2 hrel)
            · rw [if_neg (fun h => hd h.1)]
              refine inv.slots t sl' hs fun j hj hlj => ?_
              by_cases hji : j = i
              · subst hji; rw [ho]; exact hd
              · exact hno j hj (by rw [hset, if_neg (fun h => hji h.1)]; exact hlj)
          · rw [hset] at hlj
            split at hlj
            · rename_i h; rw [h.1]; exact (inv.flp i hfl).1
            · exact inv.lst j hj hlj
          · rw [hset] at hlj
            split at hlj
            · cases hlj
            · exact inv.unl j hj hlj
    | true =>
      have hip : i ∉ past := fun h => by
        have := (inv.flp i (inv.unl i h hun)).2.2
        rw [hia] at this; cases this
      have hnall : ¬ (List.range ops.size).all past.contains = true := fun h => hip (List.contains_iff_mem.1 (List.all_eq_true.1 h i (List.mem_range.2 hlt)))
      have hden := inv.den
      cases n with
      | zero =>
        simp only [execDy] at hden
        rw [if_neg hnall] at hden
        exact (show False from hden).elim
      | succ n =>
        simp only [execDy] at hden
        rw [if_neg hnall] at hden
        have hmem : i ∈ readyAn ops (predsOf [] ops.toList) past := by
          simp only [readyAn, List.mem_filter, List.mem_range, Bool.and_eq_true, Bool.not_eq_true']
          refine ⟨hlt, ⟨hia, ?_⟩, hdone⟩
          cases hc : past.contains i
          · rfl
          · exact absurd (List.contains_iff_mem.1 hc) hip
        have hden := allT_den hden _ (List.mem_map_of_mem hmem)
        simp only [ho] at hden
        generalize hfl' : fl.filter (fun k => !(((predsOf [] ops.toList)[i]?).getD []).contains k) = fl' at hden
        have hfm : ∀ j, j ∈ fl' → j ∈ fl := fun j hj => by rw [← hfl'] at hj; exact (List.mem_filter.1 hj).1
        -- what floats and is not done is kept
        have hkeep : ∀ j ∈ fl, listed.getD j true = false → j ∈ fl' := fun j hj hlj => by
          rw [← hfl']
          refine List.mem_filter.2 ⟨hj, ?_⟩
          cases hc : (((predsOf [] ops.toList)[i]?).getD []).contains j
          · rfl
          · have := hbef j (preds_of' hc)
            rw [hlj] at this; cases this
        generalize hcb : ((dstsOf ops fl').all (scopedT s) && !(match o.dst with | some d => (dstsOf ops fl').contains d | none => false)) = cb at hden
        cases cb with
        | true =>
          simp only [if_true] at hden
          have hif := hcb
          simp only [Bool.and_eq_true] at hif
          obtain ⟨hmore, hdst⟩ := hif
          rw [List.all_eq_true] at hmore
          have sc : ∀ t ∈ dstsOf ops fl', ∀ sl, s.tmps[t]? = some (some sl) → sl.sub (idR s.ks.length s.heap.length) = some sl := fun t ht sl hs => by
            have := hmore t ht
            unfold scopedT at this
            rw [hs] at this
            have this := andF_true this
            exact Slot.sub_ok (Nat.le_of_ble_eq_true this.1) (Nat.le_of_ble_eq_true this.2)
          have hdst' : ∀ t, o.dst = some t → t ∉ dstsOf ops fl' := fun t ht hc => by
            rw [ht] at hdst
            simp only [List.contains_iff_mem.2 hc] at hdst; cases hdst
          have frm : Fr ρ β (maskT s (dstsOf ops fl')) a := by
            refine ⟨(show a.tmps.size = (s.tmps.mapI _).length by rw [TM.mapI_len]; exact inv.sz), fun t sl hs => ?_⟩
            rw [maskT_get, Option.map_eq_some_iff] at hs
            obtain ⟨x, hx, hxe⟩ := hs
            by_cases hc : (dstsOf ops fl').contains t = true
            · rw [if_pos hc] at hxe; cases hxe
            · rw [if_neg hc] at hxe
              subst hxe
              refine inv.slots t sl hx fun j hj hlj hd => hc (List.contains_iff_mem.2 (dsts_mem.2 ⟨j, hkeep j hj hlj, hd⟩))
          have hm : Mem C B w0 ρ β W (maskT s (dstsOf ops fl')) w := mem_tmps inv.m _
          generalize hln : newPure ops (predsOf [] ops.toList) (i :: past) = l at hden
          have step := oper_sound (s := maskT s (dstsOf ops fl')) (Q := Q) (K' := fun a' w' => ∃ ρ' β' W' s' ctx2, (∃ d, ctx2 = ctx' ++ d) ∧ ctx2.length = s'.lvl ∧ Mem C B w0 ρ' β' W' s' w' ∧ Fr ρ' β' s' a' ∧ Later ρ β (maskT s (dstsOf ops fl')) ρ' β' s' ∧ a'.defers = a.defers ∧
              (pureRun C ops (fun s2 => if (fl' ++ l).all (stillB C ops s2) then execDy C callF ops (predsOf [] ops.toList) K n (l ++ i :: past) (fl' ++ l) s2 else .fail "float") l (unmaskT s s' (dstsOf ops fl'))).den Γ Qd ρ' ctx2)
            hC hΓ hF inv.lv hm frm hden (fun ρ' β' W' s' a' w' ctx2 h1 h2 h3 h4 h5 h6 h7 => ⟨ρ', β', W', s', ctx2, h1, h2, h3, h4, h5, h6, h7⟩)
          refine wrap (fun a' w' hk => ?_) (frame_if step)
          obtain ⟨⟨ρ', β', W', s', ctx2, hcx, hlv, m', fr', hl', hd', hden'⟩, hsame⟩ := hk
          have m2 : Mem C B w0 ρ' β' W' (unmaskT s s' (dstsOf ops fl')) w' := mem_tmps m' _
          obtain ⟨s3, h1, h2, h3, h4, h5, h6, h7⟩ := pureRun_den l _ hden' m2
          split at h1
          · rename_i hall
            rw [List.all_eq_true] at hall
            have hlm : ∀ j, j ∈ l → j < ops.size ∧ isAn ops j = false ∧ j ∉ i :: past ∧ anDone ops (predsOf [] ops.toList) (i :: past) j = true := fun j hj => by
              rw [← hln] at hj; exact newPure_mem.1 hj
            have hlu : ∀ j, j ∈ l → (listed.setIfInBounds i true).getD j true = false := fun j hj => by
              obtain ⟨q1, q2, q3, q4⟩ := hlm j hj
              simp only [List.mem_cons, not_or] at q3
              rw [hset, if_neg (fun h => q3.1 h.1)]
              cases hc : listed.getD j true
              · rfl
              · exact absurd (inv.lst j q1 hc) q3.2
            have hid : (idR s.ks.length s.heap.length).Ok ρ β ρ' β' := by
              obtain ⟨δ, hδ⟩ := hl'.env
              rw [hδ]
              refine idR_ok (by rw [inv.m.kt.1]; exact Nat.le_refl _) fun k hk => ?_
              obtain ⟨b, hb⟩ := inv.m.all k hk
              obtain ⟨b', hb', hv⟩ := hl'.map k b hk hb
              rw [hb, hb']; simp [hv]
            refine ih n (l ++ i :: past) (fl' ++ l) _ a' w' ρ' β' W' s3 ctx2 ⟨h2, ?_, fun t sl hs hno => ?_, hall, fun j hj hlj => ?_, fun j hj hlj => ?_, fun j hj => ?_, fun j hj hja hjd => ?_, hclo, by simpa using inv.lsz, h1, ?_, ?_, ?_, hd'.trans inv.df⟩ hunl
            · rw [fr'.1, h6]; exact (TM.mapI_len _ _).symm
            · have htl : t ∉ dstsOf ops l := fun hc => by
                obtain ⟨j, hj, hd⟩ := dsts_mem.1 hc
                exact hno j (by simp [hj]) (hlu j hj) hd
              rw [h7 t htl, unmaskT_get, Option.map_eq_some_iff] at hs
              obtain ⟨x, hx, hxe⟩ := hs
              by_cases hc : (dstsOf ops fl').contains t = true
              · rw [if_pos hc] at hxe
                have hs1 : s.tmps[t]? = some (some sl) := by
                  cases hh : s.tmps[t]? with
                  | none => rw [hh] at hxe; cases hxe
                  | some y => rw [hh] at hxe; simp at hxe; rw [hxe]
                have hold := inv.slots t sl hs1 fun j hj hlj => by
                  have hji : j ≠ i := fun h => hip (h ▸ (inv.flp j hj).1)
                  exact hno j (by simp [hkeep j hj hlj]) (by rw [hset, if_neg (fun h => hji h.1)]; exact hlj)
                rw [hsame t (fun hd => hdst' t hd (List.contains_iff_mem.1 hc))]
                exact (Slot.sub_rel hid (sc t (List.contains_iff_mem.1 hc) sl hs1) _).2 hold
              · rw [if_neg hc] at hxe
                subst hxe
                exact fr'.2 t sl hx
            · rw [hset] at hlj
              split at hlj
              · rename_i h; simp [h.1]
              · have := inv.lst j hj hlj
                simp [this]
            · simp only [List.mem_append, List.mem_cons] at hj
              rcases hj with hj | hj | hj
              · simp [hj]
              · rw [hset, if_pos ⟨hj, hsi⟩] at hlj; cases hlj
              · have hji : j ≠ i := fun h => hip (h ▸ hj)
                rw [hset, if_neg (fun h => hji h.1)] at hlj
                have := hkeep j (inv.unl j hj hlj) hlj
                simp [this]
            · simp only [List.mem_append] at hj
              rcases hj with hj | hj
              · obtain ⟨q1, q2, q3⟩ := inv.flp j (hfm j hj)
                exact ⟨by simp [q1], q2, q3⟩
              · obtain ⟨q1, q2, _⟩ := hlm j hj
                exact ⟨by simp [hj], q1, q2⟩
            · have hjd := anDone_mono l hjd (fun k hk => (hlm k hk).2.1)
              by_cases hjp : j ∈ i :: past
              · simp only [List.mem_append]; exact .inr hjp
              · have : j ∈ l := by rw [← hln]; exact newPure_mem.2 ⟨hj, hja, hjp, hjd⟩
                simp [this]
            · refine inv.lat.trans ?_
              obtain ⟨e1, ⟨e2, e3⟩, e4, e5⟩ := hl'
              refine ⟨e1, ⟨e2, ?_⟩, ?_, e5⟩
              · rw [h4]; exact e3
              · rw [h3]; exact e4
            · obtain ⟨d, hd⟩ := hcx
              obtain ⟨d0, hd0⟩ := inv.cx
              exact ⟨d0 ++ d, by rw [hd, hd0, List.append_assoc]⟩
            · rw [h5]; exact hlv
          · exact h1.elim
        | false => exact (show False from hden).elim
theorem region_float (hC : C.Ok P) (hΓ : ConsOk P C Γ B w0) (hm : P.follows .mixedOrders = true) {callF : CallF} (hF : CallOk P C Γ Qd B w0 callF) {Q : Exit → Act → World → Prop} {id : Nat} {K : S → Tree} (hlv : ctx.length = s.lvl) (m : Mem C B w0 ρ β W s w) (fr : Fr ρ β s a)
    (hden : (floatT C callF id ops K s).den Γ Qd ρ ctx)
    (hK : Onw C B w0 Γ Qd ctx ρ β s a.defers K (fun a w => Q .normal a w)) : (Code.region id ops true).wp P Q a w := by
  refine wp_region_any hm ?_
  unfold floatT at hden
  simp only at hden
  generalize hln : newPure ops (predsOf [] ops.toList) [] = l at hden
  split at hden
  · rename_i hb
    simp only [floatB, Bool.and_eq_true] at hb
    obtain ⟨b5, b6⟩ := hb
    have z : ∀ (i : Nat) (o : Oper), ops[i]? = some o → (o, i) ∈ ops.toList.zipIdx := fun i o ho => by
      rw [List.mem_zipIdx_iff_getElem?]; simpa using ho
    have hbw : Below w.heap.size w { w with drawn := w.drawn + 1 } := (Below.refl _ _).drew
    have m1 : Mem C B w0 ρ β W s { w with drawn := w.drawn + 1 } := ⟨m.toPMem.later hbw, m.all, m.top, m.facts, m.kt⟩
    obtain ⟨s2, h1, h2, h3, h4, h5, h6, h7⟩ := pureRun_den l s hden m1
    split at h1
    · rename_i hall
      rw [List.all_eq_true] at hall b5 b6
      have hrep : ∀ j, j < ops.size → (Array.replicate ops.size false).getD j true = false := fun j hj => by
        rw [Array.getD_eq_getD_getElem?, Array.getElem?_replicate, if_pos hj]; rfl
      have hlm : ∀ j, j ∈ l → j < ops.size ∧ isAn ops j = false ∧ j ∉ [] ∧ anDone ops (predsOf [] ops.toList) [] j = true := fun j hj => by
        rw [← hln] at hj; exact newPure_mem.1 hj
      refine float_any hC hΓ hF (fun i o ho e he hbd => ?_) (fun i j oi oj t hoi hoj hpi hpj hd ht => ?_) hK ops.size ops.size l l _ a _ ρ β W s2 ctx
        ⟨h2, by rw [h6]; exact fr.1, fun t sl hs hno => ?_, hall, fun i hi hl => ?_, fun i hi _ => hi, fun i hi => ⟨hi, (hlm i hi).1, (hlm i hi).2.1⟩, fun i hi hia hid => ?_, fun j o ho hl => ?_, by simp, h1, ⟨⟨[], by simp⟩, ⟨[], by simp [h4]⟩, by rw [h3]; exact Nat.le_refl _, fun k b _ hb => ⟨b, hb, rfl⟩⟩, ⟨[], by simp⟩, by rw [h5]; exact hlv, rfl⟩ (unl_le _ _)
      · have := b5 _ (z i o (by simpa using ho))
        simp only [Bool.and_eq_true, Array.all_eq_true', Bool.or_eq_true, Bool.not_eq_true', decide_eq_true_eq] at this
        rcases this.1 e he with h | h
        · rw [hbd] at h; cases h
        · exact h
      · have := b6 _ (z i oi hoi)
        rw [List.all_eq_true] at this
        have := this _ (z j oj hoj)
        simp only [hpi, hpj, hd, Bool.and_self, Bool.not_true, Bool.false_or, Bool.or_eq_true, Bool.not_eq_true'] at this
        rcases this with h | h
        · rw [List.contains_iff_mem.2 ht] at h; cases h
        · exact preds_of' h
      · have htl : t ∉ dstsOf ops l := fun hc => by
          obtain ⟨j, hj, hd⟩ := dsts_mem.1 hc
          exact hno j hj (hrep j (hlm j hj).1) hd
        rw [h7 t htl] at hs
        exact fr.2 t sl hs
      · rw [hrep i hi] at hl; cases hl
      · have hid := anDone_mono (past := []) l (by simpa using hid) (fun k hk => (hlm k hk).2.1)
        rw [← hln]
        exact newPure_mem.2 ⟨hi, hia, by simp, hid⟩
      · have hj : j < ops.size := by
          have := (List.getElem?_eq_some_iff.1 ho).1
          simpa using this
        rw [hrep j hj] at hl; cases hl
    · exact h1.elim
  · exact hden.elim
/-- what is asked of whatever comes behind a piece of code -/
def OnwE (C : Cfg) (B : Nat) (w0 : World) (Γ : FuncId → Con) (Qd : List AV → Prop) (ctx : List (List AV → Prop)) (ρ : List AV) (β : Mp) (s : S) (ds : List Deferred) (K : Ex → S → Tree) (Q : Exit → Act → World → Prop) : Prop :=
  ∀ e, Onw C B w0 Γ Qd ctx ρ β s ds (K e) (fun a w => Q e.to a w)
theorem OnwE.step {K : Ex → S → Tree} {Q : Exit → Act → World → Prop} {ds : List Deferred} (hK : OnwE C B w0 Γ Qd ctx ρ β s ds K Q) {ρ1 : List AV} {β1 : Mp} {s1 : S} {ctx1 : List (List AV → Prop)} (hc : ∃ d, ctx1 = ctx ++ d) (hl : Later ρ β s ρ1 β1 s1) : OnwE C B w0 Γ Qd ctx1 ρ1 β1 s1 ds K Q := fun e => (hK e).step hc hl
theorem inst_ks {s h : S} {args : List X} {r fixed : List Nat} (hi : s.inst h s.ks.length args r fixed = true) : ∃ d, h.ks = s.ks ++ d := by
  simp only [S.inst, Bool.and_eq_true, decide_eq_true_eq] at hi
  obtain ⟨⟨⟨⟨⟨⟨⟨⟨⟨i1, i2⟩, i3⟩, i4⟩, i5⟩, i6⟩, i7⟩, i8⟩, i9⟩, i10⟩ := hi
  rw [List.take_length] at i4
  have := List.take_append_drop s.ks.length h.ks
  rw [i4] at this
  exact ⟨_, this.symm⟩
theorem range_get {n k : Nat} (h : k < n) (own : List Nat) : ((List.range n ++ own)[k]?).getD k = k := by
  rw [List.getElem?_append_left (by simpa using h)]
  simp [h]
theorem execC_sound (hC : C.Ok P) (hΓ : ConsOk P C Γ B w0) (hm : P.follows .mixedOrders = true) {callF : CallF} (hF : CallOk P C Γ Qd B w0 callF) (fn : FuncId) : ∀ (c : Code) (ctx : List (List AV → Prop)) (s : S) (ρ : List AV) (β : Mp) (W : Nat → Prop) (a : Act) (w : World) (K : Ex → S → Tree) (Q : Exit → Act → World → Prop),
    ctx.length = s.lvl → Mem C B w0 ρ β W s w → Fr ρ β s a → (execC C callF fn c s K).den Γ Qd ρ ctx → OnwE C B w0 Γ Qd ctx ρ β s a.defers K Q → c.wp P Q a w := by
  intro c
  induction c with
  | skip => intro ctx s ρ β W a w K Q hlv m fr hden hK; simp only [execC] at hden; exact wp_skip (hK .normal ρ β W s a w ctx ⟨[], by simp⟩ hlv m fr (Later.refl _ _ _) rfl hden)
  | ret => intro ctx s ρ β W a w K Q hlv m fr hden hK; simp only [execC] at hden; exact wp_ret (hK .ret ρ β W s a w ctx ⟨[], by simp⟩ hlv m fr (Later.refl _ _ _) rfl hden)
  | exit id => intro ctx s ρ β W a w K Q hlv m fr hden hK; simp only [execC] at hden; exact wp_exit (hK (.exit id) ρ β W s a w ctx ⟨[], by simp⟩ hlv m fr (Later.refl _ _ _) rfl hden)
  | region id ops draw =>
    intro ctx s ρ β W a w K Q hlv m fr hden hK
    simp only [execC, S.tidy_eq] at hden
    cases draw with
    | false =>
      simp only [Bool.false_eq_true, if_false] at hden
      exact wp_region_list (execOps_sound hC hΓ hF _ ctx s ρ β W a w _ hlv m fr hden (hK .normal))
    | true =>
      simp only [if_true] at hden
      have hfl : (floatT C callF id ops (fun s => K .normal s) s).den Γ Qd ρ ctx → (Code.region id ops true).wp P Q a w := fun h => by
        exact region_float hC hΓ hm hF hlv m fr h (hK .normal)
      generalize (if (headRun C ops ops.toList s).isSome = true then ops.toList.length else headN C ops.toList) = n at hden
      split at hden
      · rename_i hlk
        simp only [Bool.and_eq_true] at hlk
        exact region_looks hC hΓ hm hF _ hlv m fr hlk.2 hden (hK .normal)
      split at hden
      · exact hfl hden
      split at hden
      · rename_i ht
        split at hden
        · rename_i L hL
          split at hden
          · rename_i hsc
            simp only [Bool.and_eq_true] at hsc
            split at hden
            · rename_i hob
              exact region_sound hC hΓ hm hF _ hlv m fr ht hsc.1 hL hsc.2 hob hden (hK .normal)
            · exact hfl hden
          · exact hfl hden
        · exact hfl hden
      · exact hfl hden
  | seq x y hx hy =>
    intro ctx s ρ β W a w K Q hlv m fr hden hK
    simp only [execC] at hden
    refine wp_seq (hx ctx s ρ β W a w _ _ hlv m fr hden fun e => ?_)
    intro ρ' β' W' s' a' w' ctx' hc hlv' m' fr' hl' hd' hden'
    cases e with
    | normal => exact hy ctx' s' ρ' β' W' a' w' K Q hlv' m' fr' hden' (by rw [hd']; exact hK.step hc hl')
    | exit id => exact hK (.exit id) ρ' β' W' s' a' w' ctx' hc hlv' m' fr' hl' hd' hden'
    | ret => exact hK .ret ρ' β' W' s' a' w' ctx' hc hlv' m' fr' hl' hd' hden'
  | cond c x y hx hy =>
    intro ctx s ρ β W a w K Q hlv m fr hden hK
    simp only [execC] at hden
    split at hden
    · exact hden.elim
    · rename_i e he
      have hv := bool_rel m.facts (show (X.bl true).B ρ = true from rfl) m.glob (opd_of_fr fr c) he
      split at hden
      · rename_i hh
        have := S.holds_B m.facts (show (X.bl true).B ρ = true from rfl) hh
        rw [this] at hv
        exact wp_cond_true hv (hx ctx s ρ β W a w K Q hlv m fr hden hK)
      · split at hden
        · rename_i hh
          have := S.holds_B m.facts (show (X.bl true).B ρ = true from rfl) hh
          rw [xnot] at this
          have : e.B ρ = false := by simpa using this
          rw [this] at hv
          exact wp_cond_false hv (hy ctx s ρ β W a w K Q hlv m fr hden hK)
        · have hnews := news_sound m fr
          obtain ⟨h1, h2⟩ := assumeAll_den hden hnews
          have m2 := m.with hnews
          refine wp_cond_split hv (fun ht => ?_) (fun hf => ?_)
          · exact hx ctx ((s.with s.news).with [e]) ρ β W a w K Q hlv (m2.with (l := [e]) (fun x hx => by simp at hx; subst hx; exact ht)) ⟨fr.1, fr.2⟩ (h1 ht) (hK.step ⟨[], by simp⟩ (((Later.refl _ _ _).with _).with _))
          · exact hy ctx ((s.with s.news).with [mkNot e]) ρ β W a w K Q hlv (m2.with (l := [mkNot e]) (fun x hx => by simp at hx; subst hx; rw [xnot, hf]; rfl)) ⟨fr.1, fr.2⟩ (h2 hf) (hK.step ⟨[], by simp⟩ (((Later.refl _ _ _).with _).with _))
  | block id c hc =>
    intro ctx s ρ β W a w K Q hlv m fr hden hK
    simp only [execC] at hden
    refine wp_block (hc ctx s ρ β W a w _ _ hlv m fr hden fun e => ?_)
    intro ρ' β' W' s' a' w' ctx' hcx hlv' m' fr' hl' hd' hden'
    cases e with
    | normal => exact hK .normal ρ' β' W' s' a' w' ctx' hcx hlv' m' fr' hl' hd' hden'
    | ret => exact hK .ret ρ' β' W' s' a' w' ctx' hcx hlv' m' fr' hl' hd' hden'
    | exit i =>
      simp only at hden'
      show Exit.inBlock id Q (.exit i) a' w'
      simp only [Exit.inBlock]
      by_cases hi : i = id
      · rw [if_pos hi] at hden' ⊢
        exact hK .normal ρ' β' W' s' a' w' ctx' hcx hlv' m' fr' hl' hd' hden'
      · rw [if_neg hi] at hden' ⊢
        exact hK (.exit i) ρ' β' W' s' a' w' ctx' hcx hlv' m' fr' hl' hd' hden'
  | loop c hc =>
    intro ctx s ρ β W a w K Q hlv m fr hden hK
    simp only [execC] at hden
    split at hden
    · rename_i la hla
      split at hden
      · -- nil lists made lists of our own
        obtain ⟨β1, W1, m1, fr1, l1, e1⟩ := normOwn_sound (ρ := ρ) la.gens m fr
        generalize normOwn s la.gens = s1 at hden m1 fr1 l1 e1
        have hlv1 : ctx.length = s1.lvl := by rw [e1]; exact hlv
        have hK1 := hK.step (ctx1 := ctx) ⟨[], by simp⟩ l1
        split at hden
        · rename_i G init own hG hinit
          split at hden
          · rename_i hinst0
            simp only [Bool.and_eq_true, decide_eq_true_eq] at hinst0
            obtain ⟨hinst, hlen0⟩ := hinst0
            generalize hh : ({ G.s with lvl := s1.lvl + 1 } : S) = h at hden hinst hlen0
            have hhl : h.lvl = s1.lvl + 1 := by rw [← hh]
            have eks : G.s.ks = h.ks := by rw [← hh]
            have ehp : G.s.heap = h.heap := by rw [← hh]
            rw [ehp] at hlen0
            obtain ⟨I, μ, hI, hbody⟩ := hden
            have hn : s1.ks.length = ρ.length := m1.kt.1.symm
            obtain ⟨m2, fr2, hmp⟩ := inst_sound hinst m1 fr1
            have hksd := inst_ks hinst
            rw [hn, List.take_length] at m2 fr2
            rw [hn] at hI hbody
            try rw [eks] at hI
            try rw [eks] at hbody
            -- the loop's relation
            refine wp_loop_ghost (fun k a' w' => ∃ vs βh Wh, μ vs = k ∧ I vs ∧ KT (h.ks.drop ρ.length) vs ∧ Mem C B w0 (ρ ++ vs) βh Wh h w' ∧ Fr (ρ ++ vs) βh h a' ∧ (∀ k b, k < s1.heap.length → β1 k = some b → ∃ b', βh k = some b' ∧ b'.v = b.v) ∧ a'.defers = a.defers) (μ (fixL (h.ks.drop ρ.length) (init.map (X.den ρ))))
              ⟨fixL (h.ks.drop ρ.length) (init.map (X.den ρ)), _, W1, rfl, hI, fixL_KT _ _, m2, fr2, fun k b hk hb => ?_, rfl⟩ ?_
            · have := hmp k (by omega)
              rw [range_get hk, hb] at this
              simp only [Option.map_some, Option.map_eq_some_iff] at this
              exact this
            · rintro k a' w' ⟨vs, βh, Wh, rfl, hIv, hkt, mh, frh, hmap, hdf⟩
              have hbd := allAV_elim hbody vs hkt hIv
              have hnews := news_sound mh frh
              have hbd' := assumeAll_den hbd hnews
              have hlen : s1.heap.length ≤ h.heap.length := hlen0
              have hks : ∃ d, h.ks = s1.ks ++ d := hksd
              have hlh : Later ρ β1 s1 (ρ ++ vs) βh h := ⟨⟨vs, rfl⟩, hks, hlen, hmap⟩
              refine hc (ctx ++ [fun ns => I ns ∧ μ ns < μ vs]) (h.with h.news) (ρ ++ vs) βh Wh a' w' _ _ (by rw [with_lvl, hhl, ← hlv1]; simp) (mh.with hnews) ⟨frh.1, frh.2⟩ hbd' fun e => ?_
              intro ρ2 β2 W2 s2 a2 w2 ctx2 hcx hlv2 m3 fr3 hl3 hd3 hden3
              cases e with
              | normal =>
                simp only at hden3
                obtain ⟨β5, W5, m5, fr5, l5, e5⟩ := normOwn_sound (ρ := ρ2) la.gens m3 fr3
                generalize normOwn s2 la.gens = s5 at hden3 m5 fr5 l5 e5
                split at hden3
                · rename_i args own' hargs
                  split at hden3
                  · rename_i hinst2
                    obtain ⟨m4, fr4, hmp4⟩ := inst_sound hinst2 m5 fr5
                    obtain ⟨δ, rfl⟩ := hl3.env
                    have htk : (ρ ++ vs ++ δ).take ρ.length = ρ := by rw [List.append_assoc, List.take_left]
                    rw [htk] at m4 fr4
                    obtain ⟨d, rfl⟩ := hcx
                    simp only [Tree.den] at hden3
                    have hget : (ctx ++ [fun ns => I ns ∧ μ ns < μ vs] ++ d).getD s1.lvl (fun _ => False) = fun ns => I ns ∧ μ ns < μ vs := by
                      rw [← hlv1, List.append_assoc, List.getD_eq_getElem?_getD, List.getElem?_append_right (Nat.le_refl _)]
                      simp
                    rw [hget] at hden3
                    show Exit.then _ _ Exit.normal a2 w2
                    refine ⟨_, hden3.2, _, _, W5, rfl, hden3.1, fixL_KT _ _, m4, fr4, fun k b hk hb => ?_, hd3.trans hdf⟩
                    have h4 := hmp4 k (by omega)
                    rw [range_get hk] at h4
                    obtain ⟨b', hb', hbv⟩ := hmap k b hk hb
                    have hk2 : k < (h.with h.news).heap.length := by simp only [S.with]; omega
                    obtain ⟨b2, hb2, hbv2⟩ := hl3.map k b' hk2 hb'
                    obtain ⟨b6, hb6, hbv6⟩ := l5.map k b2 (Nat.lt_of_lt_of_le hk2 hl3.len) hb2
                    rw [hb6] at h4
                    simp only [Option.map_some, Option.map_eq_some_iff] at h4
                    obtain ⟨b3, hb3, hbv3⟩ := h4
                    exact ⟨b3, hb3, by rw [hbv3, hbv6, hbv2, hbv]⟩
                  · exact hden3.elim
                · exact hden3.elim
              | exit id =>
                exact hK1 (.exit id) ρ2 β2 W2 s2 a2 w2 ctx2 (by obtain ⟨d, hd⟩ := hcx; exact ⟨[fun ns => I ns ∧ μ ns < μ vs] ++ d, by rw [hd, List.append_assoc]⟩) hlv2 m3 fr3 (hlh.trans ⟨hl3.env, hl3.ks, hl3.len, hl3.map⟩) (hd3.trans hdf) hden3
              | ret =>
                exact hK1 .ret ρ2 β2 W2 s2 a2 w2 ctx2 (by obtain ⟨d, hd⟩ := hcx; exact ⟨[fun ns => I ns ∧ μ ns < μ vs] ++ d, by rw [hd, List.append_assoc]⟩) hlv2 m3 fr3 (hlh.trans ⟨hl3.env, hl3.ks, hl3.len, hl3.map⟩) (hd3.trans hdf) hden3
          · exact hden.elim
        · exact hden.elim
      · -- unrolled
        refine wp_loop_rounds la.unr ?_
        generalize la.unr = n at hden
        induction n generalizing ctx s ρ β W a w with
        | zero => simp only [roundsT] at hden; exact (show False from hden).elim
        | succ n ih =>
          simp only [roundsT] at hden
          rw [rounds_succ]
          refine hc ctx s ρ β W a w _ _ hlv m fr hden fun e => ?_
          intro ρ' β' W' s' a' w' ctx' hcx hlv' m' fr' hl' hd' hden'
          cases e with
          | normal => exact ih ctx' s' ρ' β' W' a' w' hlv' m' fr' (by rw [hd']; exact hK.step hcx hl') hden'
          | exit id => exact hK (.exit id) ρ' β' W' s' a' w' ctx' hcx hlv' m' fr' hl' hd' hden'
          | ret => exact hK .ret ρ' β' W' s' a' w' ctx' hcx hlv' m' fr' hl' hd' hden'
    · split at hden
      · refine wp_loop_rounds C.conc ?_
        generalize C.conc = n at hden
        induction n generalizing ctx s ρ β W a w with
        | zero => simp only [roundsT] at hden; exact (show False from hden).elim
        | succ n ih =>
          simp only [roundsT] at hden
          rw [rounds_succ]
          refine hc ctx s ρ β W a w _ _ hlv m fr hden fun e => ?_
          intro ρ' β' W' s' a' w' ctx' hcx hlv' m' fr' hl' hd' hden'
          cases e with
          | normal => exact ih ctx' s' ρ' β' W' a' w' hlv' m' fr' (by rw [hd']; exact hK.step hcx hl') hden'
          | exit id => exact hK (.exit id) ρ' β' W' s' a' w' ctx' hcx hlv' m' fr' hl' hd' hden'
          | ret => exact hK .ret ρ' β' W' s' a' w' ctx' hcx hlv' m' fr' hl' hd' hden'
      · exact hden.elim
  | _ => intro ctx s ρ β W a w K Q hlv m fr hden hK; simp only [execC] at hden; exact (show False from hden).elim
end
end
end Go.Proofs.Ytpbpmabnmakdoaa.Vc
/- The symbolic executor: functions. -/
namespace Go.Proofs.Ytpbpmabnmakdoaa.Vc
noncomputable section
open Go Go.RowKit
variable {ρ ρ' : List AV} {β β' : Mp} {W W' : Nat → Prop} {w w' : World} {P : Program} {C : Cfg} {B : Nat} {w0 : World}
variable {Γ : FuncId → Con} {Qd : List AV → Prop}

theorem results_run (hC : C.Ok P) {s : S} {a : Act} (m : Mem C B w0 ρ β W s w) (fr : Fr ρ β s a) : ∀ {l : List ResultVar} {vs : List V1}, resOf C s l = some vs →
    ∃ us : List Value, (l.mapM fun r => match r with
      | .tmp t => pure (a.tmps.getD t Go.undef)
      | .cell x t => do loadVar t (← asAddr (a.tmps.getD x Go.undef)) : Sem (List Value)).run P w = .ok us w ∧ RelL (V1.rel ρ β) vs us
  | [], vs, h => by simp only [resOf] at h; obtain rfl := Option.some.inj h; exact ⟨[], by simp, trivial⟩
  | .tmp t :: l, vs, h => by
    simp only [resOf] at h
    split at h
    · rename_i v m' hv hm
      obtain rfl := Option.some.inj h
      obtain ⟨us, h1, h2⟩ := results_run hC m fr hm
      have ht : s.tmps[t]? = some (some ⟨.bl true, .v v⟩) := by
        cases h3 : s.tmps[t]? with
        | none => simp [h3] at hv
        | some o => simp [h3] at hv; rw [hv]
      refine ⟨a.tmps.getD t Go.undef :: us, ?_, (fr.2 t _ ht).1 rfl, h2⟩
      simp only [List.mapM_cons, Sem.run_bind, Sem.run_pure, Result.andThen_ok, h1]
    · cases h
  | .cell x t :: l, vs, h => by
    simp only [resOf] at h
    split at h
    · rename_i b sz i f d m' hv hd hm
      split at h
      · rename_i cs hl
        simp only [Option.map_eq_some_iff] at h
        obtain ⟨y, hy, rfl⟩ := h
        obtain ⟨us, h1, h2⟩ := results_run hC m fr hm
        have ht : s.tmps[x]? = some (some ⟨.bl true, .v (.sc (.c (.ptr b sz i f)))⟩) := by
          cases h3 : s.tmps[x]? with
          | none => simp [h3] at hv
          | some o => simp [h3] at hv; rw [hv]
        obtain ⟨q, c, hat, hi, he⟩ := (fr.2 x _ ht).1 rfl
        obtain ⟨ws, l1, l2, l3⟩ := loadAt_sound m.facts rfl hl (fun x hx => by cases hx) (fun k e bi hk hb => m.heap k e bi hk hb) hat hi
        obtain ⟨u, h4, h5⟩ := loadVar_run (hC.ty _ _ hd) l1 l2 l3 hy
        refine ⟨u :: us, ?_, h5, h2⟩
        have ha : (asAddr (a.tmps.getD x Go.undef)).run P w = .ok (q.add ((X.I ρ i).toNat * sz + f)) w := by rw [he]; rfl
        simp only [List.mapM_cons, Sem.run_bind, ha, Result.andThen_ok, h4, h1, Sem.run_pure]
      · cases h
    · cases h
theorem tup_eq (us : List Value) : (if h : us.toArray.size = 1 then us.toArray[0] else Value.tuple us.toArray) = tupOf us := by
  match us with
  | [] => rfl
  | [x] => rfl
  | x :: y :: l => rfl
theorem results_sound (hC : C.Ok P) {s : S} {a : Act} (m : Mem C B w0 ρ β W s w) (fr : Fr ρ β s a) {fn : Func} {vs : List V1} (h : resOf C s fn.results.toList = some vs) :
    ∃ us : List Value, (results fn a.tmps).run P w = .ok (tupOf us) w ∧ RelL (V1.rel ρ β) vs us := by
  obtain ⟨us, h1, h2⟩ := results_run hC m fr h
  refine ⟨us, ?_, h2⟩
  unfold results
  have e : (fn.results.mapM fun r => match r with
      | .tmp t => pure (a.tmps.getD t Go.undef)
      | .cell x t => do loadVar t (← asAddr (a.tmps.getD x Go.undef)) : Sem (Array Value)).run P w = .ok us.toArray w := by
    rw [Array.mapM_eq_mapM_toList, ← bind_pure_comp]
    simp only [Sem.run_bind, h1, Result.andThen_ok, Function.comp, Sem.run_pure]
  simp only [Sem.run_bind]
  refine Eq.trans (congrArg (fun r => Result.andThen r _) e) ?_
  simp only [Result.andThen_ok, Sem.run_pure]
  rw [tup_eq]
theorem frameC_get : ∀ (n : Nat) (l : List SV) (t : Nat), t < 8 * n → (TM.all (frameC n l))[t]? = some (slotA l[t]?)
  | 0, l, t, h => by omega
  | n + 1, l, t, h => by
    have e : TM.all (frameC (n + 1) l) = (frame8 l).toL ++ TM.all (frameC n (dropF 8 l)) := rfl
    rw [e]
    by_cases h8 : t < 8
    · rw [List.getElem?_append_left (by rw [C8.len8]; exact h8)]
      have e8 : (frame8 l).toL = [slotA l[0]?, slotA l[1]?, slotA l[2]?, slotA l[3]?, slotA l[4]?, slotA l[5]?, slotA l[6]?, slotA l[7]?] := by
        simp only [frame8, C8.toL, getF_eq]
      rw [e8]
      match t, h8 with
      | 0, _ | 1, _ | 2, _ | 3, _ | 4, _ | 5, _ | 6, _ | 7, _ => rfl
    · rw [List.getElem?_append_right (by rw [C8.len8]; omega), C8.len8, frameC_get n _ (t - 8) (by omega), dropF_eq, List.getElem?_drop]
      rw [show 8 + (t - 8) = t by omega]
theorem frame_get (args : List SV) (n t : Nat) : (frameOf args n)[t]? = if t < n then some (slotA args[t]?) else none := by
  rw [TM.getElem?_eq]
  unfold frameOf TM.toL
  rw [List.getElem?_take]
  show (if t < n then (TM.all (frameC ((n + 7) / 8) args))[t]? else none) = _
  split
  · rw [frameC_get _ _ _ (by omega)]
  · rfl
theorem frame_len (args : List SV) (n : Nat) : (frameOf args n).length = n := by
  rcases Nat.lt_trichotomy (frameOf args n).length n with h | h | h
  · have h1 := TM.get_none (t := frameOf args n) (Nat.le_refl _)
    rw [frame_get, if_pos h] at h1; cases h1
  · exact h
  · obtain ⟨x, hx⟩ := TM.get_of_lt h
    rw [frame_get, if_neg (by omega)] at hx; cases hx
theorem frame_fr {args : List SV} {vals : List Value} (h : RelL (SV.rel ρ β) args vals) {n : Nat} (hn : args.length ≤ n) (s : S) : Fr ρ β { s with tmps := frameOf args n } { tmps := vals.toArray ++ Array.replicate (n - vals.toArray.size) Go.undef, defers := [] } := by
  have hl := h.length
  refine ⟨by show _ = (frameOf args n).length; rw [frame_len]; simp; omega, fun t sl ht => ?_⟩
  have ht : (frameOf args n)[t]? = some (some sl) := ht
  rw [frame_get] at ht
  split at ht
  · by_cases hlt : t < args.length
    · obtain ⟨y, hy, hyr⟩ := h.get t _ (List.getElem?_eq_getElem hlt)
      rw [List.getElem?_eq_getElem hlt] at ht
      have ht := Option.some.inj (Option.some.inj ht)
      subst ht
      have : (vals.toArray ++ Array.replicate (n - vals.toArray.size) Go.undef).getD t Go.undef = y := by
        rw [Array.getD_eq_getD_getElem?, Array.getElem?_append_left (by simp; omega)]
        simp [hy]
      rw [this]
      exact ⟨fun _ => hyr, fun h => by cases h⟩
    · rw [List.getElem?_eq_none (Nat.le_of_not_lt hlt)] at ht
      have ht := Option.some.inj (Option.some.inj ht)
      subst ht
      have : (vals.toArray ++ Array.replicate (n - vals.toArray.size) Go.undef).getD t Go.undef = Go.undef := by
        rw [Array.getD_eq_getD_getElem?, Array.getElem?_append_right (by simp; omega), Array.getElem?_replicate]
        split <;> rfl
      rw [this]
      exact ⟨fun _ => rfl, fun _ => rfl⟩
  · cases ht
theorem Mem.tmps {s : S} (m : Mem C B w0 ρ β W s w) (t : TM) : Mem C B w0 ρ β W { s with tmps := t } w := { toPMem := m.toPMem, all := m.all, top := m.top, facts := m.facts, kt := m.kt }
theorem execF_sound (hC : C.Ok P) (hΓ : ConsOk P C Γ B w0) (hm : P.follows .mixedOrders = true) (hnm : ∀ f fn, C.fn f = some fn → (fn.name == "runtime.NumGoroutine") = false) : ∀ n, CallOk P C Γ Qd B w0 (execF C n)
  | 0 => fun f args s K ρ β W w ctx vals m hr hlv hden => (show False from hden).elim
  | n + 1 => fun f args s K ρ β W w ctx vals m hr hlv hden => by
    simp only [execF] at hden
    split at hden
    · rename_i fn hfn
      split at hden
      · rename_i c hc
        split at hden
        · rename_i hle
          have hf := hC.fn _ _ hfn
          refine ⟨⟨fn, hf, by rw [hc]; rfl, hnm _ _ hfn⟩, fun R hR => ?_⟩
          refine calls_of_wp hf hc ?_
          refine execC_sound hC hΓ hm (execF_sound hC hΓ hm hnm n) f c ctx { s with tmps := frameOf args fn.ntmps } ρ β W { tmps := vals.toArray ++ Array.replicate (fn.ntmps - vals.toArray.size) Go.undef, defers := [] } w _ _ hlv (m.tmps _) (frame_fr hr hle s) hden fun e => ?_
          intro ρ' β' W' s' a' w' ctx' hcx hlv' m' fr' hl' hd' hden'
          have fin : (match resOf C s' fn.results.toList with
              | some vs => if s'.ks.length = s.ks.length then K (retV vs) { s' with tmps := s.tmps } else match s.more (s'.ks.drop s.ks.length) with
                | some s'' => K (retV vs) { s' with tmps := s''.tmps }
                | none => .fail "frame"
              | none => .fail ("results " ++ fn.name)).den Γ Qd ρ' ctx' → a'.defers = [] ∧ ∃ v, (results fn a'.tmps).run P w' = .ok v w' ∧ R (.returned v) w' := by
            intro hden'
            refine ⟨hd', ?_⟩
            split at hden'
            · rename_i vs hvs
              obtain ⟨us, h1, h2⟩ := results_sound hC m' fr' hvs
              split at hden'
              · rename_i hkl
                refine ⟨_, h1, hR _ { s' with tmps := s.tmps } ρ' β' W' w' ctx' _ hcx hlv' (m'.tmps _) ?_ ⟨hl'.env, hl'.ks, hl'.len, hl'.map⟩ (retV_rel h2 fun _ => trivial) hden'⟩
                intro a0 fr0
                obtain ⟨δ, rfl⟩ := hl'.env
                have hδ : δ = [] := by
                  have h3 := m'.kt.1
                  rw [hkl, List.length_append, m.kt.1] at h3
                  exact List.eq_nil_of_length_eq_zero (by omega)
                subst hδ
                have hx : Ext β β' := fun k b hb => by
                  have hlt : k < s.heap.length := by
                    rcases Nat.lt_or_ge k s.heap.length with h | h
                    · exact h
                    · rw [m.top k h] at hb; cases hb
                  obtain ⟨b1, h4⟩ := m.all k hlt
                  obtain ⟨b2, h5, h6⟩ := hl'.map k b1 hlt h4
                  rw [hb] at h4
                  obtain rfl := Option.some.inj h4
                  exact ⟨b2, h5, h6⟩
                exact ⟨fr0.1, fun t sl ht => by rw [List.append_nil]; exact Slot.rel_ext hx (fr0.2 t sl ht)⟩
              · split at hden'
                · rename_i s'' hmore
                  refine ⟨_, h1, hR _ { s' with tmps := s''.tmps } ρ' β' W' w' ctx' _ hcx hlv' (m'.tmps _) ?_ ⟨hl'.env, hl'.ks, hl'.len, hl'.map⟩ (retV_rel h2 fun _ => trivial) hden'⟩
                  intro a0 fr0
                  obtain ⟨δ, rfl⟩ := hl'.env
                  obtain ⟨rfl, sc⟩ := S.more_eq hmore
                  have hok : (idR s.ks.length s.heap.length).Ok ρ β (ρ ++ δ) β' := idR_ok (by rw [m.kt.1]; exact Nat.le_refl _) fun k hk => by
                    obtain ⟨b, hb⟩ := m.all k hk
                    obtain ⟨b', hb', hv⟩ := hl'.map k b hk hb
                    rw [hb, hb', Option.map_some, Option.map_some, hv]
                  exact ⟨fr0.1, fun t sl ht => (Slot.sub_rel hok (sc.tmps t sl ht) _).2 (fr0.2 t sl ht)⟩
                · exact hden'.elim
            · exact hden'.elim
          cases e with
          | normal => exact fin hden'
          | ret => exact fin hden'
          | exit id => exact (show False from hden').elim
        · exact hden.elim
      · exact hden.elim
    · exact hden.elim
end
end Go.Proofs.Ytpbpmabnmakdoaa.Vc
/- The symbolic executor: what its tree asks gives the contract. -/
namespace Go.Proofs.Ytpbpmabnmakdoaa.Vc
noncomputable section
open Go Go.RowKit
variable {ρ ρ' : List AV} {β β' : Mp} {W W' : Nat → Prop} {w w' : World} {P : Program} {C : Cfg} {B : Nat} {w0 : World}
variable {Γ : FuncId → Con} {Qd : List AV → Prop}

/-! what comes in -/
theorem outOf_ks : ∀ (hs : List Sh0) (n k : Nat), (outOf n k hs).2.2 = shKs hs
  | [], _, _ => rfl
  | .int kd :: l, n, k => by simp [outOf, outOf_ks l, shKs, Sh0.ks]
  | .bool :: l, n, k => by simp [outOf, outOf_ks l, shKs, Sh0.ks]
  | .slc sh :: l, n, k => by simp [outOf, outOf_ks l, shKs, Sh0.ks]
  | .mat sh :: l, n, k => by simp [outOf, outOf_ks l, shKs, Sh0.ks]
theorem outsL_ks : ∀ (hs : List Sh) (n k : Nat), (outsL n k hs).2.2 = insKs hs
  | [], _, _ => rfl
  | h :: l, n, k => by simp [outsL, outOf_ks, outsL_ks l, insKs]
theorem inOf_ks : ∀ (hs : List Sh0) (n k : Nat), (inOf n k hs).2.2 = shKs hs
  | [], _, _ => rfl
  | .int kd :: l, n, k => by simp [inOf, inOf_ks l, shKs, Sh0.ks]
  | .bool :: l, n, k => by simp [inOf, inOf_ks l, shKs, Sh0.ks]
  | .slc sh :: l, n, k => by simp [inOf, inOf_ks l, shKs, Sh0.ks]
  | .mat sh :: l, n, k => by simp [inOf, inOf_ks l, shKs, Sh0.ks]
theorem insL_ks : ∀ (hs : List Sh) (n k : Nat), (insL n k hs).2.2 = insKs hs
  | [], _, _ => rfl
  | h :: l, n, k => by simp [insL, inOf_ks, insL_ks l, insKs]
def theirs (e : HE) : HE := { e with own := false }
structure InOk (ρ : List AV) (w : World) (k : Nat) (cs : List Sc) (es : List HE) (ks : List VK) (vs : List Value) (l : List AV) (bs : List BI) : Prop where
  len : l.length = ks.length
  fix : fixL ks l = l
  elen : es.length = bs.length
  own : ∀ b ∈ bs, b.own = noOwn
  oks : ∀ (j : Nat) e b, es[j]? = some e → bs[j]? = some b → ∀ β, EOk ρ β (fun _ => False) w b (theirs e)
  rel : ∀ β, Maps β k bs → RelL (Sc.rel ρ β) cs vs
theorem InOk.cons1 {k : Nat} {cs : List Sc} {es : List HE} {ks : List VK} {vs : List Value} {l : List AV} {bs : List BI} (q : InOk ρ w k cs es ks vs l bs) {c : Sc} {kd : VK} {v : Value} {x : AV} (hx : kd.fix x = x) (hr : ∀ β, c.rel ρ β v) : InOk ρ w k (c :: cs) es (kd :: ks) (v :: vs) (x :: l) bs :=
  ⟨by simp [q.len], by simp [fixL, hx, q.fix], q.elen, q.own, q.oks, fun β hm => ⟨hr β, q.rel β hm⟩⟩
theorem InOk.cons2 {k : Nat} {cs : List Sc} {es : List HE} {ks : List VK} {vs : List Value} {l : List AV} {bs : List BI} (q : InOk ρ w (k + 1) cs es ks vs l bs) {c : Sc} {e : HE} {b : BI} {k1 k2 : VK} {v : Value} {x y : AV} (hx : k1.fix x = x) (hy : k2.fix y = y) (ho : b.own = noOwn) (he : ∀ β, EOk ρ β (fun _ => False) w b (theirs e)) (hr : ∀ β, β k = some b → c.rel ρ β v) :
    InOk ρ w k (c :: cs) (e :: es) (k1 :: k2 :: ks) (v :: vs) (x :: y :: l) (b :: bs) :=
  ⟨by simp [q.len], by simp [fixL, hx, hy, q.fix], by simp [q.elen], fun b' hb => by rcases List.mem_cons.1 hb with rfl | hb; exact ho; exact q.own b' hb, fun j e' b' he' hb' β => by
    cases j with
    | zero => simp at he' hb'; subst he' hb'; exact he β
    | succ j => exact q.oks j e' b' (by simpa using he') (by simpa using hb') β, fun β hm => ⟨hr β (hm 0 b rfl), q.rel β fun j b' hb' => by
      have := hm (j + 1) b' (by simpa using hb')
      rw [← this]; congr 1; omega⟩⟩
theorem inOf_sound : ∀ {hs : List Sh0} {vs : List Value} {l : List AV} (n k : Nat), (∀ h ∈ hs, h.okB = true) → RdL w hs vs l → Piece ρ n l → ∃ bs, InOk ρ w k (inOf n k hs).1 (inOf n k hs).2.1 (inOf n k hs).2.2 vs l bs
  | [], [], l, n, k, _, h, _ => by
    obtain rfl : l = [] := h
    exact ⟨[], rfl, rfl, rfl, fun b hb => (by cases hb), fun j e b he => by simp [inOf] at he, fun _ _ => trivial⟩
  | h0 :: hs, v :: vs, l, n, k, hok, h, hp => by
    obtain ⟨a, b, rfl, h1, h2⟩ := h
    have hok2 : ∀ h ∈ hs, h.okB = true := fun h hh => hok h (List.mem_cons_of_mem _ hh)
    cases h0 with
    | int kd =>
      obtain ⟨z, rfl, rfl⟩ := h1
      obtain ⟨bs, q⟩ := inOf_sound (n + 1) k hok2 h2 hp.right
      refine ⟨bs, q.cons1 rfl fun β => ?_⟩
      show Value.int kd z = Value.int kd _
      have := hp 0 (.i z) rfl
      simp only [X.I, X.den]
      rw [Nat.add_zero] at this
      rw [this]; rfl
    | bool =>
      obtain ⟨p, rfl, rfl⟩ := h1
      obtain ⟨bs, q⟩ := inOf_sound (n + 1) k hok2 h2 hp.right
      refine ⟨bs, q.cons1 rfl fun β => ?_⟩
      show Value.bool p = Value.bool _
      have := hp 0 (.b p) rfl
      simp only [X.B, X.den]
      rw [Nat.add_zero] at this
      rw [this]; rfl
    | slc sh =>
      have hsh : 0 < sh.length := by simpa [Sh0.okB] using hok _ (List.mem_cons_self ..)
      obtain ⟨q0, m, c, f, rfl, hmc, hcm, hq, rfl, hval⟩ := h1
      obtain ⟨bs, q⟩ := inOf_sound (n + 2) (k + 1) hok2 h2 hp.right
      have e1 : ρ.getD n (.i 0) = .a f := hp 0 _ rfl
      have e2 : ρ.getD (n + 1) (.i 0) = .i (m : Int) := hp 1 _ rfl
      have i1 : (X.var (n + 1)).I ρ = m := by simp only [X.I, X.den, e2, AV.int]
      have f1 : ((X.var n).den ρ).fn = f := by simp only [X.den, e1, AV.fn]
      refine ⟨⟨⟨q0, c, sh.length, fun _ => none, fun _ => 0, fun _ => 0⟩, noOwn⟩ :: bs, q.cons2 rfl rfl rfl (fun β _ => ?_) fun β hb => ?_⟩
      · refine ⟨by rw [i1]; omega, hq, rfl, ?_⟩
        by_cases hm0 : m = 0
        · exact .inr (.inl ⟨by rw [i1, hm0]; rfl, rfl⟩)
        · obtain ⟨p, hpq, hpb, _⟩ := hval 0 0 sh[0] (Int.le_refl _) (by omega) (List.getElem?_eq_getElem hsh)
          refine .inr (.inr ⟨p, hpq, ⟨hpb, fun h => (by cases h), fun _ h => h⟩, by rw [i1]; simpa using hmc, fun i f' kk i0 i1' hk => ?_⟩)
          rw [i1] at i1'
          rw [f1]
          obtain ⟨p', hp', _, hc'⟩ := hval i f' kk i0 i1' hk
          obtain rfl := Option.some.inj (hp'.symm.trans hpq)
          exact ⟨hc', fun h => by cases h⟩
      · refine ⟨q0, c, q0, c, ?_, by rw [i1]; simp, by rw [lit_I]; exact Int.le_refl _, by rw [i1]; omega, by rw [i1]; simpa using hmc, hcm, hq, .inr ?_, by rw [lit_I]; simp, by simp, by rw [lit_I]; simp⟩
        · simp only [SB.at, hb]; rfl
        · rw [lit_I]; cases q0 <;> simp [Addr.add]
    | mat sh =>
      obtain ⟨q0, m, c, g, f, rows, caps, rfl, hmc, hcm, hq, rfl, hval⟩ := h1
      obtain ⟨bs, q⟩ := inOf_sound (n + 2) (k + 1) hok2 h2 hp.right
      have e1 : ρ.getD n (.i 0) = .m g f := hp 0 _ rfl
      have e2 : ρ.getD (n + 1) (.i 0) = .i (m : Int) := hp 1 _ rfl
      have i1 : (X.var (n + 1)).I ρ = m := by simp only [X.I, X.den, e2, AV.int]
      have g1 : ((X.var n).den ρ).mlen = g := by simp only [X.den, e1, AV.mlen]
      have f1 : ((X.var n).den ρ).mfn = f := by simp only [X.den, e1, AV.mfn]
      refine ⟨⟨⟨q0, c, 1, rows, caps, fun _ => 0⟩, noOwn⟩ :: bs, q.cons2 rfl rfl rfl (fun β _ => ?_) fun β hb => ?_⟩
      · refine ⟨by rw [i1]; omega, hq, ?_⟩
        by_cases hm0 : m = 0
        · exact .inl (by rw [i1, hm0]; rfl)
        · obtain ⟨p, hpq, hpb, _⟩ := hval 0 (Int.le_refl _) (by omega)
          refine .inr ⟨p, hpq, ⟨hpb, fun h => (by cases h), fun _ h => h⟩, fun i i0 i1' => ?_⟩
          rw [i1] at i1'
          rw [g1, f1]
          obtain ⟨p', hp', _, h3, h4, h5, h6, h7, h8⟩ := hval i i0 i1'
          obtain rfl := Option.some.inj (hp'.symm.trans hpq)
          refine ⟨h3, h4, h5, h6, h7, ?_⟩
          rcases h8 with h8 | ⟨q, a1, a2, a3⟩
          · exact .inl h8
          · exact .inr ⟨q, a1, a2, fun h => h, a3⟩
      · refine ⟨q0, c, q0, c, ?_, by rw [i1]; simp, by rw [lit_I]; exact Int.le_refl _, by rw [i1]; omega, by rw [i1]; simpa using hmc, hcm, hq, .inr ?_, by rw [lit_I]; simp, by simp, by rw [lit_I]; simp⟩
        · simp only [SB.at, hb]; rfl
        · rw [lit_I]; cases q0 <;> simp [Addr.add]
  | [], _ :: _, _, _, _, _, h, _ => h.elim
  | _ :: _, [], _, _, _, _, h, _ => h.elim
theorem insL_sound : ∀ {hs : List Sh} {vs : List Value} {l : List AV} (n k : Nat), (∀ h ∈ hs, ∀ x ∈ h.l, x.okB = true) → RdA w hs vs l → Piece ρ n l →
    ∃ bs, l.length = (insL n k hs).2.2.length ∧ fixL (insL n k hs).2.2 l = l ∧ (insL n k hs).2.1.length = bs.length ∧ (∀ b ∈ bs, b.own = noOwn) ∧
      (∀ (j : Nat) e b, (insL n k hs).2.1[j]? = some e → bs[j]? = some b → ∀ β, EOk ρ β (fun _ => False) w b (theirs e)) ∧ ∀ β, Maps β k bs → RelL (V1.rel ρ β) (insL n k hs).1 vs
  | [], [], l, n, k, _, h, _ => by
    obtain rfl : l = [] := h
    exact ⟨[], rfl, rfl, rfl, fun b hb => (by cases hb), fun j e b he => by simp [insL] at he, fun _ _ => trivial⟩
  | hd :: hs, v :: vs, l, n, k, hok, h, hp => by
    obtain ⟨a, b, rfl, h1, h2⟩ := h
    have hok1 := hok hd (List.mem_cons_self ..)
    have key : ∃ bs us, InOk ρ w k (inOf n k hd.l).1 (inOf n k hd.l).2.1 (inOf n k hd.l).2.2 us a bs ∧ ∀ β, RelL (Sc.rel ρ β) (inOf n k hd.l).1 us → (v1Sh hd.agg (inOf n k hd.l).1).rel ρ β v := by
      unfold RdV at h1
      split at h1
      · rename_i hag
        obtain ⟨us, rfl, hg⟩ := h1
        obtain ⟨bs, q⟩ := inOf_sound n k hok1 hg hp.left
        exact ⟨bs, us, q, fun β hr => by rw [show hd.agg = true from hag]; exact ⟨us, rfl, hr⟩⟩
      · rename_i hag
        obtain ⟨bs, q⟩ := inOf_sound n k hok1 h1 hp.left
        refine ⟨bs, [v], q, fun β hr => ?_⟩
        rw [Bool.eq_false_iff.2 hag]
        cases hc : (inOf n k hd.l).1 with
        | nil => rw [hc] at hr; exact hr.elim
        | cons c cs =>
          rw [hc] at hr
          cases cs with
          | nil => exact hr.1
          | cons _ _ => exact hr.2.elim
    obtain ⟨bs, us, q, hv⟩ := key
    obtain ⟨bs', q1, q2, q3, q4, q5, q6⟩ := insL_sound (n + (inOf n k hd.l).2.2.length) (k + (inOf n k hd.l).2.1.length) (fun h hh => hok h (List.mem_cons_of_mem _ hh)) h2 (by rw [← q.len]; exact hp.right)
    refine ⟨bs ++ bs', by simp [insL, q.len, q1], ?_, by simp only [insL, List.length_append, q3]; rw [q.elen], fun b hb => ?_, fun j e b he hb β => ?_, fun β hm => ⟨hv β (q.rel β hm.left), q6 β (by rw [q.elen]; exact hm.right)⟩⟩
    · simp only [insL]
      rw [fixL_append _ _ _ _ q.len, q.fix, q2]
    · rcases List.mem_append.1 hb with hb | hb
      · exact q.own b hb
      · exact q4 b hb
    · simp only [insL] at he
      rw [List.getElem?_append] at he hb
      rw [q.elen] at he
      split at he
      · rename_i hj
        rw [if_pos hj] at hb
        exact q.oks j e b he hb β
      · rename_i hj
        rw [if_neg hj] at hb
        exact q5 _ e b (by rw [q.elen]; exact he) hb β
  | [], _ :: _, _, _, _, _, h, _ => h.elim
  | _ :: _, [], _, _, _, _, h, _ => h.elim

/-! what goes out -/
structure OutR (β : Mp) (ks os : List Nat) : Prop where
  own : ∀ r ∈ os, ∃ k ∈ ks, ∃ b, β k = some b ∧ b.own r
  nod : ks.Nodup → os.Nodup
theorem OutR.nil (ks : List Nat) : OutR β ks [] := ⟨fun r h => (by cases h), fun _ => List.nodup_nil⟩
theorem OutR.append (hd : ∀ k k' b b' r, β k = some b → β k' = some b' → b.own r → b'.own r → k = k') {k1 k2 o1 o2 : List Nat} (h1 : OutR β k1 o1) (h2 : OutR β k2 o2) : OutR β (k1 ++ k2) (o1 ++ o2) := by
  refine ⟨fun r hr => ?_, fun hn => ?_⟩
  · rcases List.mem_append.1 hr with hr | hr
    · obtain ⟨k, hk, h⟩ := h1.own r hr; exact ⟨k, List.mem_append.2 (.inl hk), h⟩
    · obtain ⟨k, hk, h⟩ := h2.own r hr; exact ⟨k, List.mem_append.2 (.inr hk), h⟩
  · obtain ⟨n1, n2, n3⟩ := List.nodup_append.1 hn
    refine List.nodup_append.2 ⟨h1.nod n1, h2.nod n2, fun r hr r' hr' e => ?_⟩
    subst e
    obtain ⟨k, hk, b, hb, ho⟩ := h1.own r hr
    obtain ⟨k', hk', b', hb', ho'⟩ := h2.own r hr'
    exact n3 k hk k' hk' (hd k k' b b' r hb hb' ho ho')
theorem nodupB_of : ∀ {l : List Nat}, nodupB l = true → l.Nodup
  | [], _ => List.nodup_nil
  | k :: l, h => by
    simp only [nodupB, Bool.and_eq_true, Bool.not_eq_true'] at h
    refine List.nodup_cons.2 ⟨fun hk => ?_, nodupB_of h.2⟩
    have := List.contains_iff_mem.2 hk
    rw [h.1] at this; cases this
section
variable {s : S}
/-- a list of lists of our own, handed over -/
theorem outMat_sound (m : Mem C B w0 ρ β W s w) {sh : List FK} {k : Nat} {len : X} {xs : List X} {ks : List Nat} (ho : (match s.body (.bl true) k with
    | some { own := true, body := .mo sh' kr n, .. } => match s.body (.bl true) kr with
      | some { own := true, body := .rw sh2 m n', .. } => if sh = sh' ∧ sh = sh2 ∧ len = n ∧ n = n' ∧ 0 < sh.length then some ([m, n], [k, kr]) else none
      | _ => none
    | _ => none) = some (xs, ks)) {v : Value} (hv : (Sc.c (.slc (.blk k) 1 (.lit 0) len none)).rel ρ β v) : ∃ os, xs.length = (Sh0.mat sh).ks.length ∧ GvSc B w (.mat sh) v (fixL (Sh0.mat sh).ks (xs.map (X.den ρ))) os ∧ OutR β ks os := by
  have tt : (X.bl true).B ρ = true := rfl
  have hv : (Sc0.slc (.blk k) 1 (.lit 0) len none).rel ρ β v := hv
  obtain ⟨p, c, q, r, hat, rfl, ho0, hl0, hlr, hrm, hpc, hq, hrc, _, hcp⟩ := hv
  simp only [SB.at, Option.map_eq_some_iff] at hat
  obtain ⟨bi, hb, he⟩ := hat
  obtain ⟨rfl, rfl⟩ := Prod.mk.inj he
  have hrc' : r = bi.v.cap := by have := hcp rfl; rw [lit_I] at this; simpa using this
  subst hrc'
  split at ho
  · rename_i sh' kr n eg hk
    split at ho
    · rename_i sh2 mX n' eg2 hkr
      split at ho
      · rename_i hc
        obtain ⟨rfl, rfl, hln, hnn, hpos⟩ := hc
        cases ho
        subst hln hnn
        obtain ⟨hk, hgt⟩ := body_sound m.facts tt hk
        obtain ⟨hkr, hgr⟩ := body_sound m.facts tt hkr
        obtain ⟨br, hbr⟩ := m.all kr (List.getElem?_eq_some_iff.1 hkr).1
        obtain ⟨h0, h00, hsz, hE⟩ := m.heap k _ bi hk hb hgt
        have hR := m.heap kr _ br hkr hbr hgr
        have hlen : ((len.I ρ).toNat : Int) = len.I ρ := Int.toNat_of_nonneg hl0
        have hx : fixL (Sh0.mat sh).ks ([mX, len].map (X.den ρ)) = [.m (mX.den ρ).mlen (mX.den ρ).mfn, .i ((len.I ρ).toNat : Int)] := by
          rw [hlen]
          simp only [Sh0.ks, List.map_cons, List.map_nil, fixL, VK.fix, X.I]
        rw [hx]
        have hkk : k ≠ kr := fun h => by rw [h, hkr] at hk; cases hk
        by_cases hc0 : bi.v.cap = 0
        · refine ⟨[], rfl, ⟨(len.I ρ).toNat, _, _, ⟨⟨q, 0, 1, fun _ => none, fun _ => 0, fun _ => 0⟩, noOwn⟩, zeroBI, [], [], by rw [hc0], by simp only; omega, Nat.zero_le _, fun _ => rfl, rfl, rfl, rfl, fun r h => h.elim, fun r h => h.elim, fun r h => (by cases h), .inl ⟨by omega, rfl, rfl⟩, ⟨fun i a1 a2 => by omega, fun _ i j a1 a2 => by omega⟩⟩, OutR.nil _⟩
        · rcases hE with ⟨_, h2, _⟩ | ⟨pa, hpa, hpl, hcap, hcells⟩
          · exact absurd h2 hc0
          · obtain ⟨a1, a2, a3⟩ := hpl.2.1 rfl
            have hqp : q = bi.v.addr := by
              rcases hq with h | h
              · exact absurd h hc0
              · rw [h, hpa, lit_I]; simp [Addr.add]
            obtain ⟨o2, hin2, hof2, hnd2⟩ : ∃ o2 : List Nat, (∀ (i : Int), 0 ≤ i → i < len.I ρ → br.v.caps i ≠ 0 → ∀ a, br.v.rows i = some a → a.block ∈ o2) ∧ (∀ r ∈ o2, br.own r) ∧ o2.Nodup := by
              refine ⟨(List.range (len.I ρ).toNat).filterMap fun (i : Nat) => if br.v.caps i = 0 then none else (br.v.rows i).map (·.block), fun i i0 i1 hci a ha => ?_, fun r hr => ?_, ?_⟩
              · refine List.mem_filterMap.2 ⟨i.toNat, List.mem_range.2 (by omega), ?_⟩
                rw [Int.toNat_of_nonneg i0, if_neg hci, ha]; rfl
              · obtain ⟨i, hi, hr⟩ := List.mem_filterMap.1 hr
                rw [List.mem_range] at hi
                split at hr
                · cases hr
                · rename_i hci
                  obtain ⟨_, _, _, _, _, c5⟩ := hR.1 (i : Int) (by omega) (by omega) trivial
                  rcases c5 with c5 | c5 | ⟨qa, d1, d2, d3, _⟩
                  · exact absurd c5 hci
                  · cases c5.1
                  · rw [d1] at hr
                    obtain rfl := Option.some.inj hr
                    exact (d3 rfl).2.1
              · refine List.Pairwise.filterMap (R := fun (a b : Nat) => a ≠ b ∧ a < (len.I ρ).toNat ∧ b < (len.I ρ).toNat) _ (fun a a' haa b hb b' hb' => ?_) ?_
                · obtain ⟨hne, ha, ha'⟩ := haa
                  split at hb
                  · cases hb
                  · rename_i hca
                    split at hb'
                    · cases hb'
                    · rename_i hca'
                      intro heq
                      subst heq
                      obtain ⟨_, _, _, _, _, c5⟩ := hR.1 (a : Int) (by omega) (by omega) trivial
                      obtain ⟨_, _, _, _, _, c5'⟩ := hR.1 (a' : Int) (by omega) (by omega) trivial
                      rcases c5 with c5 | c5 | ⟨qa, d1, _, d3, _⟩
                      · exact hca c5
                      · cases c5.1
                      · rcases c5' with c5' | c5' | ⟨qa', d1', _, d3', _⟩
                        · exact hca' c5'
                        · cases c5'.1
                        · rw [d1] at hb
                          rw [d1'] at hb'
                          have e1 : qa.block = _ := Option.some.inj hb
                          have e2 : qa'.block = _ := Option.some.inj hb'
                          refine hR.2 rfl (a : Int) (a' : Int) (by omega) (by omega) trivial (by omega) (by omega) trivial (by omega) hca hca' ?_
                          rw [d1, d1', (d3 rfl).1, (d3' rfl).1, e1, e2]
                · exact List.Pairwise.imp_of_mem (R := fun (a b : Nat) => a ≠ b) (fun ha hb hab => ⟨hab, List.mem_range.1 ha, List.mem_range.1 hb⟩) List.nodup_range
            refine ⟨pa.block :: o2, rfl, ⟨(len.I ρ).toNat, _, _, ⟨bi.v, (· = pa.block)⟩, ⟨br.v, (· ∈ o2)⟩, [pa.block], o2, by rw [hqp], hlr, hrm, hpc, rfl, hsz, rfl, fun r h => List.mem_singleton.2 h, fun r h => h, fun r hr => ?_, .inr ⟨pa, hpa, ⟨hpl.1, fun _ => ⟨a1, rfl, a3⟩, fun h => (by cases h)⟩, fun i i0 i1 => ?_⟩, ⟨fun i i0 i1 _ => ?_, fun _ => hlen.symm ▸ hR.2 rfl⟩⟩, ⟨fun r hr => ?_, fun hn => ?_⟩⟩
            · rcases List.mem_cons.1 hr with rfl | hr
              · exact m.wlo _ (m.own k bi _ hb a2)
              · exact m.wlo _ (m.own kr br _ hbr (hof2 r hr))
            · obtain ⟨b', hb', hc'⟩ := hcells i i0 (by omega)
              obtain rfl := Option.some.inj (hb'.symm.trans hbr)
              exact hc'
            · obtain ⟨c0, c1, c2, c3, c4, c5⟩ := hR.1 i i0 (by omega) trivial
              refine ⟨c0, c1, c2, c3, c4, ?_⟩
              by_cases hci : br.v.caps i = 0
              · exact .inl hci
              · rcases c5 with c5 | c5 | ⟨qa, d1, d2, d3, _, d5⟩
                · exact .inl c5
                · cases c5.1
                · exact .inr (.inr ⟨qa, d1, d2, fun _ => ⟨(d3 rfl).1, hin2 i i0 (by omega) hci qa d1, (d3 rfl).2.2⟩, fun h => (by cases h), d5⟩)
            · rcases List.mem_cons.1 hr with rfl | hr
              · exact ⟨k, by simp, bi, hb, a2⟩
              · exact ⟨kr, by simp, br, hbr, hof2 r hr⟩
            · refine List.nodup_cons.2 ⟨fun h => hkk (m.dist k kr bi br _ hb hbr a2 (hof2 _ h)), hnd2⟩
      · cases ho
    · cases ho
  · cases ho
theorem outOne_sound (m : Mem C B w0 ρ β W s w) {h : Sh0} {c : Sc} {xs : List X} {ks : List Nat} (ho : outOne s h c = some (xs, ks)) {v : Value} (hv : c.rel ρ β v) : ∃ os, xs.length = h.ks.length ∧ GvSc B w h v (fixL h.ks (xs.map (X.den ρ))) os ∧ OutR β ks os := by
  unfold outOne at ho
  split at ho
  · split at ho
    · rename_i hk
      obtain ⟨rfl, rfl⟩ := Prod.mk.inj (Option.some.inj ho)
      subst hk
      exact ⟨[], rfl, ⟨_, hv, rfl, rfl⟩, OutR.nil _⟩
    · cases ho
  · obtain ⟨rfl, rfl⟩ := Prod.mk.inj (Option.some.inj ho)
    exact ⟨[], rfl, ⟨_, hv, rfl, rfl⟩, OutR.nil _⟩
  · obtain ⟨rfl, rfl⟩ := Prod.mk.inj (Option.some.inj ho)
    exact ⟨[], rfl, ⟨none, 0, 0, fun _ _ => 0, hv, Nat.le_refl _, Nat.zero_le _, fun _ => rfl, rfl, .inl ⟨rfl, rfl, rfl⟩⟩, OutR.nil _⟩
  · obtain ⟨rfl, rfl⟩ := Prod.mk.inj (Option.some.inj ho)
    exact ⟨[], rfl, ⟨0, fun _ => 0, fun _ _ _ => 0, ⟨⟨none, 0, 1, fun _ => none, fun _ => 0, fun _ => 0⟩, noOwn⟩, zeroBI, [], [], hv, Nat.le_refl _, Nat.zero_le _, fun _ => rfl, rfl, rfl, rfl, fun r h => h.elim, fun r h => h.elim, fun r h => (by cases h), .inl ⟨rfl, rfl, rfl⟩, ⟨fun i a1 a2 => by simp at a2; omega, fun _ i j a1 a2 => by simp at a2; omega⟩⟩, OutR.nil _⟩
  · rename_i sh k len
    exact outMat_sound m ho hv
  · rename_i sh k sz len
    have hv : (Sc0.slc (.blk k) sz (.lit 0) len none).rel ρ β v := hv
    obtain ⟨p, c, q, r, hat, rfl, ho0, hl0, hlr, hrm, hpc, hq, hrc, _, hcp⟩ := hv
    simp only [SB.at, Option.map_eq_some_iff] at hat
    obtain ⟨bi, hb, he⟩ := hat
    obtain ⟨rfl, rfl⟩ := Prod.mk.inj he
    have hrc' : r = bi.v.cap := by have := hcp rfl; rw [lit_I] at this; simpa using this
    subst hrc'
    have hq' : bi.v.cap = 0 ∨ q = bi.v.addr := by
      rcases hq with hq | hq
      · exact .inl hq
      · refine .inr ?_
        rw [hq, lit_I]
        cases bi.v.addr <;> simp [Addr.add]
    have hqn : q = none → bi.v.cap = 0 := fun h => by
      rcases hq' with h1 | h1
      · exact h1
      · rw [h1] at h; exact hpc h
    split at ho
    · rename_i sh' a n eg hk
      obtain ⟨hk, hgt⟩ := body_sound m.facts (show (X.bl true).B ρ = true from rfl) hk
      split at ho
      · rename_i hc
        obtain ⟨rfl, rfl, rfl⟩ := hc
        obtain ⟨rfl, rfl⟩ := Prod.mk.inj (Option.some.inj ho)
        have hE := (m.heap k _ bi hk hb) hgt
        simp only at hE
        obtain ⟨h0, hn1, hsz, hE⟩ := hE
        have hlen : ((len.I ρ).toNat : Int) = len.I ρ := Int.toNat_of_nonneg hl0
        have hx : fixL (Sh0.slc sh).ks ([a, len].map (X.den ρ)) = [.a (a.den ρ).fn, .i ((len.I ρ).toNat : Int)] := by
          rw [hlen]
          simp only [Sh0.ks, List.map_cons, List.map_nil, fixL, VK.fix, X.I]
        by_cases hc0 : bi.v.cap = 0
        · refine ⟨[], rfl, ⟨q, (len.I ρ).toNat, bi.v.cap, (a.den ρ).fn, rfl, hlr, hrm, hqn, hx, .inl ⟨by omega, hc0, rfl⟩⟩, OutR.nil _⟩
        · rcases hE with ⟨_, h2, _⟩ | ⟨_, h2⟩ | ⟨p, hp, hpl, hcap, hval⟩
          · exact absurd h2 hc0
          · cases h2
          · obtain ⟨hp1, hp2, hp3⟩ := hpl
            obtain ⟨a1, a2, a3⟩ := hp2 rfl
            have hqp : q = some ⟨p.block, 0, none⟩ := by
              rcases hq' with h | h
              · exact absurd h hc0
              · rw [h, hp, ← a1]
            refine ⟨[p.block], rfl, ⟨q, (len.I ρ).toNat, bi.v.cap, (a.den ρ).fn, rfl, hlr, hrm, hqn, hx, .inr ⟨p.block, hqp, (m.wlo _ (m.own k bi _ hb a2)).1, hp1, rfl, fun j hj => a3 j (by rw [hsz]; exact hj), fun i f' kk i0 i1 hk => ?_⟩⟩, ⟨fun r hr => ?_, fun _ => by simp⟩⟩
            · have := hval i f' kk i0 (by rw [← hlen]; exact i1) hk
              rw [a1, add0] at this
              exact this
            · simp at hr
              subst hr
              exact ⟨k, by simp, bi, hb, a2⟩
      · cases ho
    · cases ho
  · rename_i sh k sz n n'
    have hv : (Sc0.slc (.blk k) sz (.lit 0) (.lit n) (some (.lit n'))).rel ρ β v := hv
    obtain ⟨p, c, q, r, hat, rfl, ho0, hl0, hlr, hrm, hpc, hq, hrc, hcp, _⟩ := hv
    simp only [SB.at, Option.map_eq_some_iff] at hat
    obtain ⟨bi, hb, he⟩ := hat
    obtain ⟨rfl, rfl⟩ := Prod.mk.inj he
    have hrn : (r : Int) = n' := by have := hcp _ rfl; rw [lit_I] at this; exact this
    split at ho
    · rename_i l eg hk
      obtain ⟨hk, hgt⟩ := body_sound m.facts (show (X.bl true).B ρ = true from rfl) hk
      split at ho
      · rename_i hc
        obtain ⟨rfl, rfl, hpos, hn0, hll⟩ := hc
        simp only [Option.map_eq_some_iff] at ho
        obtain ⟨a, ha, ho⟩ := ho
        obtain ⟨rfl, rfl⟩ := Prod.mk.inj ho
        obtain ⟨p, hp, ⟨hp1, hp2, hp3⟩, hval⟩ := (m.heap k _ bi hk hb) hgt
        obtain ⟨a1, a2, a3⟩ := hp2 rfl
        have hnr : n.toNat = r := by omega
        have hx : fixL (Sh0.slc sh).ks ([a, X.lit n].map (X.den ρ)) = [.a (a.den ρ).fn, .i ((((X.lit n).I ρ).toNat : Nat) : Int)] := by
          rw [lit_I, Int.toNat_of_nonneg hn0]
          simp only [Sh0.ks, List.map_cons, List.map_nil, fixL, VK.fix, X.den, AV.int]
        have hln : ((X.lit n).I ρ).toNat = r := by rw [lit_I]; exact hnr
        by_cases hr0 : r = 0
        · refine ⟨[], rfl, ⟨q, ((X.lit n).I ρ).toNat, r, (a.den ρ).fn, rfl, by omega, hrm, fun _ => hr0, hx, .inl ⟨by omega, hr0, rfl⟩⟩, OutR.nil _⟩
        · have hqp : q = some ⟨p.block, 0, none⟩ := by
            rcases hq with h | h
            · exact absurd h hr0
            · rw [h, hp, lit_I, ← a1]; simp [Addr.add]
          obtain ⟨_, hget⟩ := rowsOf_sound (ρ := ρ) (β := β) hpos n.toNat ha (by omega)
          refine ⟨[p.block], rfl, ⟨q, ((X.lit n).I ρ).toNat, r, (a.den ρ).fn, rfl, hlr, hrm, fun h => (by rw [hqp] at h; cases h), hx, .inr ⟨p.block, hqp, (m.wlo _ (m.own k bi _ hb a2)).1, hp1, rfl, fun j hj => ?_, fun i f' kk i0 i1 hkk => ?_⟩⟩, ⟨fun r hr => ?_, fun _ => by simp⟩⟩
          · have hjl : j < l.length := by rw [hll, hnr]; exact hj
            obtain ⟨v, h4, _⟩ := hval j _ (List.getElem?_eq_getElem hjl)
            rw [a1, add0] at h4
            exact ⟨v, h4.1, h4.2 rfl⟩
          · rw [hln] at i1
            have hfl : f' < sh.length := (List.getElem?_eq_some_iff.1 hkk).1
            have hidx : i.toNat * sh.length + f' < l.length := by
              rw [hll, hnr]
              have : i.toNat + 1 ≤ r := by omega
              have := Nat.mul_le_mul_right sh.length this
              rw [Nat.add_mul] at this
              omega
            obtain ⟨v, h4, h5⟩ := hval _ _ (List.getElem?_eq_getElem hidx)
            rw [a1, add0] at h4
            have := hget i.toNat f' _ kk (by omega) hfl (List.getElem?_eq_getElem hidx) hkk v h5
            have hi : ((0 + i.toNat : Nat) : Int) = i := by omega
            rw [hi] at this
            rw [← this]
            exact h4
          · simp at hr
            subst hr
            exact ⟨k, by simp, bi, hb, a2⟩
      · cases ho
    · cases ho
  · cases ho
theorem outOnes_sound (m : Mem C B w0 ρ β W s w) : ∀ {hs : List Sh0} {cs : List Sc} {xs : List X} {ks : List Nat}, outOnes s hs cs = some (xs, ks) → ∀ {vs : List Value}, RelL (Sc.rel ρ β) cs vs → ∃ os, xs.length = (shKs hs).length ∧ GvL B w hs vs (fixL (shKs hs) (xs.map (X.den ρ))) os ∧ OutR β ks os
  | [], [], xs, ks, ho, vs, hr => by
    simp only [outOnes] at ho
    obtain ⟨rfl, rfl⟩ := Prod.mk.inj (Option.some.inj ho)
    cases vs with
    | nil => exact ⟨[], rfl, ⟨rfl, rfl⟩, OutR.nil _⟩
    | cons _ _ => exact hr.elim
  | h :: hs, c :: cs, xs, ks, ho, vs, hr => by
    simp only [outOnes] at ho
    split at ho
    · rename_i x y hx hy
      obtain ⟨x1, x2⟩ := x
      obtain ⟨y1, y2⟩ := y
      obtain ⟨rfl, rfl⟩ := Prod.mk.inj (Option.some.inj ho)
      cases vs with
      | nil => exact hr.elim
      | cons v vs =>
        obtain ⟨o1, l1, g1, r1⟩ := outOne_sound m hx hr.1
        obtain ⟨o2, l2, g2, r2⟩ := outOnes_sound m hy hr.2
        refine ⟨o1 ++ o2, by simp [shKs, l1]; simpa [shKs] using l2, ⟨_, _, o1, o2, ?_, rfl, g1, g2⟩, r1.append m.dist r2⟩
        rw [List.map_append]
        exact fixL_append h.ks (shKs hs) _ _ (by simp [l1])
    · cases ho
  | [], _ :: _, _, _, ho, _, _ => by simp [outOnes] at ho
  | _ :: _, [], _, _, ho, _, _ => by simp [outOnes] at ho
theorem outV_sound (m : Mem C B w0 ρ β W s w) {h : Sh} {c : V1} {xs : List X} {ks : List Nat} (ho : outV s h c = some (xs, ks)) {v : Value} (hv : c.rel ρ β v) : ∃ os, xs.length = (shKs h.l).length ∧ GvV B w h v (fixL (shKs h.l) (xs.map (X.den ρ))) os ∧ OutR β ks os := by
  unfold outV at ho
  split at ho
  · rename_i l
    split at ho
    · rename_i hag
      obtain ⟨vs, rfl, hr⟩ := hv
      obtain ⟨os, a, b, c⟩ := outOnes_sound m ho hr
      refine ⟨os, a, ?_, c⟩
      unfold GvV
      rw [if_pos hag]
      exact ⟨vs, rfl, b⟩
    · cases ho
  · rename_i c
    split at ho
    · cases ho
    · rename_i hag
      split at ho
      · rename_i hl
        obtain ⟨os, a, b, d⟩ := outOnes_sound m ho (vs := [v]) ⟨hv, trivial⟩
        refine ⟨os, a, ?_, d⟩
        unfold GvV
        rw [if_neg hag]
        obtain ⟨x, hx⟩ := List.length_eq_one_iff.1 hl
        exact ⟨x, hx, b⟩
      · cases ho
theorem outVs_sound (m : Mem C B w0 ρ β W s w) : ∀ {hs : List Sh} {cs : List V1} {xs : List X} {ks : List Nat}, outVs s hs cs = some (xs, ks) → ∀ {vs : List Value}, RelL (V1.rel ρ β) cs vs → ∃ os, xs.length = (insKs hs).length ∧ GvA B w hs vs (fixL (insKs hs) (xs.map (X.den ρ))) os ∧ OutR β ks os
  | [], [], xs, ks, ho, vs, hr => by
    simp only [outVs] at ho
    obtain ⟨rfl, rfl⟩ := Prod.mk.inj (Option.some.inj ho)
    cases vs with
    | nil => exact ⟨[], rfl, ⟨rfl, rfl⟩, OutR.nil _⟩
    | cons _ _ => exact hr.elim
  | h :: hs, c :: cs, xs, ks, ho, vs, hr => by
    simp only [outVs] at ho
    split at ho
    · rename_i x y hx hy
      obtain ⟨x1, x2⟩ := x
      obtain ⟨y1, y2⟩ := y
      obtain ⟨rfl, rfl⟩ := Prod.mk.inj (Option.some.inj ho)
      cases vs with
      | nil => exact hr.elim
      | cons v vs =>
        obtain ⟨o1, l1, g1, r1⟩ := outV_sound m hx hr.1
        obtain ⟨o2, l2, g2, r2⟩ := outVs_sound m hy hr.2
        refine ⟨o1 ++ o2, by simp [insKs, l1]; simpa [insKs] using l2, ⟨_, _, o1, o2, ?_, rfl, g1, g2⟩, r1.append m.dist r2⟩
        rw [List.map_append]
        exact fixL_append (shKs h.l) (insKs hs) _ _ (by simp [l1])
    · cases ho
  | [], _ :: _, _, _, ho, _, _ => by simp [outVs] at ho
  | _ :: _, [], _, _, ho, _, _ => by simp [outVs] at ho
theorem outArgs_sound (m : Mem C B w0 ρ β W s w) {sig : List Sh} {v : SV} {xs : List X} (ho : outArgs s sig v = some xs) {u : Value} (hv : v.rel ρ β u) : Gv B w sig u (fixL (insKs sig) (xs.map (X.den ρ))) := by
  unfold outArgs at ho
  split at ho
  · rename_i x
    split at ho
    · rename_i r hr
      split at ho
      · rename_i hn
        obtain rfl := Option.some.inj ho
        obtain ⟨os, _, g, o⟩ := outVs_sound m (xs := r.1) (ks := r.2) hr (vs := [u]) ⟨hv, trivial⟩
        exact ⟨[u], os, rfl, g, o.nod (nodupB_of hn)⟩
      · cases ho
    · cases ho
  · rename_i l
    split at ho
    · cases ho
    · rename_i hl
      split at ho
      · rename_i r hr
        split at ho
        · rename_i hn
          obtain rfl := Option.some.inj ho
          obtain ⟨us, rfl, hrl⟩ := hv
          obtain ⟨os, _, g, o⟩ := outVs_sound m (xs := r.1) (ks := r.2) hr hrl
          refine ⟨us, os, ?_, g, o.nod (nodupB_of hn)⟩
          have := hrl.length
          match us, this with
          | [], _ => rfl
          | [x], h => exact absurd (by simpa using h) hl
          | x :: y :: us, _ => rfl
        · cases ho
      · cases ho
  · cases ho
end
theorem piece_self (l : List AV) : Piece l 0 l := fun i v hv => by rw [Nat.zero_add, List.getD_eq_getElem?_getD, hv]; rfl
theorem map_v_rel {l : List V1} {vs : List Value} (h : RelL (V1.rel ρ β) l vs) : RelL (SV.rel ρ β) (l.map SV.v) vs := by
  induction l generalizing vs with
  | nil => cases vs with
    | nil => trivial
    | cons _ _ => exact h.elim
  | cons c l ih => cases vs with
    | nil => exact h.elim
    | cons v vs => exact ⟨h.1, ih h.2⟩
/-! results as a relation: lists agree as far as they reach -/
def outP : List Sh0 → List AV → List AV → Prop
  | [], l, l' => l = [] ∧ l' = []
  | .mat sh :: hs, x :: n :: l, y :: m :: l' => n = .i m.int ∧ m = .i m.int ∧ x = .m x.mlen x.mfn ∧ y = .m y.mlen y.mfn ∧ (∀ (i : Int), 0 ≤ i → i < m.int → x.mlen i = y.mlen i ∧ ∀ (j : Int) (f : Nat), 0 ≤ j → j < y.mlen i → f < sh.length → x.mfn i j f = y.mfn i j f) ∧ outP hs l l'
  | .int _ :: hs, x :: l, y :: l' => x = .i y.int ∧ y = .i y.int ∧ outP hs l l'
  | .bool :: hs, x :: l, y :: l' => x = .b y.bool ∧ y = .b y.bool ∧ outP hs l l'
  | .slc sh :: hs, x :: n :: l, y :: m :: l' => n = .i m.int ∧ m = .i m.int ∧ x = .a x.fn ∧ y = .a y.fn ∧ (∀ (i : Int) (f : Nat), 0 ≤ i → i < m.int → f < sh.length → x.fn i f = y.fn i f) ∧ outP hs l l'
  | _, _, _ => False
theorem outP_cons {N : Nat} {h : Sh0} {hs : List Sh0} {v : Value} {a b l' : List AV} {os : List Nat} (hg : GvSc N w h v a os) (ho : outP (h :: hs) (a ++ b) l') : ∃ a' b', l' = a' ++ b' ∧ GvSc N w h v a' os ∧ outP hs b b' := by
  cases h with
  | int k =>
    obtain ⟨z, rfl, rfl, rfl⟩ := hg
    cases l' with
    | nil => exact ho.elim
    | cons y l' =>
      obtain ⟨h1, h2, h3⟩ := ho
      refine ⟨[y], l', rfl, ⟨z, rfl, ?_, rfl⟩, h3⟩
      rw [h2, ← h1]
  | bool =>
    obtain ⟨z, rfl, rfl, rfl⟩ := hg
    cases l' with
    | nil => exact ho.elim
    | cons y l' =>
      obtain ⟨h1, h2, h3⟩ := ho
      refine ⟨[y], l', rfl, ⟨z, rfl, ?_, rfl⟩, h3⟩
      rw [h2, ← h1]
  | slc sh =>
    obtain ⟨q, n, c, f, rfl, h1, h2, h3, rfl, h4⟩ := hg
    match l', ho with
    | y :: m :: l', ho =>
      obtain ⟨e1, e2, e3, e4, e5, e6⟩ := ho
      have hm : m = .i (n : Int) := by rw [e2, ← e1]
      refine ⟨[y, m], l', rfl, ⟨q, n, c, y.fn, rfl, h1, h2, h3, by rw [hm, ← e4], ?_⟩, e6⟩
      rcases h4 with h4 | ⟨r, a1, a2, a3, a4, a5, a6⟩
      · exact .inl h4
      · refine .inr ⟨r, a1, a2, a3, a4, a5, fun i f' k i0 i1 hk => ?_⟩
        rw [← e5 i f' i0 (by rw [hm]; exact i1) (List.getElem?_eq_some_iff.1 hk).1]
        exact a6 i f' k i0 i1 hk
    | [_], ho => exact ho.elim
    | [], ho => exact ho.elim
  | mat sh =>
    obtain ⟨n, g, f, bo, br, o1, o2, rfl, h1, h2, h3, rfl, h4, h5, h6, h7, h8, h9, h10⟩ := hg
    match l', ho with
    | y :: m :: l', ho =>
      obtain ⟨e1, e2, e3, e4, e5, e6⟩ := ho
      have hm : m = .i (n : Int) := by rw [e2, ← e1]
      refine ⟨[y, m], l', rfl, ⟨n, y.mlen, y.mfn, bo, br, o1, o2, rfl, h1, h2, h3, by rw [hm, ← e4], h4, h5, h6, h7, h8, h9, ⟨fun i i0 i1 hi => ?_, h10.2⟩⟩, e6⟩
      obtain ⟨q1, q2⟩ := e5 i i0 (by rw [hm]; exact i1)
      obtain ⟨c0, c1, c2, c3, c4, c5⟩ := h10.1 i i0 i1 hi
      have q1' : g i = y.mlen i := q1
      have hy : (AV.m y.mlen y.mfn).mlen i = y.mlen i := rfl
      have hg' : (AV.m g f).mlen i = y.mlen i := q1
      rw [hg'] at c0 c1 c2 c5
      refine ⟨c0, c1, c2, c3, c4, ?_⟩
      rcases c5 with c5 | c5 | ⟨q, d1, d2, d3, d4, d5⟩
      · exact .inl c5
      · exact .inr (.inl c5)
      · refine .inr (.inr ⟨q, d1, d2, d3, d4, fun j f' k j0 j1 hk => ?_⟩)
        have := d5 j f' k j0 j1 hk
        have hq : (AV.m g f).mfn i j f' = (AV.m y.mlen y.mfn).mfn i j f' := q2 j f' j0 j1 (List.getElem?_eq_some_iff.1 hk).1
        rw [hq] at this
        exact this
    | [_], ho => exact ho.elim
    | [], ho => exact ho.elim
theorem outP_list {N : Nat} : ∀ {hs hs' : List Sh0} {vs : List Value} {a b l' : List AV} {os : List Nat}, GvL N w hs vs a os → outP (hs ++ hs') (a ++ b) l' → ∃ a' b', l' = a' ++ b' ∧ GvL N w hs vs a' os ∧ outP hs' b b'
  | [], hs', [], a, b, l', os, hg, ho => by
    obtain ⟨rfl, rfl⟩ := hg
    exact ⟨[], l', rfl, ⟨rfl, rfl⟩, ho⟩
  | h :: hs, hs', v :: vs, a, b, l', os, hg, ho => by
    obtain ⟨a1, a2, o1, o2, rfl, rfl, h1, h2⟩ := hg
    rw [List.append_assoc] at ho
    obtain ⟨a', b', rfl, g1, ho1⟩ := outP_cons h1 ho
    obtain ⟨a'', b'', rfl, g2, ho2⟩ := outP_list h2 ho1
    exact ⟨a' ++ a'', b'', by rw [List.append_assoc], ⟨a', a'', o1, o2, rfl, rfl, g1, g2⟩, ho2⟩
  | [], _, _ :: _, _, _, _, _, hg, _ => hg.elim
  | _ :: _, _, [], _, _, _, _, hg, _ => hg.elim
theorem outP_all {N : Nat} : ∀ {hs : List Sh} {vs : List Value} {a l' : List AV} {os : List Nat}, GvA N w hs vs a os → outP (hs.flatMap (·.l)) a l' → GvA N w hs vs l' os
  | [], [], a, l', os, hg, ho => by
    obtain ⟨rfl, rfl⟩ := hg
    exact ⟨ho.2, rfl⟩
  | h :: hs, v :: vs, a, l', os, hg, ho => by
    obtain ⟨a1, a2, o1, o2, rfl, rfl, h1, h2⟩ := hg
    rw [List.flatMap_cons] at ho
    unfold GvV at h1
    split at h1
    · rename_i hag
      obtain ⟨us, rfl, hl⟩ := h1
      obtain ⟨a', b', rfl, g1, ho1⟩ := outP_list hl ho
      exact ⟨a', b', o1, o2, rfl, rfl, by unfold GvV; rw [if_pos hag]; exact ⟨us, rfl, g1⟩, outP_all h2 ho1⟩
    · rename_i hag
      obtain ⟨x, hx, hl⟩ := h1
      obtain ⟨a', b', rfl, g1, ho1⟩ := outP_list hl ho
      exact ⟨a', b', o1, o2, rfl, rfl, by unfold GvV; rw [if_neg hag]; exact ⟨x, hx, g1⟩, outP_all h2 ho1⟩
  | [], _ :: _, _, _, _, hg, _ => hg.elim
  | _ :: _, [], _, _, _, hg, _ => hg.elim
/-- **what the tree asks gives the contract** -/
theorem exec_soundG {G : World → Prop} (hG : ∀ w w', G w → Below w.heap.size w w' → G w') {globs : List HE} (hgl : ∀ w, G w → ∃ bs : List BI, bs.length = globs.length ∧ (∀ b ∈ bs, b.own = noOwn) ∧ (∀ (j : Nat) e b, globs[j]? = some e → bs[j]? = some b → ∀ ρ β, EOk ρ β (fun _ => False) w b e) ∧ ∀ g k, C.glob g = some k → ∃ b, bs[k]? = some b ∧ b.v.addr = some ⟨g, 0, none⟩) (hC : C.Ok P) (hΓ : ConsG P G C Γ) (hm : P.follows .mixedOrders = true) (hnm : ∀ f fn, C.fn f = some fn → (fn.name == "runtime.NumGoroutine") = false) {sig : CSig} (hok : (sig.ins.all (fun h => h.l.all Sh0.okB)) = true) {fuel : Nat} {f : FuncId} {con : Con}
    (h : ∀ avs, KT (insKs sig.ins) avs → con.pre avs → (exec C globs fuel f sig).den Γ (fun outs => outP (sig.outs.flatMap (·.l)) outs (con.out avs)) avs []) : MeetsG P G con f sig := by
  intro args avs w hGw hrd hpre
  · have hok' : ∀ h ∈ sig.ins, ∀ x ∈ h.l, x.okB = true := by simpa using hok
    obtain ⟨gs, g1, g2, g3, g4⟩ := hgl w hGw
    obtain ⟨bs, b1, b2, b3, b4, b5, b6⟩ := insL_sound (ρ := avs) 0 globs.length hok' hrd (piece_self avs)
    rw [insL_ks] at b1 b2
    have hkt : KT (insKs sig.ins) avs := by rw [← b2]; exact fixL_KT _ _
    have hd := h avs hkt hpre
    unfold exec at hd
    rw [if_pos hok] at hd
    simp only [startS] at hd
    generalize hs0 : ({ tmps := ⟨0, []⟩, heap := globs ++ (insL 0 globs.length sig.ins).2.1.map fun e => ({ e with own := false } : HE), facts := [], ks := (insL 0 globs.length sig.ins).2.2, lvl := 0 } : S) = s0 at hd
    have hlen : s0.heap.length = (gs ++ bs).length := by rw [← hs0]; simp [b3, g1]
    have m : Mem C w.heap.size w avs (app (fun _ => none) 0 (gs ++ bs)) (fun _ => False) s0 w := by
      have hap : ∀ k, app (fun _ => none) 0 (gs ++ bs) k = (gs ++ bs)[k]? := fun k => by simp [app]
      have hno : ∀ (k : Nat) (b : BI) (r : Nat), (gs ++ bs)[k]? = some b → b.own r → False := fun k b r hb ho => by
        rcases List.mem_append.1 (List.mem_of_getElem? hb) with h | h
        · rw [g2 b h] at ho; cases ho
        · rw [b4 b h] at ho; cases ho
      refine ⟨⟨Below.refl _ _, Nat.le_refl _, fun r hr => hr.elim, fun k e b hk hb => ?_, fun k k' b b' r hb _ ho _ => ?_, fun k b r hb ho => ?_, fun g k hg => ?_⟩, fun k hk => ?_, fun k hk => ?_, fun x hx => ?_, ?_⟩
      · rw [hap] at hb
        simp only [S.H] at hk
        rw [← hs0] at hk
        rcases Nat.lt_or_ge k globs.length with hkl | hkl
        · rw [List.getElem?_append_left hkl] at hk
          rw [List.getElem?_append_left (by rw [g1]; exact hkl)] at hb
          exact g3 k e b hk hb _ _
        · rw [List.getElem?_append_right hkl] at hk
          rw [List.getElem?_append_right (by rw [g1]; exact hkl), g1] at hb
          simp only [List.getElem?_map, Option.map_eq_some_iff] at hk
          obtain ⟨e0, he0, rfl⟩ := hk
          exact b5 _ e0 b he0 hb _
      · rw [hap] at hb; exact (hno k b r hb ho).elim
      · rw [hap] at hb; exact (hno k b r hb ho).elim
      · obtain ⟨b, hb, ha⟩ := g4 g k hg
        exact ⟨b, by rw [hap, List.getElem?_append_left (List.getElem?_eq_some_iff.1 hb).1]; exact hb, ha⟩
      · rw [hap]; exact ⟨_, List.getElem?_eq_getElem (by omega)⟩
      · rw [hap]; exact List.getElem?_eq_none (by omega)
      · rw [← hs0] at hx; cases hx
      · rw [← hs0]
        show KT (insL 0 globs.length sig.ins).2.2 avs
        rw [insL_ks]; exact hkt
    have fr : Fr avs (app (fun _ => none) 0 (gs ++ bs)) s0 { tmps := #[], defers := [] } := ⟨by rw [← hs0]; rfl, fun t sl ht => by
      rw [← hs0] at ht
      have h2 : (⟨0, []⟩ : TM)[t]? = some (some sl) := ht
      rw [TM.getElem?_eq] at h2
      cases h2⟩
    have hnews := news_sound m fr
    have hd2 := assumeAll_den hd hnews
    have hr := map_v_rel (b6 (app (fun _ => none) 0 (gs ++ bs)) (by
      have := (app_maps (fun _ => none) 0 (gs ++ bs)).right
      rw [Nat.zero_add, g1] at this
      exact this))
    obtain ⟨_, hcall⟩ := execF_sound (B := w.heap.size) (w0 := w) hC (fun f sig h => ⟨fun args avs w' hb hrd hp => (hΓ f sig h).1 args avs w' (hG w w' hGw hb) hrd hp, (hΓ f sig h).2⟩) hm hnm fuel f _ (s0.with s0.news) _ avs _ _ w [] args (m.with hnews) hr (by rw [← hs0]; rfl) hd2
    refine hcall _ fun sv s' ρ' β' W' w' ctx' v hcx hlv' m' _ hl' hrel hden' => ?_
    refine ⟨v, rfl, m'.below, ?_⟩
    split at hden'
    · rename_i xs hxs
      have := outArgs_sound m' hxs hrel
      simp only [Tree.den] at hden'
      obtain ⟨vs, os, h1, h2, h3⟩ := this
      exact ⟨vs, os, h1, outP_all h2 hden', h3⟩
    · exact hden'.elim
/-- the same without package variables -/
theorem exec_sound (hC : C.Ok P) (hΓ : ConsG P (fun _ => True) C Γ) (hm : P.follows .mixedOrders = true) (hnm : ∀ f fn, C.fn f = some fn → (fn.name == "runtime.NumGoroutine") = false) (hgl : C.globL = []) {sig : CSig} (hok : (sig.ins.all (fun h => h.l.all Sh0.okB)) = true) {fuel : Nat} {f : FuncId} {con : Con}
    (h : ∀ avs, KT (insKs sig.ins) avs → con.pre avs → (exec C [] fuel f sig).den Γ (fun outs => outP (sig.outs.flatMap (·.l)) outs (con.out avs)) avs []) : Meets P con f sig :=
  exec_soundG (G := fun _ => True) (globs := []) (fun _ _ _ _ => trivial) (fun w _ => ⟨[], rfl, fun b hb => by simp at hb, fun j e b hj => by simp at hj, fun g k hg => by simp [Cfg.glob, hgl] at hg⟩) hC hΓ hm hnm hok h
end
end Go.Proofs.Ytpbpmabnmakdoaa.Vc
/- The symbolic executor: what is left to show, in plain words. -/
namespace Go.Proofs.Ytpbpmabnmakdoaa.Vc
noncomputable section
open Go Go.RowKit

/-- a proposition of so many variables, one after the other -/
def Cur : List VK → Type
  | [] => Prop
  | .i :: ks => Int → Cur ks
  | .b :: ks => Bool → Cur ks
  | .a :: ks => (Int → Nat → Int) → Cur ks
  | .m :: ks => (Int → Int) → (Int → Int → Nat → Int) → Cur ks
def CurN : List VK → Type
  | [] => Nat
  | .i :: ks => Int → CurN ks
  | .b :: ks => Bool → CurN ks
  | .a :: ks => (Int → Nat → Int) → CurN ks
  | .m :: ks => (Int → Int) → (Int → Int → Nat → Int) → CurN ks
def Cur.at : (ks : List VK) → Cur ks → List AV → Prop
  | [], p, _ => p
  | .i :: ks, p, v :: l => Cur.at ks (p v.int) l
  | .b :: ks, p, v :: l => Cur.at ks (p v.bool) l
  | .a :: ks, p, v :: l => Cur.at ks (p v.fn) l
  | .m :: ks, p, v :: l => Cur.at ks (p v.mlen v.mfn) l
  | .i :: ks, p, [] => Cur.at ks (p 0) []
  | .b :: ks, p, [] => Cur.at ks (p false) []
  | .a :: ks, p, [] => Cur.at ks (p fun _ _ => 0) []
  | .m :: ks, p, [] => Cur.at ks (p (fun _ => 0) fun _ _ _ => 0) []
def CurN.at : (ks : List VK) → CurN ks → List AV → Nat
  | [], p, _ => p
  | .i :: ks, p, v :: l => CurN.at ks (p v.int) l
  | .b :: ks, p, v :: l => CurN.at ks (p v.bool) l
  | .a :: ks, p, v :: l => CurN.at ks (p v.fn) l
  | .m :: ks, p, v :: l => CurN.at ks (p v.mlen v.mfn) l
  | .i :: ks, p, [] => CurN.at ks (p 0) []
  | .b :: ks, p, [] => CurN.at ks (p false) []
  | .a :: ks, p, [] => CurN.at ks (p fun _ _ => 0) []
  | .m :: ks, p, [] => CurN.at ks (p (fun _ => 0) fun _ _ _ => 0) []
/-- a condition in plain words -/
def X.P (ρ : List AV) : X → Prop
  | .bl true => True
  | .bl false => False
  | .bin .lt x y => (x.den ρ).int < (y.den ρ).int
  | .bin .le x y => (x.den ρ).int ≤ (y.den ρ).int
  | .bin .eq x y => (x.den ρ).int = (y.den ρ).int
  | .bin .and x y => x.P ρ ∧ y.P ρ
  | .bin .or x y => x.P ρ ∨ y.P ρ
  | .not x => ¬ x.P ρ
  | .inr k x => k.min ≤ (x.den ρ).int ∧ (x.den ρ).int ≤ k.max
  | x => (x.den ρ).bool = true
theorem X.P_iff (ρ : List AV) : ∀ x : X, x.P ρ ↔ (x.den ρ).bool = true := by
  intro x
  induction x with
  | bl p => cases p <;> simp [X.P, X.den, AV.bool]
  | bin o x y hx hy => cases o <;> simp [X.P, X.den, Bin.den, AV.bool, hx, hy]
  | not x hx => simp [X.P, X.den, AV.bool, hx]
  | inr k x => simp [X.P, X.den, AV.bool, Vc.inr]
  | _ => simp [X.P]
def guardP (ρ : List AV) (g : X) (p : Prop) : Prop :=
  match g with
  | .bl true => p
  | g => g.P ρ → p
/-- the values are those, one after the other -/
def eqC : List VK → List AV → List AV → Prop → Prop
  | .i :: ks, x :: xs, y :: ys, p => x.int = y.int → eqC ks xs ys p
  | .b :: ks, x :: xs, y :: ys, p => x.bool = y.bool → eqC ks xs ys p
  | .a :: ks, x :: xs, y :: ys, p => x.fn = y.fn → eqC ks xs ys p
  | .m :: ks, x :: xs, y :: ys, p => x.mlen = y.mlen → x.mfn = y.mfn → eqC ks xs ys p
  | _, _, _, p => p
def outQ (ρ : List AV) : List Sh0 → List X → List AV → Prop
  | .int _ :: hs, x :: l, y :: l' => (x.den ρ).int = y.int ∧ outQ ρ hs l l'
  | .bool :: hs, x :: l, y :: l' => (x.P ρ ↔ y.bool = true) ∧ outQ ρ hs l l'
  | .slc sh :: hs, x :: n :: l, y :: m :: l' => (n.den ρ).int = m.int ∧ (∀ (i : Int) (f : Nat), 0 ≤ i → i < m.int → f < sh.length → (x.den ρ).fn i f = y.fn i f) ∧ outQ ρ hs l l'
  | .mat sh :: hs, x :: n :: l, y :: m :: l' => (n.den ρ).int = m.int ∧ (∀ (i : Int), 0 ≤ i → i < m.int → (x.den ρ).mlen i = y.mlen i ∧ ∀ (j : Int) (f : Nat), 0 ≤ j → j < y.mlen i → f < sh.length → (x.den ρ).mfn i j f = y.mfn i j f) ∧ outQ ρ hs l l'
  | [], [], [] => True
  | _, _, _ => False
def Tree.vc (Γ : FuncId → Con) (Q : List AV → List VK → List X → Prop) (ρ : List AV) (ctx : List (List AV → Prop)) : Tree → Prop
  | .fail _ => False
  | .done ks outs => Q ρ ks outs
  | .cond b t e => (b.P ρ → t.vc Γ Q ρ ctx) ∧ (¬ b.P ρ → e.vc Γ Q ρ ctx)
  | .need b t => b.P ρ ∧ (b.P ρ → t.vc Γ Q ρ ctx)
  | .assume b t => b.P ρ → t.vc Γ Q ρ ctx
  | .call g f aks ks args t => guardP ρ g ((Γ f).pre (fixL aks (args.map (X.den ρ)))) ∧
      allAV ks fun outs => eqC ks outs (fixL ks ((Γ f).out (fixL aks (args.map (X.den ρ))))) (t.vc Γ Q (ρ ++ outs) ctx)
  | .loop ks init t => ∃ (I : Cur ks) (μ : CurN ks), I.at ks (fixL ks (init.map (X.den ρ))) ∧
      allAV ks fun vs => I.at ks vs → t.vc Γ Q (ρ ++ vs) (ctx ++ [fun ns => I.at ks ns ∧ μ.at ks ns < μ.at ks vs])
  | .next lvl ks args => (ctx.getD lvl fun _ => False) (fixL ks (args.map (X.den ρ)))
  | .fresh k t => allAV [k] fun l => t.vc Γ Q (ρ ++ l) ctx
  | .both a b => a.vc Γ Q ρ ctx ∧ b.vc Γ Q ρ ctx
def doneQ (ρ : List AV) (outs : List Sh) (ks : List VK) (xs : List X) (l : List AV) : Prop := if ks = insKs outs then outQ ρ (outs.flatMap (·.l)) xs (fixL (insKs outs) l) else False
theorem eqC_self : ∀ (ks : List VK) (l : List AV) {p : Prop}, eqC ks l l p → p
  | [], _, _, h => h
  | .i :: ks, v :: l, _, h => eqC_self ks l (h rfl)
  | .b :: ks, v :: l, _, h => eqC_self ks l (h rfl)
  | .a :: ks, v :: l, _, h => eqC_self ks l (h rfl)
  | .m :: ks, v :: l, _, h => eqC_self ks l (h rfl rfl)
  | .i :: _, [], _, h => h
  | .b :: _, [], _, h => h
  | .a :: _, [], _, h => h
  | .m :: _, [], _, h => h
theorem allAV_mono : ∀ {ks : List VK} {p q : List AV → Prop}, (∀ l, p l → q l) → allAV ks p → allAV ks q
  | [], _, _, h, hp => h _ hp
  | .i :: ks, _, _, h, hp => fun x => allAV_mono (fun l => h _) (hp x)
  | .b :: ks, _, _, h, hp => fun x => allAV_mono (fun l => h _) (hp x)
  | .a :: ks, _, _, h, hp => fun x => allAV_mono (fun l => h _) (hp x)
  | .m :: ks, _, _, h, hp => fun x y => allAV_mono (fun l => h _) (hp x y)
theorem guardP_of {ρ : List AV} {g : X} {p : Prop} (h : guardP ρ g p) : (g.den ρ).bool = true → p := by
  unfold guardP at h
  intro hg
  split at h
  · exact h
  · exact h ((X.P_iff ρ g).2 hg)
theorem vc_den {Γ : FuncId → Con} {Q : List AV → List VK → List X → Prop} {Qd : List AV → Prop} (hQ : ∀ ρ ks outs, Q ρ ks outs → Qd (fixL ks (outs.map (X.den ρ)))) : ∀ (t : Tree) (ρ : List AV) (ctx : List (List AV → Prop)), t.vc Γ Q ρ ctx → t.den Γ Qd ρ ctx
  | .fail _, _, _, h => h
  | .done ks outs, ρ, _, h => hQ ρ ks outs h
  | .cond b t e, ρ, ctx, h => ⟨fun hb => vc_den hQ t ρ ctx (h.1 ((X.P_iff ρ b).2 hb)), fun hb => vc_den hQ e ρ ctx (h.2 fun hp => by
      have := (X.P_iff ρ b).1 hp
      rw [hb] at this; cases this)⟩
  | .need b t, ρ, ctx, h => ⟨(X.P_iff ρ b).1 h.1, vc_den hQ t ρ ctx (h.2 h.1)⟩
  | .assume b t, ρ, ctx, h => fun hb => vc_den hQ t ρ ctx (h ((X.P_iff ρ b).2 hb))
  | .call g f aks ks args t, ρ, ctx, h => ⟨guardP_of h.1, by
      have := allAV_elim h.2 (fixL ks ((Γ f).out (fixL aks (args.map (X.den ρ))))) (fixL_KT _ _)
      exact vc_den hQ t _ ctx (eqC_self _ _ this)⟩
  | .loop ks init t, ρ, ctx, ⟨I, μ, h1, h2⟩ => ⟨I.at ks, μ.at ks, h1, allAV_mono (fun vs h hI => vc_den hQ t _ _ (h hI)) h2⟩
  | .next lvl ks args, ρ, ctx, h => h
  | .fresh k t, ρ, ctx, h => allAV_mono (fun l h => vc_den hQ t _ ctx h) h
  | .both a b, ρ, ctx, h => ⟨vc_den hQ a _ ctx h.1, vc_den hQ b _ ctx h.2⟩
/-- a contract with results of the right kinds -/
def mkCon (sig : CSig) (pre : List AV → Prop) (raw : List AV → List AV) : Con := ⟨pre, fun l => fixL (insKs sig.outs) (raw l)⟩
theorem outQ_P {ρ : List AV} : ∀ {hs : List Sh0} {outs : List X} {l : List AV}, outQ ρ hs outs (fixL (shKs hs) l) → outP hs (fixL (shKs hs) (outs.map (X.den ρ))) (fixL (shKs hs) l)
  | [], [], l, h => by cases l <;> exact ⟨rfl, rfl⟩
  | [], _ :: _, l, h => by cases l <;> exact h.elim
  | .int k :: hs, x :: outs, v :: l, h => ⟨by show AV.i _ = AV.i _; rw [h.1], rfl, outQ_P (hs := hs) h.2⟩
  | .bool :: hs, x :: outs, v :: l, h => ⟨by
      show AV.b _ = AV.b _
      congr 1
      have h1 := h.1
      rw [X.P_iff] at h1
      rw [Bool.eq_iff_iff]; exact h1, rfl, outQ_P (hs := hs) h.2⟩
  | .int k :: hs, x :: outs, [], h => ⟨congrArg AV.i h.1, rfl, outQ_P (hs := hs) (l := []) h.2⟩
  | .bool :: hs, x :: outs, [], h => ⟨by
      show AV.b _ = AV.b _
      congr 1
      have h1 := h.1
      rw [X.P_iff] at h1
      rw [Bool.eq_iff_iff]; exact h1, rfl, outQ_P (hs := hs) (l := []) h.2⟩
  | .slc sh :: hs, x :: n :: outs, v :: m :: l, h => ⟨by show AV.i _ = AV.i _; rw [h.1], rfl, rfl, rfl, h.2.1, outQ_P (hs := hs) h.2.2⟩
  | .slc sh :: hs, x :: n :: outs, [v], h => ⟨congrArg AV.i h.1, rfl, rfl, rfl, h.2.1, outQ_P (hs := hs) (l := []) h.2.2⟩
  | .slc sh :: hs, x :: n :: outs, [], h => ⟨congrArg AV.i h.1, rfl, rfl, rfl, h.2.1, outQ_P (hs := hs) (l := []) h.2.2⟩
  | .int _ :: _, [], l, h | .bool :: _, [], l, h => by cases l <;> (first | done | exact h.elim)
  | .slc _ :: _, [], l, h | .slc _ :: _, [_], l, h => by
    cases l with
    | nil => exact h.elim
    | cons _ l => cases l <;> (first | done | exact h.elim)
  | .mat sh :: hs, x :: n :: outs, v :: m :: l, h => ⟨by show AV.i _ = AV.i _; rw [h.1], rfl, rfl, rfl, h.2.1, outQ_P (hs := hs) h.2.2⟩
  | .mat sh :: hs, x :: n :: outs, [v], h => ⟨congrArg AV.i h.1, rfl, rfl, rfl, h.2.1, outQ_P (hs := hs) (l := []) h.2.2⟩
  | .mat sh :: hs, x :: n :: outs, [], h => ⟨congrArg AV.i h.1, rfl, rfl, rfl, h.2.1, outQ_P (hs := hs) (l := []) h.2.2⟩
  | .mat _ :: _, [], l, h | .mat _ :: _, [_], l, h => by
    cases l with
    | nil => exact h.elim
    | cons _ l => cases l <;> (first | done | exact h.elim)
theorem ks_flat (l : List Sh) : insKs l = shKs (l.flatMap (·.l)) := by
  induction l with
  | nil => rfl
  | cons h l ih =>
    have : insKs (h :: l) = shKs h.l ++ insKs l := by simp [insKs]
    rw [this, ih]; simp [shKs]
theorem allAV_of {p : List AV → Prop} {ks : List VK} (h : allAV ks p) : ∀ l, KT ks l → p l := fun l hk => allAV_elim h l hk
/-- a function that keeps its contract -/
structure PrG (P : Program) (G : World → Prop) where
  f : Nat
  sig : CSig
  con : Con
  ok : MeetsG P G con f sig
  fn : ∃ fn, P.funcs[f]? = some fn ∧ fn.body.isNone = false ∧ (fn.name == "runtime.NumGoroutine") = false
abbrev Pr (P : Program) := PrG P (fun _ => True)
def noCon : Con := ⟨fun _ => False, fun _ => []⟩
def prCon {P : Program} {G : World → Prop} (l : List (PrG P G)) (f : FuncId) : Con := match l.find? fun p => p.f == f with
  | some p => p.con
  | none => noCon
def prSig {P : Program} {G : World → Prop} (l : List (PrG P G)) (f : FuncId) : Option CSig := match l.find? fun p => p.f == f with
  | some p => some p.sig
  | none => none
theorem prOk {P : Program} {G : World → Prop} (l : List (PrG P G)) {C : Cfg} (h : C.con = prSig l) : ConsG P G C (prCon l) := by
  intro f sig hf
  rw [h] at hf
  unfold prSig at hf
  unfold prCon
  split at hf
  · rename_i p hp
    obtain rfl := Option.some.inj hf
    have := List.find?_some hp
    have e : p.f = f := by simpa using this
    subst e
    exact ⟨p.ok, p.fn⟩
  · cases hf
def setA (a : Int → Nat → Int) (i : Int) (f : Nat) (e : Int) : Int → Nat → Int := fun j g => if j = i ∧ g = f then e else a j g
def shA (a : Int → Nat → Int) (i : Int) : Int → Nat → Int := fun j g => a (j + i) g
def appA (a : Int → Nat → Int) (n : Int) (b : Int → Nat → Int) : Int → Nat → Int := fun j g => if j < n then a j g else b (j - n) g
def zA : Int → Nat → Int := fun _ _ => 0
def rowA (m : Int → Int → Nat → Int) (i : Int) : Int → Nat → Int := fun j g => m i j g
def srL (m : Int → Int) (i : Int) (n : Int) : Int → Int := fun j => if j = i then n else m j
def srF (m : Int → Int → Nat → Int) (i : Int) (a : Int → Nat → Int) : Int → Int → Nat → Int := fun j => if j = i then a else m j
def zL : Int → Int := fun _ => 0
def zF : Int → Int → Nat → Int := fun _ _ _ => 0
/-- **what is left to show gives the contract** -/
theorem meets_vcG {P : Program} {C : Cfg} {Γ : FuncId → Con} {G : World → Prop} (hG : ∀ w w', G w → Below w.heap.size w w' → G w') {globs : List HE} (hgl : ∀ w, G w → ∃ bs : List BI, bs.length = globs.length ∧ (∀ b ∈ bs, b.own = noOwn) ∧ (∀ (j : Nat) e b, globs[j]? = some e → bs[j]? = some b → ∀ ρ β, EOk ρ β (fun _ => False) w b e) ∧ ∀ g k, C.glob g = some k → ∃ b, bs[k]? = some b ∧ b.v.addr = some ⟨g, 0, none⟩) (hC : C.Ok P) (hΓ : ConsG P G C Γ) (hm : P.follows .mixedOrders = true) (hnm : ∀ f fn, C.fn f = some fn → (fn.name == "runtime.NumGoroutine") = false) {sig : CSig} (hok : (sig.ins.all (fun h => h.l.all Sh0.okB)) = true) (fuel : Nat) {f : FuncId}
    {pre : List AV → Prop} {raw : List AV → List AV}
    (h : allAV (insKs sig.ins) fun avs => pre avs → (exec C globs fuel f sig).vc Γ (fun ρ ks outs => doneQ ρ sig.outs ks outs (raw avs)) avs []) : MeetsG P G (mkCon sig pre raw) f sig := by
  refine exec_soundG hG hgl hC hΓ hm hnm hok (fuel := fuel) fun avs hk hpre => ?_
  have := allAV_of h avs hk hpre
  refine vc_den (Q := fun ρ ks outs => doneQ ρ sig.outs ks outs (raw avs)) (fun ρ ks outs hq => ?_) _ _ _ this
  unfold doneQ at hq
  split at hq
  · rename_i hks
    subst hks
    show outP _ _ (fixL (insKs sig.outs) (raw avs))
    rw [ks_flat] at hq ⊢
    exact outQ_P hq
  · exact hq.elim
theorem meets_vc {P : Program} {C : Cfg} {Γ : FuncId → Con} (hC : C.Ok P) (hΓ : ConsG P (fun _ => True) C Γ) (hm : P.follows .mixedOrders = true) (hnm : ∀ f fn, C.fn f = some fn → (fn.name == "runtime.NumGoroutine") = false) (hgl : C.globL = []) {sig : CSig} (hok : (sig.ins.all (fun h => h.l.all Sh0.okB)) = true) (fuel : Nat) {f : FuncId}
    {pre : List AV → Prop} {raw : List AV → List AV}
    (h : allAV (insKs sig.ins) fun avs => pre avs → (exec C [] fuel f sig).vc Γ (fun ρ ks outs => doneQ ρ sig.outs ks outs (raw avs)) avs []) : Meets P (mkCon sig pre raw) f sig :=
  meets_vcG (G := fun _ => True) (globs := []) (fun _ _ _ _ => trivial) (fun w _ => ⟨[], rfl, fun b hb => by simp at hb, fun j e b hj => by simp at hj, fun g k hg => by simp [Cfg.glob, hgl] at hg⟩) hC hΓ hm hnm hok fuel h
end
end Go.Proofs.Ytpbpmabnmakdoaa.Vc
/- What a law is handed, as the executor reads it. -/
namespace Go.Proofs.Ytpbpmabnmakdoaa.Vc
noncomputable section
open Go Go.RowKit Go.WideShapes Go.ChangeShapes

def toFK : List Sh0 → Option (List FK)
  | [] => some []
  | .int k :: l => (toFK l).map (.int k :: ·)
  | .bool :: l => (toFK l).map (.bool :: ·)
  | _ => none
def shF (K : TypeId → Option (List Sh0)) (P : Program) : Nat → List Field → Option (List Sh0)
  | _, [] => some []
  | off, f :: fs => match K f.type with
    | some lf => if f.offset = off ∧ P.cellsOf f.type = lf.length then (shF K P (off + lf.length) fs).map (lf ++ ·) else none
    | none => none
/-- what a type's cells are, one for each cell -/
def shP (P : Program) : Nat → TypeId → Option (List Sh0)
  | 0, _ => none
  | d + 1, t => match P.underlying t with
    | some .bool => some [.bool]
    | some (.int k) => some [.int k]
    | some (.struct fs) => match shF (shP P d) P 0 fs.toList with
      | some l => if P.cellsOf t = l.length then some l else none
      | none => none
    | some (.array n e) => match shP P d e with
      | some l => if P.cellsOf e = l.length ∧ P.cellsOf t = n * l.length then some (List.replicate n l).flatten else none
      | none => none
    | some (.slice e) => match shP P d e with
      | some l => match toFK l with
        | some ks => if P.cellsOf e = ks.length ∧ 0 < ks.length then some [.slc ks] else none
        | none => match l with
          | [.slc ks] => if P.cellsOf e = 1 ∧ 0 < ks.length then some [.mat ks] else none
          | _ => none
      | none => none
    | _ => none
/-- the numbers are in range -/
def RngL : List Sh0 → List AV → Prop
  | [], l => l = []
  | .int k :: hs, x :: l => x = .i x.int ∧ k.min ≤ x.int ∧ x.int ≤ k.max ∧ RngL hs l
  | .bool :: hs, x :: l => x = .b x.bool ∧ RngL hs l
  | .slc sh :: hs, x :: n :: l => x = .a x.fn ∧ n = .i n.int ∧ 0 ≤ n.int ∧ n.int ≤ 9223372036854775807 ∧ (∀ (i : Int) (g : Nat) k, 0 ≤ i → i < n.int → sh[g]? = some (.int k) → k.min ≤ x.fn i g ∧ x.fn i g ≤ k.max) ∧ RngL hs l
  | .mat sh :: hs, x :: n :: l => x = .m x.mlen x.mfn ∧ n = .i n.int ∧ 0 ≤ n.int ∧ n.int ≤ 9223372036854775807 ∧ (∀ i : Int, 0 ≤ i → i < n.int → 0 ≤ x.mlen i ∧ x.mlen i ≤ 9223372036854775807 ∧
      ∀ (j : Int) (g : Nat) k, 0 ≤ j → j < x.mlen i → sh[g]? = some (.int k) → k.min ≤ x.mfn i j g ∧ x.mfn i j g ≤ k.max) ∧ RngL hs l
  | _, _ => False
section
variable {w : World}
theorem RdL.app : ∀ {a b : List Sh0} {vs us : List Value} {l m : List AV}, RdL w a vs l → RdL w b us m → RdL w (a ++ b) (vs ++ us) (l ++ m)
  | [], b, [], us, l, m, h, k => by
    obtain rfl : l = [] := h
    exact k
  | h0 :: a, b, v :: vs, us, l, m, h, k => by
    obtain ⟨x, y, rfl, h1, h2⟩ := h
    exact ⟨x, y ++ m, by rw [List.append_assoc], h1, RdL.app h2 k⟩
  | [], _, _ :: _, _, _, _, h, _ => h.elim
  | _ :: _, _, [], _, _, _, h, _ => h.elim
theorem RngL.app : ∀ {a b : List Sh0} {l m : List AV}, RngL a l → RngL b m → RngL (a ++ b) (l ++ m)
  | [], b, l, m, h, k => by
    obtain rfl : l = [] := h
    exact k
  | .int _ :: a, b, x :: l, m, h, k => ⟨h.1, h.2.1, h.2.2.1, RngL.app h.2.2.2 k⟩
  | .bool :: a, b, x :: l, m, h, k => ⟨h.1, RngL.app h.2 k⟩
  | .slc _ :: a, b, x :: n :: l, m, h, k => ⟨h.1, h.2.1, h.2.2.1, h.2.2.2.1, h.2.2.2.2.1, RngL.app h.2.2.2.2.2 k⟩
  | .mat _ :: a, b, x :: n :: l, m, h, k => ⟨h.1, h.2.1, h.2.2.1, h.2.2.2.1, h.2.2.2.2.1, RngL.app h.2.2.2.2.2 k⟩
  | .int _ :: _, _, [], _, h, _ | .bool :: _, _, [], _, h, _ | .slc _ :: _, _, [], _, h, _ | .slc _ :: _, _, [_], _, h, _ | .mat _ :: _, _, [], _, h, _ | .mat _ :: _, _, [_], _, h, _ => h.elim
theorem RdL.len : ∀ {a : List Sh0} {vs : List Value} {l : List AV}, RdL w a vs l → vs.length = a.length
  | [], [], _, _ => rfl
  | _ :: _, _ :: _, _, h => by
    obtain ⟨_, _, _, _, h2⟩ := h
    simp [RdL.len h2]
  | [], _ :: _, _, h => h.elim
  | _ :: _, [], _, h => h.elim
variable {H : Type} {enc : TypeId × Value → H} {P : Program} {base : Nat} {spare : Nat → Bool} {held : Bool}
def Opens (enc : TypeId × Value → H) (P : Program) (w : World) (base : Nat) (spare : Nat → Bool) (held : Bool) (t : TypeId) (l : List Sh0) : Prop :=
  ∀ fuel cs x, DataW.trod enc P w base spare held fuel t cs = some x → ∃ avs, RdL w l cs avs ∧ RngL l avs
theorem drop_split (cs : List Value) (off n : Nat) : cs.drop off = (cs.drop off).take n ++ cs.drop (off + n) := by
  rw [← List.drop_drop, List.take_append_drop]
theorem open_fields {K : TypeId → Option (List Sh0)} (hK : ∀ t l, K t = some l → Opens enc P w base spare held t l) : ∀ (fs : List Field) (off : Nat) (l : List Sh0), shF K P off fs = some l → ∀ cs : List Value, cs.length = off + l.length →
    (∀ f ∈ fs, ∃ fuel x, DataW.trod enc P w base spare held fuel f.type ((cs.drop f.offset).take (P.cellsOf f.type)) = some x) → ∃ avs, RdL w l (cs.drop off) avs ∧ RngL l avs
  | [], off, l, h, cs, hl, _ => by
    simp only [shF] at h
    obtain rfl := Option.some.inj h
    have : cs.drop off = [] := List.drop_eq_nil_of_le (by simp at hl; omega)
    rw [this]
    exact ⟨[], rfl, rfl⟩
  | f :: fs, off, l, h, cs, hl, ht => by
    simp only [shF] at h
    split at h
    · rename_i lf hlf
      split at h
      · rename_i hc
        simp only [Option.map_eq_some_iff] at h
        obtain ⟨l2, hl2, rfl⟩ := h
        obtain ⟨fuel, x, hx⟩ := ht f (by simp)
        obtain ⟨a1, r1, g1⟩ := hK _ _ hlf fuel _ x hx
        obtain ⟨a2, r2, g2⟩ := open_fields hK fs (off + lf.length) l2 hl2 cs (by simp at hl; omega) (fun f hf => ht f (by simp [hf]))
        rw [hc.1, hc.2] at r1
        refine ⟨a1 ++ a2, ?_, g1.app g2⟩
        rw [drop_split cs off lf.length]
        exact r1.app r2
      · cases h
    · cases h
theorem open_items {e : TypeId} {l : List Sh0} (hE : Opens enc P w base spare held e l) (hc : P.cellsOf e = l.length) : ∀ (n i : Nat) (cs : List Value), cs.length = (i + n) * l.length →
    (∀ j, j < i + n → ∃ fuel x, DataW.trod enc P w base spare held fuel e ((cs.drop (j * P.cellsOf e)).take (P.cellsOf e)) = some x) → ∃ avs, RdL w (List.replicate n l).flatten (cs.drop (i * l.length)) avs ∧ RngL (List.replicate n l).flatten avs
  | 0, i, cs, hl, _ => by
    have : cs.drop (i * l.length) = [] := List.drop_eq_nil_of_le (by rw [hl]; simp)
    rw [this]
    exact ⟨[], rfl, rfl⟩
  | n + 1, i, cs, hl, ht => by
    obtain ⟨fuel, x, hx⟩ := ht i (by omega)
    obtain ⟨a1, r1, g1⟩ := hE fuel _ x hx
    obtain ⟨a2, r2, g2⟩ := open_items hE hc n (i + 1) cs (by rw [hl]; congr 1; omega) (fun j hj => ht j (by omega))
    rw [hc] at r1
    rw [List.replicate_succ, List.flatten_cons]
    refine ⟨a1 ++ a2, ?_, g1.app g2⟩
    rw [drop_split cs (i * l.length) l.length]
    have : i * l.length + l.length = (i + 1) * l.length := by rw [Nat.add_mul, Nat.one_mul]
    rw [this]
    exact r1.app r2
def cellZ : Option Value → Int
  | some (.int _ z) => z
  | some (.bool p) => if p then 1 else 0
  | _ => 0
/-- a row of numbers and truth values, cell by cell -/
theorem fk_cells : ∀ {l : List Sh0} {ks : List FK} {vs : List Value} {avs : List AV}, toFK l = some ks → RdL w l vs avs → RngL l avs → ∀ (g : Nat) k, ks[g]? = some k → ∃ v, vs[g]? = some v ∧ v = k.val (cellZ (some v)) ∧ (∀ q, k = .int q → q.min ≤ cellZ (some v) ∧ cellZ (some v) ≤ q.max)
  | [], ks, vs, avs, h, _, _, g, k, hk => by simp [toFK] at h; subst h; simp at hk
  | .int q :: l, ks, v :: vs, avs, h, hr, hg, g, k, hk => by
    simp only [toFK, Option.map_eq_some_iff] at h
    obtain ⟨ks', h1, rfl⟩ := h
    obtain ⟨a, b, rfl, ⟨z, rfl, rfl⟩, h2⟩ := hr
    obtain ⟨_, g1, g2, g3⟩ := hg
    cases g with
    | zero =>
      simp at hk; subst hk
      exact ⟨_, rfl, rfl, fun q' hq => by cases hq; exact ⟨g1, g2⟩⟩
    | succ g => simpa using fk_cells h1 h2 g3 g k (by simpa using hk)
  | .bool :: l, ks, v :: vs, avs, h, hr, hg, g, k, hk => by
    simp only [toFK, Option.map_eq_some_iff] at h
    obtain ⟨ks', h1, rfl⟩ := h
    obtain ⟨a, b, rfl, ⟨z, rfl, rfl⟩, h2⟩ := hr
    obtain ⟨_, g3⟩ := hg
    cases g with
    | zero =>
      simp at hk; subst hk
      exact ⟨_, rfl, by cases z <;> simp [cellZ, FK.val], fun q' hq => by cases hq⟩
    | succ g => simpa using fk_cells h1 h2 g3 g k (by simpa using hk)
  | .slc _ :: _, _, _, _, h, _, _, _, _, _ => by simp [toFK] at h
  | .mat _ :: _, _, _, _, h, _, _, _, _, _ => by simp [toFK] at h
  | .int _ :: _, _, [], _, _, hr, _, _, _, _ => hr.elim
  | .bool :: _, _, [], _, _, hr, _, _, _, _ => hr.elim
theorem open_slice {t e : TypeId} {l : List Sh0} {ks : List FK} (hu : P.underlying t = some (.slice e)) (hE : Opens enc P w base spare held e l) (hk : toFK l = some ks) (hc : P.cellsOf e = ks.length) : Opens enc P w base spare held t [.slc ks] := by
  intro fuel cs x hx
  rcases DataW.trod_slice hu hx with ⟨rfl, _⟩ | ⟨a, len, cap, elems, rest, n, _, rfl, _, _, hlc, hcm, hel, hall, _⟩
  · refine ⟨[.a fun _ _ => 0, .i 0], ⟨_, [], rfl, ⟨none, 0, 0, fun _ _ => 0, rfl, Nat.le_refl _, Nat.zero_le _, fun _ => rfl, rfl, fun i f' k i0 i1 => ?_⟩, rfl⟩, rfl, rfl, Int.le_refl _, by decide, fun i g k i0 i1 => ?_, rfl⟩
    · simp at i1; omega
    · simp only [AV.int] at i1; omega
  · have key : ∀ (i : Int) (g : Nat) k, 0 ≤ i → i < len → ks[g]? = some k → w.cell? (a.add (i.toNat * ks.length + g)) = some (k.val (cellZ (w.cell? (a.add (i.toNat * ks.length + g))))) ∧ ∀ q, k = .int q → q.min ≤ cellZ (w.cell? (a.add (i.toNat * ks.length + g))) ∧ cellZ (w.cell? (a.add (i.toNat * ks.length + g))) ≤ q.max := by
      intro i g k i0 i1 hg
      have h1 := hall i.toNat (by omega)
      rw [List.getElem?_eq_getElem (by omega), Option.bind_eq_some_iff] at h1
      obtain ⟨cs', h2, h3⟩ := h1
      obtain ⟨avs, r, gg⟩ := hE n cs' _ h3
      obtain ⟨v, hv, hv2, hv3⟩ := fk_cells hk r gg g k hg
      obtain ⟨_, h5, h6⟩ := World.cells?_some h2
      have hgl := (List.getElem?_eq_some_iff.1 hg).1
      have h7 := h6 g (by rw [hc]; exact hgl)
      rw [hc, add_add] at h7
      rw [h7, hv]
      exact ⟨by rw [← hv2], hv3⟩
    refine ⟨[.a fun i g => cellZ (w.cell? (a.add (i.toNat * ks.length + g))), .i (len : Int)], ⟨_, [], rfl, ⟨some a, len, cap, _, rfl, hlc, hcm, fun h => (by cases h), rfl, fun i g k i0 i1 hg => ⟨a, rfl, ?_, (key i g k i0 i1 hg).1⟩⟩, rfl⟩, rfl, rfl, Int.natCast_nonneg _, ?_, fun i g k i0 i1 hg => (key i g _ i0 i1 hg).2 k rfl, rfl⟩
    · have := World.block_lt_of_cell? w _ (key i g k i0 i1 hg).1
      rwa [add_block] at this
    · have : cap ≤ 9223372036854775807 := hcm
      simp only [AV.int]; omega
theorem open_mat {t e : TypeId} {ks : List FK} (hu : P.underlying t = some (.slice e)) (hE : Opens enc P w base spare held e [.slc ks]) (hc : P.cellsOf e = 1) (hk0 : 0 < ks.length) : Opens enc P w base spare held t [.mat ks] := by
  intro fuel cs x hx
  rcases DataW.trod_slice hu hx with ⟨rfl, _⟩ | ⟨a, len, cap, elems, rest, n, _, rfl, _, _, hlc, hcm, hel, hall, _⟩
  · refine ⟨[.m (fun _ => 0) fun _ _ _ => 0, .i 0], ⟨_, [], rfl, ⟨none, 0, 0, fun _ => 0, fun _ _ _ => 0, fun _ => none, fun _ => 0, rfl, Nat.le_refl _, Nat.zero_le _, fun _ => rfl, rfl, fun i i0 i1 => ?_⟩, rfl⟩, rfl, rfl, Int.le_refl _, by decide, fun i i0 i1 => ?_, rfl⟩
    · simp at i1; omega
    · simp only [AV.int] at i1; omega
  · have key : ∀ i : Int, ∃ r : Option Addr × Nat × Nat × (Int → Nat → Int), 0 ≤ i → i < len → w.cell? (a.add i.toNat) = some (.slice r.1 r.2.1 r.2.2.1) ∧ r.2.1 ≤ r.2.2.1 ∧ r.2.2.1 ≤ maxLen ∧ (r.1 = none → r.2.2.1 = 0) ∧
        (∀ (j : Int) f' k, 0 ≤ j → j < r.2.1 → ks[f']? = some k → ∃ p, r.1 = some p ∧ p.block < w.heap.size ∧ w.cell? (p.add (j.toNat * ks.length + f')) = some (k.val (r.2.2.2 j f'))) ∧
        (∀ (j : Int) (g : Nat) k, 0 ≤ j → j < r.2.1 → ks[g]? = some (.int k) → k.min ≤ r.2.2.2 j g ∧ r.2.2.2 j g ≤ k.max) := by
      intro i
      by_cases hi : 0 ≤ i ∧ i < len
      · have h1 := hall i.toNat (by omega)
        rw [List.getElem?_eq_getElem (by omega), Option.bind_eq_some_iff] at h1
        obtain ⟨cs', h2, h3⟩ := h1
        obtain ⟨avs, r, gg⟩ := hE n cs' _ h3
        obtain ⟨_, h5, h6⟩ := World.cells?_some h2
        cases cs' with
        | nil => exact r.elim
        | cons v vs =>
          obtain ⟨x1, y1, rfl, ⟨q, m, c, f, rfl, b1, b2, b3, rfl, b4⟩, r2⟩ := r
          obtain ⟨_, _, _, _, g5, _⟩ := gg
          have h7 := h6 0 (by rw [hc]; omega)
          rw [hc, Nat.mul_one, add_add, Nat.add_zero] at h7
          exact ⟨(q, m, c, f), fun _ _ => ⟨h7, b1, b2, b3, b4, g5⟩⟩
      · exact ⟨(none, 0, 0, fun _ _ => 0), fun h0 h1 => absurd ⟨h0, h1⟩ hi⟩
    obtain ⟨R, hR⟩ := Classical.axiomOfChoice key
    refine ⟨[.m (fun i => ((R i).2.1 : Int)) fun i => (R i).2.2.2, .i (len : Int)], ⟨_, [], rfl, ⟨some a, len, cap, _, _, fun i => (R i).1, fun i => (R i).2.2.1, rfl, hlc, hcm, fun h => (by cases h), rfl, fun i i0 i1 => ?_⟩, rfl⟩, rfl, rfl, Int.natCast_nonneg _, ?_, fun i i0 i1 => ?_, rfl⟩
    · obtain ⟨k1, k2, k3, k4, k5, _⟩ := hR i i0 i1
      refine ⟨a, rfl, ?_, Int.natCast_nonneg _, by simpa using k2, k3, k4, by simpa using k1, ?_⟩
      · have := World.block_lt_of_cell? w _ k1
        rwa [add_block] at this
      · cases hq : (R i).1 with
        | none =>
          left
          have := k4 hq
          show ((R i).2.1 : Int) = 0
          omega
        | some p =>
          by_cases h0 : (R i).2.1 = 0
          · left
            show ((R i).2.1 : Int) = 0
            omega
          · right
            obtain ⟨p', hp', hb, _⟩ := k5 0 0 ks[0] (Int.le_refl _) (by omega) (List.getElem?_eq_getElem (by omega))
            refine ⟨p', hp', hb, fun j f' k j0 j1 hk => ?_⟩
            obtain ⟨p2, hp2, _, hc2⟩ := k5 j f' k j0 j1 hk
            obtain rfl := Option.some.inj (hp2.symm.trans hp')
            exact hc2
    · have : cap ≤ 9223372036854775807 := hcm
      simp only [AV.int]; omega
    · obtain ⟨k1, k2, k3, k4, _, k6⟩ := hR i i0 i1
      have : (R i).2.2.1 ≤ 9223372036854775807 := k3
      exact ⟨Int.natCast_nonneg _, by simp only [AV.mlen]; omega, k6⟩
theorem shP_open : ∀ (d : Nat) (t : TypeId) (l : List Sh0), shP P d t = some l → Opens enc P w base spare held t l
  | 0, _, _, h => by simp [shP] at h
  | d + 1, t, l, h => by
    simp only [shP] at h
    split at h
    · rename_i hu
      obtain rfl := Option.some.inj h
      intro fuel cs x hx
      obtain ⟨b, rfl, _⟩ := DataW.trod_bool hu hx
      exact ⟨[.b b], ⟨[.b b], [], rfl, ⟨b, rfl, rfl⟩, rfl⟩, rfl, rfl⟩
    · rename_i k hu
      obtain rfl := Option.some.inj h
      intro fuel cs x hx
      obtain ⟨z, rfl, _, hw⟩ := DataW.trod_int hu hx
      simp only [Lit.wf, Bool.and_eq_true, decide_eq_true_eq] at hw
      exact ⟨[.i z], ⟨[.i z], [], rfl, ⟨z, rfl, rfl⟩, rfl⟩, rfl, hw.1, hw.2, rfl⟩
    · rename_i fs hu
      split at h
      · rename_i l' hl'
        split at h
        · rename_i hc
          obtain rfl := Option.some.inj h
          intro fuel cs x hx
          obtain ⟨xs, n, _, _, hcl, hxl, hall⟩ := DataW.trod_struct hu hx
          have := open_fields (K := shP P d) (fun t l h => shP_open d t l h) fs.toList 0 l' hl' cs (by rw [hcl, hc]; omega) (fun f hf => by
            obtain ⟨i, hi, rfl⟩ := List.getElem_of_mem hf
            have hi' : i < fs.size := by simpa using hi
            have h1 := hall i fs[i] (by simp [hi'])
            rw [List.getElem?_eq_getElem (by omega)] at h1
            exact ⟨n, _, by simpa using h1⟩)
          simpa using this
        · cases h
      · cases h
    · rename_i n e hu
      split at h
      · rename_i l' hl'
        split at h
        · rename_i hc
          obtain rfl := Option.some.inj h
          intro fuel cs x hx
          obtain ⟨xs, m, _, _, hcl, hxl, hall⟩ := DataW.trod_array hu hx
          have := open_items (shP_open d e l' hl') hc.1 n 0 cs (by rw [hcl, hc.2]; simp) (fun j hj => by
            have h1 := hall j (by omega)
            rw [List.getElem?_eq_getElem (by omega)] at h1
            exact ⟨m, _, h1⟩)
          simpa using this
        · cases h
      · cases h
    · rename_i e hu
      split at h
      · rename_i l' hl'
        split at h
        · rename_i ks hks
          split at h
          · rename_i hc
            obtain rfl := Option.some.inj h
            exact open_slice hu (shP_open d e l' hl') hks hc.1
          · cases h
        · split at h
          · rename_i ks
            split at h
            · rename_i hc
              obtain rfl := Option.some.inj h
              exact open_mat hu (shP_open d e _ hl') hc.1 hc.2
            · cases h
          · cases h
      · cases h
    · cases h
def isAggD : TypeDesc → Bool
  | .struct _ | .array .. => true
  | _ => false
/-- the shape of a parameter -/
def shV (P : Program) (t : TypeId) : Option Sh := match shP P 8 t with
  | some l => some ⟨aggT P t, l⟩
  | none => none
theorem open_v {t : TypeId} {h : Sh} (hs : shV P t = some h) {r : Reach} {b0 : Nat} {W : World} {v : Value} (hval : Value.okWide P W r b0 t v) {d : DataW H} {ps : List MemPlace} (hd : DataW.Trod enc P w base spare held t v d ps) : ∃ avs, RdV w h v avs ∧ RngL h.l avs := by
  unfold shV at hs
  split at hs
  · rename_i l hl
    obtain rfl := Option.some.inj hs
    obtain ⟨fuel, hf⟩ := hd
    obtain ⟨avs, h1, h2⟩ := shP_open 8 t l hl fuel _ _ hf
    refine ⟨avs, ?_, h2⟩
    have hn : ∀ u, P.underlying t = some u → isAggD u = false → RdV w ⟨aggT P t, l⟩ v avs := by
      intro u hu hk
      have ha : aggT P t = false := by
        unfold aggT; rw [hu]; cases u <;> simp [isAggD] at hk ⊢
      unfold RdV
      simp only [ha, Bool.false_eq_true, if_false]
      cases u with
      | bool =>
        obtain ⟨b, rfl⟩ := okWide_bool hu hval
        exact h1
      | int k =>
        obtain ⟨b, rfl⟩ := okWide_int hu hval
        exact h1
      | slice e =>
        obtain ⟨a, n, c, rfl⟩ := okWide_slice hu hval
        exact h1
      | struct fs => simp [isAggD] at hk
      | array n e => simp [isAggD] at hk
      | _ => simp [shP, hu] at hl
    have ha : ∀ u, P.underlying t = some u → isAggD u = true → RdV w ⟨aggT P t, l⟩ v avs := by
      intro u hu hk
      have ha : aggT P t = true := by
        unfold aggT; rw [hu]; cases u <;> simp [isAggD] at hk ⊢
      unfold RdV
      simp only [ha, if_true]
      unfold Value.okWide at hval
      rw [hu] at hval
      cases u with
      | struct fs =>
        obtain ⟨cs, rfl, _, _⟩ := hval
        exact ⟨cs.toList, by simp, h1⟩
      | array n e =>
        obtain ⟨cs, rfl, _, _⟩ := hval
        exact ⟨cs.toList, by simp, h1⟩
      | _ => simp [isAggD] at hk
    cases hu : P.underlying t with
    | none => simp [shP, hu] at hl
    | some u =>
      cases hk : isAggD u with
      | true => exact ha u hu hk
      | false => exact hn u hu hk
  · cases hs
/-- the parameters of a law -/
theorem open_args {r : Reach} {b0 : Nat} {W : World} : ∀ {ts : List TypeId} {sh : List Sh} {vs : List Value} {ds : List (DataW H)} {ps : List MemPlace}, mapOpt (shV P) ts = some sh → (∀ (j : Nat) t v, ts[j]? = some t → vs[j]? = some v → Value.okWide P W r b0 t v) →
    DataW.TrodAll enc P w base spare held ts vs ds ps → ∃ avs, RdA w sh vs avs ∧ RngL (sh.flatMap (·.l)) avs
  | [], sh, vs, ds, ps, h, _, ht => by
    simp [mapOpt] at h; subst h
    obtain ⟨rfl, _, _⟩ := trodAll_nil ht
    exact ⟨[], rfl, rfl⟩
  | t :: ts, sh, vs, ds, ps, h, hv, ht => by
    simp only [mapOpt] at h
    split at h
    · rename_i h0 hs h1 h2
      obtain rfl := Option.some.inj h
      obtain ⟨v, vs', d, ds', p, q, rfl, rfl, rfl, t1, t2⟩ := trodAll_cons ht
      obtain ⟨a1, r1, g1⟩ := open_v h1 (hv 0 t v rfl rfl) t1
      obtain ⟨a2, r2, g2⟩ := open_args h2 (fun j t v hj hvj => hv (j + 1) t v (by simpa using hj) (by simpa using hvj)) t2
      exact ⟨a1 ++ a2, ⟨a1, a2, rfl, r1, r2⟩, by rw [List.flatMap_cons]; exact g1.app g2⟩
    · cases h
end
theorem rng_KT : ∀ {hs : List Sh0} {l : List AV}, RngL hs l → KT (shKs hs) l
  | [], l, h => by
    obtain rfl : l = [] := h
    exact ⟨rfl, fun i k h => by simp [shKs] at h⟩
  | .int _ :: hs, x :: l, h => by
    rw [h.1]
    exact KT.append (a := [.i]) (ρ := [.i x.int]) ⟨rfl, fun i k hk => by cases i <;> simp at hk; subst hk; rfl⟩ (rng_KT h.2.2.2)
  | .bool :: hs, x :: l, h => by
    rw [h.1]
    exact KT.append (a := [.b]) (ρ := [.b x.bool]) ⟨rfl, fun i k hk => by cases i <;> simp at hk; subst hk; rfl⟩ (rng_KT h.2)
  | .slc _ :: hs, x :: n :: l, h => by
    rw [h.1, h.2.1]
    exact KT.append (a := [.a, .i]) (ρ := [.a x.fn, .i n.int]) ⟨rfl, fun i k hk => by
      match i, hk with
      | 0, hk => simp at hk; subst hk; rfl
      | 1, hk => simp at hk; subst hk; rfl
      | i + 2, hk => simp at hk⟩ (rng_KT h.2.2.2.2.2)
  | .mat _ :: hs, x :: n :: l, h => by
    rw [h.1, h.2.1]
    exact KT.append (a := [.m, .i]) (ρ := [.m x.mlen x.mfn, .i n.int]) ⟨rfl, fun i k hk => by
      match i, hk with
      | 0, hk => simp at hk; subst hk; rfl
      | 1, hk => simp at hk; subst hk; rfl
      | i + 2, hk => simp at hk⟩ (rng_KT h.2.2.2.2.2)
  | .int _ :: _, [], h | .bool :: _, [], h | .slc _ :: _, [], h | .slc _ :: _, [_], h | .mat _ :: _, [], h | .mat _ :: _, [_], h => h.elim
/-- a law's call -/
theorem law_callsG {P : Program} {G : World → Prop} {sig : CSig} {f : FuncId} {pre : List AV → Prop} {raw : List AV → List AV} (hm : MeetsG P G (mkCon sig pre raw) f sig) (ho : sig.outs = [⟨false, [.bool]⟩])
    (hp : allAV (insKs sig.ins) fun l => RngL (sig.ins.flatMap (·.l)) l → pre l ∧ raw l = [.b true]) {args : Array Value} {avs : List AV} {w : World} (hGw : G w) (hrd : RdA w sig.ins args.toList avs) (hrg : RngL (sig.ins.flatMap (·.l)) avs) :
    Calls P f args w fun e w' => e = .returned (.bool true) ∧ Below w.heap.size w w' := by
  have hk := rng_KT hrg
  rw [← ks_flat] at hk
  obtain ⟨h1, h2⟩ := allAV_elim hp avs hk hrg
  have h := hm args.toList avs w hGw hrd h1
  rw [Array.toArray_toList] at h
  refine h.mono fun e w' he => ?_
  obtain ⟨v, rfl, hb, us, os, rfl, hg, _⟩ := he
  refine ⟨?_, hb⟩
  have e1 : (mkCon sig pre raw).out avs = [.b true] := by
    show fixL (insKs sig.outs) (raw avs) = _
    rw [h2, ho]; rfl
  rw [e1, ho] at hg
  match us, hg with
  | [u], hg =>
    obtain ⟨a, b, o1, o2, hab, _, h3, h4⟩ := hg
    obtain ⟨rfl, _⟩ := h4
    unfold GvV at h3
    simp only [Bool.false_eq_true, if_false] at h3
    obtain ⟨_, _, h5⟩ := h3
    obtain ⟨a1, b1, _, _, rfl, _, ⟨p, rfl, rfl, _⟩, h6⟩ := h5
    obtain ⟨rfl, _⟩ := h6
    simp at hab
    subst hab
    rfl
  | [], hg => exact hg.elim
  | _ :: _ :: _, hg =>
    obtain ⟨_, _, _, _, _, _, _, h4⟩ := hg
    exact h4.elim
theorem law_calls {P : Program} {sig : CSig} {f : FuncId} {pre : List AV → Prop} {raw : List AV → List AV} (hm : Meets P (mkCon sig pre raw) f sig) (ho : sig.outs = [⟨false, [.bool]⟩])
    (hp : allAV (insKs sig.ins) fun l => RngL (sig.ins.flatMap (·.l)) l → pre l ∧ raw l = [.b true]) {args : Array Value} {avs : List AV} {w : World} (hrd : RdA w sig.ins args.toList avs) (hrg : RngL (sig.ins.flatMap (·.l)) avs) :
    Calls P f args w fun e w' => e = .returned (.bool true) ∧ Below w.heap.size w w' := law_callsG hm ho hp trivial hrd hrg
end
end Go.Proofs.Ytpbpmabnmakdoaa.Vc
