/- Looking up in a map that a package lays: that one region by hand, all else by the executor. -/
import Derived.Test.YtpbpmabnmakdoaaVE
namespace Go.Proofs.Ytpbpmabnmakdoaa.Vc
noncomputable section
open Go Go.RowKit
variable {ρ ρ' : List AV} {β β' : Mp} {W W' : Nat → Prop} {w w' : World} {P : Program} {C : Cfg} {B : Nat} {w0 : World}
variable {Γ : FuncId → Con} {Qd : List AV → Prop}
def tabX : List (Int × Int) → X → X
  | [], _ => .lit 0
  | p :: l, e => mkIte (xb .eq e (.lit p.1)) (.lit p.2) (tabX l e)
def hasX : List Int → X → X
  | [], _ => .bl false
  | k :: l, e => xb .or (xb .eq e (.lit k)) (hasX l e)
def tabI : List (Int × Int) → Int → Int
  | [], _ => 0
  | p :: l, x => if x = p.1 then p.2 else tabI l x
def hasI : List Int → Int → Bool
  | [], _ => false
  | k :: l, x => decide (x = k) || hasI l x
theorem tabX_I {e : X} : ∀ l : List (Int × Int), (tabX l e).I ρ = tabI l (e.I ρ)
  | [] => rfl
  | p :: l => by
    unfold tabX tabI
    rw [xite, xeq, tabX_I l, lit_I, lit_I]
    by_cases h : e.I ρ = p.1 <;> simp [h]
theorem hasX_B {e : X} : ∀ l : List Int, (hasX l e).B ρ = hasI l (e.I ρ)
  | [] => rfl
  | k :: l => by
    unfold hasX hasI
    rw [xor_, xeq, hasX_B l, lit_I]
/-- a laid map: its type, its variable, what it holds -/
structure LkMap where
  t : TypeId
  g : Nat
  t1 : List (Int × Int)
  t2 : List (Int × Int)
  ks : List Int
def LookOk (P : Program) (L : LkMap) (B : Nat) (w0 : World) : Prop :=
  ∃ mv : Value, ∀ w', Below B w0 w' → (∀ a : Act, (Instr.loadAt L.t (a.eval (.global L.g))).run P w' = .ok mv w') ∧
    ∀ x : Int, 0 ≤ x → x ≤ 255 → (Instr.lookup L.t mv (.int .u8 x) true).run P w' = .ok (.tuple #[.agg #[.int .u8 (tabI L.t1 x), .int .u8 (tabI L.t2 x)], .bool (hasI L.ks x)]) w'
def lookT (C : Cfg) (callF : CallF) (L : LkMap) (ops : Array Oper) (s : S) (K : S → Tree) : Tree :=
  match ops.toList with
  | o0 :: o1 :: o2 :: o3 :: rest =>
    match o0.op, o0.dst, o0.guard, o2.dst, o3.op, o3.guard with
    | .load t (.global g), some d0, none, some d2, .lookup t' (.tmp a0) (.tmp a2) true, none =>
      if t = L.t ∧ t' = L.t ∧ g = L.g ∧ a0 = d0 ∧ a2 = d2 ∧ o1.dst ≠ some d0 ∧ d2 ≠ d0 ∧ d0 < s.tmps.length then
        execOps C callF ops [o1] (maskT s [d0]) fun s1 => execOps C callF ops [o2] s1 fun s2 =>
          match s2.val C (.bl true) (.tmp d2) with
          | some (.v (.sc (.c (.int .u8 e)))) => needAll [xb .le (.lit 0) e, xb .le e (.lit 255)] (execOps C callF ops rest (s2.put o3.dst { g := .bl true, v := .tup [.agg [.c (.int .u8 (tabX L.t1 e)), .c (.int .u8 (tabX L.t2 e))], .sc (.c (.bool (hasX L.ks e)))] }) K)
          | _ => .fail "look up"
      else .fail "look up"
    | _, _, _, _, _, _ => .fail "look up"
  | _ => .fail "look up"
theorem ite_mono {o : Oper} {c : Prop} [Decidable c] {a : Act} {w : World} {K K' : Act → World → Prop} {Q : Exit → Act → World → Prop} {b : Act} (h : if c then o.wp P a w K Q else K b w) (hk : ∀ a w, K a w → K' a w) : if c then o.wp P a w K' Q else K' b w := by
  split at h
  · rename_i hc; rw [if_pos hc]; exact Oper.wp_mono hk h
  · rename_i hc; rw [if_neg hc]; exact hk _ _ h
/-- what is known behind an operation -/
def Pk (C : Cfg) (B : Nat) (w0 : World) (Γ : FuncId → Con) (Qd : List AV → Prop) (ctx : List (List AV → Prop)) (ρ : List AV) (β : Mp) (s : S) (ds : List Deferred) (K : S → Tree) (a' : Act) (w' : World) : Prop :=
  ∃ ρ' β' W' s' ctx', (∃ d, ctx' = ctx ++ d) ∧ ctx'.length = s'.lvl ∧ Mem C B w0 ρ' β' W' s' w' ∧ Fr ρ' β' s' a' ∧ Later ρ β s ρ' β' s' ∧ a'.defers = ds ∧ (K s').den Γ Qd ρ' ctx'
theorem lookT_sound {ctx : List (List AV → Prop)} {s : S} {a : Act} {ops : Array Oper} (hC : C.Ok P) (hΓ : ConsOk P C Γ B w0) {callF : CallF} (hF : CallOk P C Γ Qd B w0 callF) {L : LkMap} (hL : LookOk P L B w0) {Q : Exit → Act → World → Prop} {id : Nat} {K : S → Tree}
    (hlv : ctx.length = s.lvl) (m : Mem C B w0 ρ β W s w) (fr : Fr ρ β s a) (hden : (lookT C callF L ops s K).den Γ Qd ρ ctx) (hK : Onw C B w0 Γ Qd ctx ρ β s a.defers K (fun a w => Q .normal a w)) : (Code.region id ops false).wp P Q a w := by
  obtain ⟨mv, hL⟩ := hL
  refine wp_region_list ?_
  unfold lookT at hden
  split at hden
  · rename_i o0 o1 o2 o3 rest hops
    split at hden
    · rename_i t g d0 d2 t' a0 a2 h0 hd0 hg0 hd2 h3 hg3
      split at hden
      · rename_i hc
        obtain ⟨rfl, rfl, rfl, rfl, rfl, n1, n2, hlt⟩ := hc
        rw [hops]
        have hlt' : a0 < a.tmps.size := by rw [fr.1]; exact hlt
        have gl := (hL w m.below).1 a
        refine wpList_step fun K0 hK0 => ?_
        have hw : Region.wanted o0 (yielded ops a.tmps) = true := by simp [Region.wanted, hg0]
        rw [hw, if_pos rfl]
        unfold Oper.wp
        rw [runv (o := o0) (a := a) (m := Instr.loadAt L.t (a.eval (.global L.g))) (by simp [execOp, h0]) gl, Oper.upon_value, hd0]
        refine hK0 _ _ ?_
        have mv0 : (a.put (some a0) mv).tmps.getD a0 Go.undef = mv := by rw [getD_put, if_pos ⟨rfl, hlt'⟩]
        have fr0 : Fr ρ β (maskT s [a0]) (a.put (some a0) mv) := by
          refine ⟨?_, fun t sl ht => ?_⟩
          · have e1 : (a.put (some a0) mv).tmps.size = a.tmps.size := by simp [Act.put]
            have e2 : (maskT s [a0]).tmps.length = s.tmps.length := by
              show (s.tmps.mapI _).length = _
              rw [TM.mapI_len]
            rw [e1, e2]; exact fr.1
          · rw [maskT_get, Option.map_eq_some_iff] at ht
            obtain ⟨x, hx, hh⟩ := ht
            split at hh
            · cases hh
            · rename_i hnc
              subst hh
              rw [getD_put, if_neg (fun hc => hnc (by rw [Option.some.inj hc.1]; simp))]
              exact fr.2 t sl hx
        have m0 : Mem C B w0 ρ β W (maskT s [a0]) w := mem_tmps m _
        have l0 : Later ρ β s ρ β (maskT s [a0]) := ⟨⟨[], by simp⟩, ⟨[], by simp [maskT]⟩, Nat.le_refl _, fun k b _ hb => ⟨b, hb, rfl⟩⟩
        refine wpList_step fun K1 hK1 => ?_
        refine ite_mono (frame_if (oper_sound (Q := Q) (K' := Pk C B w0 Γ Qd ctx ρ β (maskT s [a0]) (a.put (some a0) mv).defers _) hC hΓ hF (show ctx.length = (maskT s [a0]).lvl from hlv) m0 fr0 hden (fun ρ' β' W' s' a' w' ctx' p1 p2 p3 p4 p5 p6 p7 => ⟨ρ', β', W', s', ctx', p1, p2, p3, p4, p5, p6, p7⟩))) fun b1 w1 hb1 => hK1 _ _ ?_
        obtain ⟨⟨ρ1, β1, W1, s1, c1, x1, lv1, m1, f1, l1, e1, den1⟩, k1⟩ := hb1
        have mv1 : b1.tmps.getD a0 Go.undef = mv := by rw [k1 a0 n1]; exact mv0
        refine wpList_step fun K2 hK2 => ?_
        refine ite_mono (frame_if (oper_sound (Q := Q) (K' := Pk C B w0 Γ Qd c1 ρ1 β1 s1 b1.defers _) hC hΓ hF lv1 m1 f1 den1 (fun ρ' β' W' s' a' w' ctx' p1 p2 p3 p4 p5 p6 p7 => ⟨ρ', β', W', s', ctx', p1, p2, p3, p4, p5, p6, p7⟩))) fun b2 w2 hb2 => hK2 _ _ ?_
        obtain ⟨⟨ρ2, β2, W2, s2, c2, x2, lv2, m2, f2, l2, e2, den2⟩, k2⟩ := hb2
        have mv2 : b2.tmps.getD a0 Go.undef = mv := by rw [k2 a0 (by rw [hd2]; exact fun h => n2 (Option.some.inj h))]; exact mv1
        simp only at den2
        split at den2
        · rename_i e hv
          obtain ⟨hnd, den3⟩ := needAll_den den2
          have r0 := le_of (hnd (xb .le (.lit 0) e) (by simp))
          have r1 := le_of (hnd (xb .le e (.lit 255)) (by simp))
          rw [lit_I] at r0 r1
          have tt : (X.bl true).B ρ2 = true := rfl
          have hrel : b2.eval (.tmp a2) = .int .u8 (e.I ρ2) := val_rel m2.facts tt m2.glob (opd_of_fr f2 (.tmp a2)) hv
          have hlk := (hL w2 m2.below).2 (e.I ρ2) r0 r1
          refine wpList_step fun K3 hK3 => ?_
          have hw3 : Region.wanted o3 (yielded ops b2.tmps) = true := by simp [Region.wanted, hg3]
          rw [hw3, if_pos rfl]
          unfold Oper.wp
          have hev : b2.eval (.tmp a0) = mv := mv2
          rw [runv (o := o3) (a := b2) (m := Instr.lookup L.t (b2.eval (.tmp a0)) (b2.eval (.tmp a2)) true) (by simp [execOp, h3]) (by rw [hev, hrel]; exact hlk), Oper.upon_value]
          refine hK3 _ _ ?_
          obtain ⟨d1', hx1⟩ := x1
          obtain ⟨a2', hx2⟩ := x2
          refine execOps_sound hC hΓ hF rest c2 _ ρ2 β2 W2 _ w2 K (by rw [put_lvl]; exact lv2) (m2.put _ _) (f2.put ⟨fun _ => ?_, fun h => by cases h⟩) den3 ?_
          · refine ⟨[.agg #[.int .u8 (tabI L.t1 (e.I ρ2)), .int .u8 (tabI L.t2 (e.I ρ2))], .bool (hasI L.ks (e.I ρ2))], rfl, ?_, ?_, trivial⟩
            · refine ⟨[.int .u8 (tabI L.t1 (e.I ρ2)), .int .u8 (tabI L.t2 (e.I ρ2))], rfl, ?_, ?_, trivial⟩
              · show Value.int .u8 _ = Value.int .u8 _
                rw [tabX_I]
              · show Value.int .u8 _ = Value.int .u8 _
                rw [tabX_I]
            · show Value.bool _ = Value.bool _
              rw [hasX_B]
          · rw [put_defers, e2, e1, put_defers]
            exact hK.step ⟨d1' ++ a2', by rw [hx2, hx1, List.append_assoc]⟩ (((l0.trans l1).trans l2).put _ _)
        · exact den2.elim
      · exact hden.elim
    · exact hden.elim
  · exact hden.elim
def hdT (C : Cfg) (callF : CallF) (f : FuncId) (L : LkMap) (R0 : Code) (ops : Array Oper) (REST : Code) (s : S) (K : Ex → S → Tree) : Tree :=
  execC C callF f R0 s fun e s1 => match e with
    | .normal => lookT C callF L ops s1 fun s2 => execC C callF f REST s2 K
    | e => K e s1
/-- a piece of code is what a tree says -/
def CodeOk (P : Program) (C : Cfg) (Γ : FuncId → Con) (Qd : List AV → Prop) (B : Nat) (w0 : World) (c : Code) (T : S → (Ex → S → Tree) → Tree) : Prop :=
  ∀ (ctx : List (List AV → Prop)) (s : S) (ρ : List AV) (β : Mp) (W : Nat → Prop) (a : Act) (w : World) (K : Ex → S → Tree) (Q : Exit → Act → World → Prop),
    ctx.length = s.lvl → Mem C B w0 ρ β W s w → Fr ρ β s a → (T s K).den Γ Qd ρ ctx → OnwE C B w0 Γ Qd ctx ρ β s a.defers K Q → c.wp P Q a w
theorem hdT_sound (hC : C.Ok P) (hΓ : ConsOk P C Γ B w0) (hm : P.follows .mixedOrders = true) {callF : CallF} (hF : CallOk P C Γ Qd B w0 callF) (f : FuncId) {L : LkMap} (hL : LookOk P L B w0) (R0 : Code) (id : Nat) (ops : Array Oper) (REST : Code) :
    CodeOk P C Γ Qd B w0 (.seq R0 (.seq (.region id ops false) REST)) (hdT C callF f L R0 ops REST) := by
  intro ctx s ρ β W a w K Q hlv m fr hden hK
  unfold hdT at hden
  refine wp_seq (execC_sound hC hΓ hm hF f R0 ctx s ρ β W a w _ _ hlv m fr hden fun e => ?_)
  intro ρ' β' W' s' a' w' ctx' hc hlv' m' fr' hl' hd' hden'
  cases e with
  | normal =>
    refine wp_seq (lookT_sound hC hΓ hF hL hlv' m' fr' hden' ?_)
    intro ρ2 β2 W2 s2 a2 w2 ctx2 hc2 hlv2 m2 fr2 hl2 hd2 hden2
    exact execC_sound hC hΓ hm hF f REST ctx2 s2 ρ2 β2 W2 a2 w2 K Q hlv2 m2 fr2 hden2 (by
      rw [hd2, hd']
      obtain ⟨d1, rfl⟩ := hc
      obtain ⟨d2, rfl⟩ := hc2
      exact hK.step ⟨d1 ++ d2, by rw [List.append_assoc]⟩ (hl'.trans hl2))
  | exit id => exact hK (.exit id) ρ' β' W' s' a' w' ctx' hc hlv' m' fr' hl' hd' hden'
  | ret => exact hK .ret ρ' β' W' s' a' w' ctx' hc hlv' m' fr' hl' hd' hden'
/-- a function whose body is what a tree says -/
def execFT (C : Cfg) (T : S → (Ex → S → Tree) → Tree) (fn : Func) : List SV → S → (SV → S → Tree) → Tree := fun args s K =>
        if args.length ≤ fn.ntmps then
        T { s with tmps := frameOf args fn.ntmps } fun e s' => match e with
          | .exit _ => .fail "exit"
          | _ => match resOf C s' fn.results.toList with
            | some vs => if s'.ks.length = s.ks.length then K (retV vs) { s' with tmps := s.tmps } else match s.more (s'.ks.drop s.ks.length) with
              | some s'' => K (retV vs) { s' with tmps := s''.tmps }
              | none => .fail "frame"
            | none => .fail ("results " ++ fn.name)
        else .fail "arguments"

theorem execFT_sound (hC : C.Ok P) {T : S → (Ex → S → Tree) → Tree} {f : FuncId} {fn : Func} {c : Code} (hf : P.funcs[f]? = some fn) (hc : fn.body = some c) (hT : CodeOk P C Γ Qd B w0 c T)
    (args : List SV) (s : S) (K : SV → S → Tree) (ρ : List AV) (β : Mp) (W : Nat → Prop) (w : World) (ctx : List (List AV → Prop)) (vals : List Value) (m : Mem C B w0 ρ β W s w) (hr : RelL (SV.rel ρ β) args vals) (hlv : ctx.length = s.lvl) (hden : (execFT C T fn args s K).den Γ Qd ρ ctx) :
    ∀ R : Ending → World → Prop, (∀ sv s' ρ' β' W' w' ctx' v, (∃ d, ctx' = ctx ++ d) → ctx'.length = s'.lvl → Mem C B w0 ρ' β' W' s' w' → FrLater ρ β s ρ' β' s' → Later ρ β s ρ' β' s' → sv.rel ρ' β' v → (K sv s').den Γ Qd ρ' ctx' → R (.returned v) w') → Calls P f vals.toArray w R := by
  unfold execFT at hden
  split at hden
  · rename_i hle
    intro R hR
    refine calls_of_wp hf hc ?_
    refine hT ctx { s with tmps := frameOf args fn.ntmps } ρ β W { tmps := vals.toArray ++ Array.replicate (fn.ntmps - vals.toArray.size) Go.undef, defers := [] } w _ _ hlv (m.tmps _) (frame_fr hr hle s) hden fun e => ?_
    intro ρ' β' W' s' a' w' ctx' hcx hlv' m' fr' hl' hd' hden'
    have fin : (match resOf C s' fn.results.toList with
        | some vs => if s'.ks.length = s.ks.length then K (retV vs) { s' with tmps := s.tmps } else match s.more (s'.ks.drop s.ks.length) with
          | some s'' => K (retV vs) { s' with tmps := s''.tmps }
          | none => .fail "frame"
        | none => .fail ("results " ++ fn.name)).den Γ Qd ρ' ctx' → a'.defers = [] ∧ ∃ v, (results fn a'.tmps).run P w' = .ok v w' ∧ R (.returned v) w' := by
      intro hden'
      refine ⟨hd', ?_⟩
      split at hden'
      · rename_i vs hvs
        obtain ⟨us, h1, h2⟩ := results_sound hC m' fr' hvs
        split at hden'
        · rename_i hkl
          refine ⟨_, h1, hR _ { s' with tmps := s.tmps } ρ' β' W' w' ctx' _ hcx hlv' (m'.tmps _) ?_ ⟨hl'.env, hl'.ks, hl'.len, hl'.map⟩ (retV_rel h2 fun _ => trivial) hden'⟩
          intro a0 fr0
          obtain ⟨δ, rfl⟩ := hl'.env
          have hδ : δ = [] := by
            have h3 := m'.kt.1
            rw [hkl, List.length_append, m.kt.1] at h3
            exact List.eq_nil_of_length_eq_zero (by omega)
          subst hδ
          have hx : Ext β β' := fun k b hb => by
            have hlt : k < s.heap.length := by
              rcases Nat.lt_or_ge k s.heap.length with h | h
              · exact h
              · rw [m.top k h] at hb; cases hb
            obtain ⟨b1, h4⟩ := m.all k hlt
            obtain ⟨b2, h5, h6⟩ := hl'.map k b1 hlt h4
            rw [hb] at h4
            obtain rfl := Option.some.inj h4
            exact ⟨b2, h5, h6⟩
          exact ⟨fr0.1, fun t sl ht => by rw [List.append_nil]; exact Slot.rel_ext hx (fr0.2 t sl ht)⟩
        · split at hden'
          · rename_i s'' hmore
            refine ⟨_, h1, hR _ { s' with tmps := s''.tmps } ρ' β' W' w' ctx' _ hcx hlv' (m'.tmps _) ?_ ⟨hl'.env, hl'.ks, hl'.len, hl'.map⟩ (retV_rel h2 fun _ => trivial) hden'⟩
            intro a0 fr0
            obtain ⟨δ, rfl⟩ := hl'.env
            obtain ⟨rfl, sc⟩ := S.more_eq hmore
            have hok : (idR s.ks.length s.heap.length).Ok ρ β (ρ ++ δ) β' := idR_ok (by rw [m.kt.1]; exact Nat.le_refl _) fun k hk => by
              obtain ⟨b, hb⟩ := m.all k hk
              obtain ⟨b', hb', hv⟩ := hl'.map k b hk hb
              rw [hb, hb', Option.map_some, Option.map_some, hv]
            exact ⟨fr0.1, fun t sl ht => (Slot.sub_rel hok (sc.tmps t sl ht) _).2 (fr0.2 t sl ht)⟩
          · exact hden'.elim
      · exact hden'.elim
    cases e with
    | normal => exact fin hden'
    | ret => exact fin hden'
    | exit id => exact (show False from hden').elim
  · exact hden.elim
def execL (C : Cfg) (globs : List HE) (T : S → (Ex → S → Tree) → Tree) (fn : Func) (sig : CSig) : Tree :=
  if sig.ins.all (fun h => h.l.all Sh0.okB) then
    let r := startS globs sig
    let l := r.2.news
    assumeAll l (execFT C T fn r.1 (r.2.with l) fun v s => match outArgs s sig.outs v with
      | some xs => .done (insKs sig.outs) xs
      | none => .fail "outs")
  else .fail "shapes"
theorem exec_soundL {G : World → Prop} (hG : ∀ w w', G w → Below w.heap.size w w' → G w') {globs : List HE} (hgl : ∀ w, G w → ∃ bs : List BI, bs.length = globs.length ∧ (∀ b ∈ bs, b.own = noOwn) ∧ (∀ (j : Nat) e b, globs[j]? = some e → bs[j]? = some b → ∀ ρ β, EOk ρ β (fun _ => False) w b e) ∧ ∀ g k, C.glob g = some k → ∃ b, bs[k]? = some b ∧ b.v.addr = some ⟨g, 0, none⟩) (hC : C.Ok P) (hΓ : ConsG P G C Γ) {sig : CSig} (hok : (sig.ins.all (fun h => h.l.all Sh0.okB)) = true) {f : FuncId} {con : Con} {T : S → (Ex → S → Tree) → Tree} {fn : Func} {c : Code} (hf : P.funcs[f]? = some fn) (hc : fn.body = some c)
    (hT : ∀ w, G w → ConsOk P C Γ w.heap.size w → ∀ Qd, CodeOk P C Γ Qd w.heap.size w c T)
    (h : ∀ avs, KT (insKs sig.ins) avs → con.pre avs → (execL C globs T fn sig).den Γ (fun outs => outP (sig.outs.flatMap (·.l)) outs (con.out avs)) avs []) : MeetsG P G con f sig := by
  intro args avs w hGw hrd hpre
  · have hok' : ∀ h ∈ sig.ins, ∀ x ∈ h.l, x.okB = true := by simpa using hok
    obtain ⟨gs, g1, g2, g3, g4⟩ := hgl w hGw
    obtain ⟨bs, b1, b2, b3, b4, b5, b6⟩ := insL_sound (ρ := avs) 0 globs.length hok' hrd (piece_self avs)
    rw [insL_ks] at b1 b2
    have hkt : KT (insKs sig.ins) avs := by rw [← b2]; exact fixL_KT _ _
    have hd := h avs hkt hpre
    unfold execL at hd
    rw [if_pos hok] at hd
    simp only [startS] at hd
    generalize hs0 : ({ tmps := ⟨0, []⟩, heap := globs ++ (insL 0 globs.length sig.ins).2.1.map fun e => ({ e with own := false } : HE), facts := [], ks := (insL 0 globs.length sig.ins).2.2, lvl := 0 } : S) = s0 at hd
    have hlen : s0.heap.length = (gs ++ bs).length := by rw [← hs0]; simp [b3, g1]
    have m : Mem C w.heap.size w avs (app (fun _ => none) 0 (gs ++ bs)) (fun _ => False) s0 w := by
      have hap : ∀ k, app (fun _ => none) 0 (gs ++ bs) k = (gs ++ bs)[k]? := fun k => by simp [app]
      have hno : ∀ (k : Nat) (b : BI) (r : Nat), (gs ++ bs)[k]? = some b → b.own r → False := fun k b r hb ho => by
        rcases List.mem_append.1 (List.mem_of_getElem? hb) with h | h
        · rw [g2 b h] at ho; cases ho
        · rw [b4 b h] at ho; cases ho
      refine ⟨⟨Below.refl _ _, Nat.le_refl _, fun r hr => hr.elim, fun k e b hk hb => ?_, fun k k' b b' r hb _ ho _ => ?_, fun k b r hb ho => ?_, fun g k hg => ?_⟩, fun k hk => ?_, fun k hk => ?_, fun x hx => ?_, ?_⟩
      · rw [hap] at hb
        simp only [S.H] at hk
        rw [← hs0] at hk
        rcases Nat.lt_or_ge k globs.length with hkl | hkl
        · rw [List.getElem?_append_left hkl] at hk
          rw [List.getElem?_append_left (by rw [g1]; exact hkl)] at hb
          exact g3 k e b hk hb _ _
        · rw [List.getElem?_append_right hkl] at hk
          rw [List.getElem?_append_right (by rw [g1]; exact hkl), g1] at hb
          simp only [List.getElem?_map, Option.map_eq_some_iff] at hk
          obtain ⟨e0, he0, rfl⟩ := hk
          exact b5 _ e0 b he0 hb _
      · rw [hap] at hb; exact (hno k b r hb ho).elim
      · rw [hap] at hb; exact (hno k b r hb ho).elim
      · obtain ⟨b, hb, ha⟩ := g4 g k hg
        exact ⟨b, by rw [hap, List.getElem?_append_left (List.getElem?_eq_some_iff.1 hb).1]; exact hb, ha⟩
      · rw [hap]; exact ⟨_, List.getElem?_eq_getElem (by omega)⟩
      · rw [hap]; exact List.getElem?_eq_none (by omega)
      · rw [← hs0] at hx; cases hx
      · rw [← hs0]
        show KT (insL 0 globs.length sig.ins).2.2 avs
        rw [insL_ks]; exact hkt
    have fr : Fr avs (app (fun _ => none) 0 (gs ++ bs)) s0 { tmps := #[], defers := [] } := ⟨by rw [← hs0]; rfl, fun t sl ht => by
      rw [← hs0] at ht
      have h2 : (⟨0, []⟩ : TM)[t]? = some (some sl) := ht
      rw [TM.getElem?_eq] at h2
      cases h2⟩
    have hnews := news_sound m fr
    have hd2 := assumeAll_den hd hnews
    have hr := map_v_rel (b6 (app (fun _ => none) 0 (gs ++ bs)) (by
      have := (app_maps (fun _ => none) 0 (gs ++ bs)).right
      rw [Nat.zero_add, g1] at this
      exact this))
    have hcall := execFT_sound (B := w.heap.size) (w0 := w) hC hf hc (hT w hGw (fun f sig h => ⟨fun args avs w' hb hrd hp => (hΓ f sig h).1 args avs w' (hG w w' hGw hb) hrd hp, (hΓ f sig h).2⟩) _) _ (s0.with s0.news) _ avs _ _ w [] args (m.with hnews) hr (by rw [← hs0]; rfl) hd2
    refine hcall _ fun sv s' ρ' β' W' w' ctx' v hcx hlv' m' _ hl' hrel hden' => ?_
    refine ⟨v, rfl, m'.below, ?_⟩
    split at hden'
    · rename_i xs hxs
      have := outArgs_sound m' hxs hrel
      simp only [Tree.den] at hden'
      obtain ⟨vs, os, h1, h2, h3⟩ := this
      exact ⟨vs, os, h1, outP_all h2 hden', h3⟩
    · exact hden'.elim
/-- **what is left to show gives the contract** -/
theorem meets_vcL {P : Program} {C : Cfg} {Γ : FuncId → Con} {G : World → Prop} (hG : ∀ w w', G w → Below w.heap.size w w' → G w') {globs : List HE} (hgl : ∀ w, G w → ∃ bs : List BI, bs.length = globs.length ∧ (∀ b ∈ bs, b.own = noOwn) ∧ (∀ (j : Nat) e b, globs[j]? = some e → bs[j]? = some b → ∀ ρ β, EOk ρ β (fun _ => False) w b e) ∧ ∀ g k, C.glob g = some k → ∃ b, bs[k]? = some b ∧ b.v.addr = some ⟨g, 0, none⟩) (hC : C.Ok P) (hΓ : ConsG P G C Γ) {sig : CSig} (hok : (sig.ins.all (fun h => h.l.all Sh0.okB)) = true) {f : FuncId} {T : S → (Ex → S → Tree) → Tree} {fn : Func} {c : Code} (hf : P.funcs[f]? = some fn) (hc : fn.body = some c)
    (hT : ∀ w, G w → ConsOk P C Γ w.heap.size w → ∀ Qd, CodeOk P C Γ Qd w.heap.size w c T)
    {pre : List AV → Prop} {raw : List AV → List AV}
    (h : allAV (insKs sig.ins) fun avs => pre avs → (execL C globs T fn sig).vc Γ (fun ρ ks outs => doneQ ρ sig.outs ks outs (raw avs)) avs []) : MeetsG P G (mkCon sig pre raw) f sig := by
  refine exec_soundL hG hgl hC hΓ hok hf hc hT fun avs hk hpre => ?_
  have := allAV_of h avs hk hpre
  refine vc_den (Q := fun ρ ks outs => doneQ ρ sig.outs ks outs (raw avs)) (fun ρ ks outs hq => ?_) _ _ _ this
  unfold doneQ at hq
  split at hq
  · rename_i hks
    subst hks
    show outP _ _ (fixL (insKs sig.outs) (raw avs))
    rw [ks_flat] at hq ⊢
    exact outQ_P hq
  · exact hq.elim
end
end Go.Proofs.Ytpbpmabnmakdoaa.Vc
