/- The symbolic executor: what is left to show, in plain words. -/
import Derived.Test.YtiiabaklipmbbaaVz
import Derived.Test.YtiiabaklipmbbaaV0
namespace Go.Proofs.Ytiiabaklipmbbaa.Vc
noncomputable section
open Go Go.RowKit

/-- a proposition of so many variables, one after the other -/
def Cur : List VK → Type
  | [] => Prop
  | .i :: ks => Int → Cur ks
  | .b :: ks => Bool → Cur ks
  | .a :: ks => (Int → Nat → Int) → Cur ks
  | .m :: ks => (Int → Int) → (Int → Int → Nat → Int) → Cur ks
def CurN : List VK → Type
  | [] => Nat
  | .i :: ks => Int → CurN ks
  | .b :: ks => Bool → CurN ks
  | .a :: ks => (Int → Nat → Int) → CurN ks
  | .m :: ks => (Int → Int) → (Int → Int → Nat → Int) → CurN ks
def Cur.at : (ks : List VK) → Cur ks → List AV → Prop
  | [], p, _ => p
  | .i :: ks, p, v :: l => Cur.at ks (p v.int) l
  | .b :: ks, p, v :: l => Cur.at ks (p v.bool) l
  | .a :: ks, p, v :: l => Cur.at ks (p v.fn) l
  | .m :: ks, p, v :: l => Cur.at ks (p v.mlen v.mfn) l
  | .i :: ks, p, [] => Cur.at ks (p 0) []
  | .b :: ks, p, [] => Cur.at ks (p false) []
  | .a :: ks, p, [] => Cur.at ks (p fun _ _ => 0) []
  | .m :: ks, p, [] => Cur.at ks (p (fun _ => 0) fun _ _ _ => 0) []
def CurN.at : (ks : List VK) → CurN ks → List AV → Nat
  | [], p, _ => p
  | .i :: ks, p, v :: l => CurN.at ks (p v.int) l
  | .b :: ks, p, v :: l => CurN.at ks (p v.bool) l
  | .a :: ks, p, v :: l => CurN.at ks (p v.fn) l
  | .m :: ks, p, v :: l => CurN.at ks (p v.mlen v.mfn) l
  | .i :: ks, p, [] => CurN.at ks (p 0) []
  | .b :: ks, p, [] => CurN.at ks (p false) []
  | .a :: ks, p, [] => CurN.at ks (p fun _ _ => 0) []
  | .m :: ks, p, [] => CurN.at ks (p (fun _ => 0) fun _ _ _ => 0) []
/-- a condition in plain words -/
def X.P (ρ : List AV) : X → Prop
  | .bl true => True
  | .bl false => False
  | .bin .lt x y => (x.den ρ).int < (y.den ρ).int
  | .bin .le x y => (x.den ρ).int ≤ (y.den ρ).int
  | .bin .eq x y => (x.den ρ).int = (y.den ρ).int
  | .bin .and x y => x.P ρ ∧ y.P ρ
  | .bin .or x y => x.P ρ ∨ y.P ρ
  | .not x => ¬ x.P ρ
  | .inr k x => k.min ≤ (x.den ρ).int ∧ (x.den ρ).int ≤ k.max
  | x => (x.den ρ).bool = true
theorem X.P_iff (ρ : List AV) : ∀ x : X, x.P ρ ↔ (x.den ρ).bool = true := by
  intro x
  induction x with
  | bl p => cases p <;> simp [X.P, X.den, AV.bool]
  | bin o x y hx hy => cases o <;> simp [X.P, X.den, Bin.den, AV.bool, hx, hy]
  | not x hx => simp [X.P, X.den, AV.bool, hx]
  | inr k x => simp [X.P, X.den, AV.bool, Vc.inr]
  | _ => simp [X.P]
def guardP (ρ : List AV) (g : X) (p : Prop) : Prop :=
  match g with
  | .bl true => p
  | g => g.P ρ → p
/-- the values are those, one after the other -/
def eqC : List VK → List AV → List AV → Prop → Prop
  | .i :: ks, x :: xs, y :: ys, p => x.int = y.int → eqC ks xs ys p
  | .b :: ks, x :: xs, y :: ys, p => x.bool = y.bool → eqC ks xs ys p
  | .a :: ks, x :: xs, y :: ys, p => x.fn = y.fn → eqC ks xs ys p
  | .m :: ks, x :: xs, y :: ys, p => x.mlen = y.mlen → x.mfn = y.mfn → eqC ks xs ys p
  | _, _, _, p => p
def outQ (ρ : List AV) : List Sh0 → List X → List AV → Prop
  | .int _ :: hs, x :: l, y :: l' => (x.den ρ).int = y.int ∧ outQ ρ hs l l'
  | .bool :: hs, x :: l, y :: l' => (x.P ρ ↔ y.bool = true) ∧ outQ ρ hs l l'
  | .slc sh :: hs, x :: n :: l, y :: m :: l' => (n.den ρ).int = m.int ∧ (∀ (i : Int) (f : Nat), 0 ≤ i → i < m.int → f < sh.length → (x.den ρ).fn i f = y.fn i f) ∧ outQ ρ hs l l'
  | [], [], [] => True
  | _, _, _ => False
def Tree.vc (Γ : FuncId → Con) (Q : List AV → List VK → List X → Prop) (ρ : List AV) (ctx : List (List AV → Prop)) : Tree → Prop
  | .fail _ => False
  | .done ks outs => Q ρ ks outs
  | .cond b t e => (b.P ρ → t.vc Γ Q ρ ctx) ∧ (¬ b.P ρ → e.vc Γ Q ρ ctx)
  | .need b t => b.P ρ ∧ (b.P ρ → t.vc Γ Q ρ ctx)
  | .assume b t => b.P ρ → t.vc Γ Q ρ ctx
  | .call g f aks ks args t => guardP ρ g ((Γ f).pre (fixL aks (args.map (X.den ρ)))) ∧
      allAV ks fun outs => eqC ks outs (fixL ks ((Γ f).out (fixL aks (args.map (X.den ρ))))) (t.vc Γ Q (ρ ++ outs) ctx)
  | .loop ks init t => ∃ (I : Cur ks) (μ : CurN ks), I.at ks (fixL ks (init.map (X.den ρ))) ∧
      allAV ks fun vs => I.at ks vs → t.vc Γ Q (ρ ++ vs) (ctx ++ [fun ns => I.at ks ns ∧ μ.at ks ns < μ.at ks vs])
  | .next lvl ks args => (ctx.getD lvl fun _ => False) (fixL ks (args.map (X.den ρ)))
  | .fresh k t => allAV [k] fun l => t.vc Γ Q (ρ ++ l) ctx
  | .both a b => a.vc Γ Q ρ ctx ∧ b.vc Γ Q ρ ctx
def doneQ (ρ : List AV) (outs : List Sh) (ks : List VK) (xs : List X) (l : List AV) : Prop := if ks = insKs outs then outQ ρ (outs.flatMap (·.l)) xs (fixL (insKs outs) l) else False
theorem eqC_self : ∀ (ks : List VK) (l : List AV) {p : Prop}, eqC ks l l p → p
  | [], _, _, h => h
  | .i :: ks, v :: l, _, h => eqC_self ks l (h rfl)
  | .b :: ks, v :: l, _, h => eqC_self ks l (h rfl)
  | .a :: ks, v :: l, _, h => eqC_self ks l (h rfl)
  | .m :: ks, v :: l, _, h => eqC_self ks l (h rfl rfl)
  | .i :: _, [], _, h => h
  | .b :: _, [], _, h => h
  | .a :: _, [], _, h => h
  | .m :: _, [], _, h => h
theorem allAV_mono : ∀ {ks : List VK} {p q : List AV → Prop}, (∀ l, p l → q l) → allAV ks p → allAV ks q
  | [], _, _, h, hp => h _ hp
  | .i :: ks, _, _, h, hp => fun x => allAV_mono (fun l => h _) (hp x)
  | .b :: ks, _, _, h, hp => fun x => allAV_mono (fun l => h _) (hp x)
  | .a :: ks, _, _, h, hp => fun x => allAV_mono (fun l => h _) (hp x)
  | .m :: ks, _, _, h, hp => fun x y => allAV_mono (fun l => h _) (hp x y)
theorem guardP_of {ρ : List AV} {g : X} {p : Prop} (h : guardP ρ g p) : (g.den ρ).bool = true → p := by
  unfold guardP at h
  intro hg
  split at h
  · exact h
  · exact h ((X.P_iff ρ g).2 hg)
theorem vc_den {Γ : FuncId → Con} {Q : List AV → List VK → List X → Prop} {Qd : List AV → Prop} (hQ : ∀ ρ ks outs, Q ρ ks outs → Qd (fixL ks (outs.map (X.den ρ)))) : ∀ (t : Tree) (ρ : List AV) (ctx : List (List AV → Prop)), t.vc Γ Q ρ ctx → t.den Γ Qd ρ ctx
  | .fail _, _, _, h => h
  | .done ks outs, ρ, _, h => hQ ρ ks outs h
  | .cond b t e, ρ, ctx, h => ⟨fun hb => vc_den hQ t ρ ctx (h.1 ((X.P_iff ρ b).2 hb)), fun hb => vc_den hQ e ρ ctx (h.2 fun hp => by
      have := (X.P_iff ρ b).1 hp
      rw [hb] at this; cases this)⟩
  | .need b t, ρ, ctx, h => ⟨(X.P_iff ρ b).1 h.1, vc_den hQ t ρ ctx (h.2 h.1)⟩
  | .assume b t, ρ, ctx, h => fun hb => vc_den hQ t ρ ctx (h ((X.P_iff ρ b).2 hb))
  | .call g f aks ks args t, ρ, ctx, h => ⟨guardP_of h.1, by
      have := allAV_elim h.2 (fixL ks ((Γ f).out (fixL aks (args.map (X.den ρ))))) (fixL_KT _ _)
      exact vc_den hQ t _ ctx (eqC_self _ _ this)⟩
  | .loop ks init t, ρ, ctx, ⟨I, μ, h1, h2⟩ => ⟨I.at ks, μ.at ks, h1, allAV_mono (fun vs h hI => vc_den hQ t _ _ (h hI)) h2⟩
  | .next lvl ks args, ρ, ctx, h => h
  | .fresh k t, ρ, ctx, h => allAV_mono (fun l h => vc_den hQ t _ ctx h) h
  | .both a b, ρ, ctx, h => ⟨vc_den hQ a _ ctx h.1, vc_den hQ b _ ctx h.2⟩
/-- a contract with results of the right kinds -/
def mkCon (sig : CSig) (pre : List AV → Prop) (raw : List AV → List AV) : Con := ⟨pre, fun l => fixL (insKs sig.outs) (raw l)⟩
theorem outQ_P {ρ : List AV} : ∀ {hs : List Sh0} {outs : List X} {l : List AV}, outQ ρ hs outs (fixL (shKs hs) l) → outP hs (fixL (shKs hs) (outs.map (X.den ρ))) (fixL (shKs hs) l)
  | [], [], l, h => by cases l <;> exact ⟨rfl, rfl⟩
  | [], _ :: _, l, h => by cases l <;> exact h.elim
  | .int k :: hs, x :: outs, v :: l, h => ⟨by show AV.i _ = AV.i _; rw [h.1], rfl, outQ_P (hs := hs) h.2⟩
  | .bool :: hs, x :: outs, v :: l, h => ⟨by
      show AV.b _ = AV.b _
      congr 1
      have h1 := h.1
      rw [X.P_iff] at h1
      rw [Bool.eq_iff_iff]; exact h1, rfl, outQ_P (hs := hs) h.2⟩
  | .int k :: hs, x :: outs, [], h => ⟨congrArg AV.i h.1, rfl, outQ_P (hs := hs) (l := []) h.2⟩
  | .bool :: hs, x :: outs, [], h => ⟨by
      show AV.b _ = AV.b _
      congr 1
      have h1 := h.1
      rw [X.P_iff] at h1
      rw [Bool.eq_iff_iff]; exact h1, rfl, outQ_P (hs := hs) (l := []) h.2⟩
  | .slc sh :: hs, x :: n :: outs, v :: m :: l, h => ⟨by show AV.i _ = AV.i _; rw [h.1], rfl, rfl, rfl, h.2.1, outQ_P (hs := hs) h.2.2⟩
  | .slc sh :: hs, x :: n :: outs, [v], h => ⟨congrArg AV.i h.1, rfl, rfl, rfl, h.2.1, outQ_P (hs := hs) (l := []) h.2.2⟩
  | .slc sh :: hs, x :: n :: outs, [], h => ⟨congrArg AV.i h.1, rfl, rfl, rfl, h.2.1, outQ_P (hs := hs) (l := []) h.2.2⟩
  | .int _ :: _, [], l, h | .bool :: _, [], l, h => by cases l <;> (first | done | exact h.elim)
  | .slc _ :: _, [], l, h | .slc _ :: _, [_], l, h => by
    cases l with
    | nil => exact h.elim
    | cons _ l => cases l <;> (first | done | exact h.elim)
  | .mat _ :: _, [], l, h | .mat _ :: _, _ :: _, l, h => by
    cases l with
    | nil => simp only [shKs, List.flatMap_cons, Sh0.ks, List.cons_append, List.nil_append, fixL, outQ] at h
    | cons _ l => cases l <;> simp only [shKs, List.flatMap_cons, Sh0.ks, List.cons_append, List.nil_append, fixL, outQ] at h
theorem ks_flat (l : List Sh) : insKs l = shKs (l.flatMap (·.l)) := by
  induction l with
  | nil => rfl
  | cons h l ih =>
    have : insKs (h :: l) = shKs h.l ++ insKs l := by simp [insKs]
    rw [this, ih]; simp [shKs]
theorem allAV_of {p : List AV → Prop} {ks : List VK} (h : allAV ks p) : ∀ l, KT ks l → p l := fun l hk => allAV_elim h l hk
/-- a function that keeps its contract -/
structure PrG (P : Program) (G : World → Prop) where
  f : Nat
  sig : CSig
  con : Con
  ok : MeetsG P G con f sig
  fn : ∃ fn, P.funcs[f]? = some fn ∧ fn.body.isNone = false ∧ (fn.name == "runtime.NumGoroutine") = false
abbrev Pr (P : Program) := PrG P (fun _ => True)
def noCon : Con := ⟨fun _ => False, fun _ => []⟩
def prCon {P : Program} {G : World → Prop} (l : List (PrG P G)) (f : FuncId) : Con := match l.find? fun p => p.f == f with
  | some p => p.con
  | none => noCon
def prSig {P : Program} {G : World → Prop} (l : List (PrG P G)) (f : FuncId) : Option CSig := match l.find? fun p => p.f == f with
  | some p => some p.sig
  | none => none
theorem prOk {P : Program} {G : World → Prop} (l : List (PrG P G)) {C : Cfg} (h : C.con = prSig l) : ConsG P G C (prCon l) := by
  intro f sig hf
  rw [h] at hf
  unfold prSig at hf
  unfold prCon
  split at hf
  · rename_i p hp
    obtain rfl := Option.some.inj hf
    have := List.find?_some hp
    have e : p.f = f := by simpa using this
    subst e
    exact ⟨p.ok, p.fn⟩
  · cases hf
def setA (a : Int → Nat → Int) (i : Int) (f : Nat) (e : Int) : Int → Nat → Int := fun j g => if j = i ∧ g = f then e else a j g
def shA (a : Int → Nat → Int) (i : Int) : Int → Nat → Int := fun j g => a (j + i) g
def appA (a : Int → Nat → Int) (n : Int) (b : Int → Nat → Int) : Int → Nat → Int := fun j g => if j < n then a j g else b (j - n) g
def zA : Int → Nat → Int := fun _ _ => 0
def rowA (m : Int → Int → Nat → Int) (i : Int) : Int → Nat → Int := fun j g => m i j g
/-- **what is left to show gives the contract** -/
theorem meets_vcG {P : Program} {C : Cfg} {Γ : FuncId → Con} {G : World → Prop} (hG : ∀ w w', G w → Below w.heap.size w w' → G w') {globs : List HE} (hgl : ∀ w, G w → ∃ bs : List BI, bs.length = globs.length ∧ (∀ b ∈ bs, b.own = none) ∧ (∀ (j : Nat) e b, globs[j]? = some e → bs[j]? = some b → ∀ ρ β, EOk ρ β (fun _ => False) w b e) ∧ ∀ g k, C.glob g = some k → ∃ b, bs[k]? = some b ∧ b.v.addr = some ⟨g, 0, none⟩) (hC : C.Ok P) (hΓ : ConsG P G C Γ) (hm : P.follows .mixedOrders = true) (hnm : ∀ f fn, C.fn f = some fn → (fn.name == "runtime.NumGoroutine") = false) {sig : CSig} (hok : (sig.ins.all (fun h => h.l.all Sh0.okB)) = true) (fuel : Nat) {f : FuncId}
    {pre : List AV → Prop} {raw : List AV → List AV}
    (h : allAV (insKs sig.ins) fun avs => pre avs → (exec C globs fuel f sig).vc Γ (fun ρ ks outs => doneQ ρ sig.outs ks outs (raw avs)) avs []) : MeetsG P G (mkCon sig pre raw) f sig := by
  refine exec_soundG hG hgl hC hΓ hm hnm hok (fuel := fuel) fun avs hk hpre => ?_
  have := allAV_of h avs hk hpre
  refine vc_den (Q := fun ρ ks outs => doneQ ρ sig.outs ks outs (raw avs)) (fun ρ ks outs hq => ?_) _ _ _ this
  unfold doneQ at hq
  split at hq
  · rename_i hks
    subst hks
    show outP _ _ (fixL (insKs sig.outs) (raw avs))
    rw [ks_flat] at hq ⊢
    exact outQ_P hq
  · exact hq.elim
theorem meets_vc {P : Program} {C : Cfg} {Γ : FuncId → Con} (hC : C.Ok P) (hΓ : ConsG P (fun _ => True) C Γ) (hm : P.follows .mixedOrders = true) (hnm : ∀ f fn, C.fn f = some fn → (fn.name == "runtime.NumGoroutine") = false) (hgl : C.globL = []) {sig : CSig} (hok : (sig.ins.all (fun h => h.l.all Sh0.okB)) = true) (fuel : Nat) {f : FuncId}
    {pre : List AV → Prop} {raw : List AV → List AV}
    (h : allAV (insKs sig.ins) fun avs => pre avs → (exec C [] fuel f sig).vc Γ (fun ρ ks outs => doneQ ρ sig.outs ks outs (raw avs)) avs []) : Meets P (mkCon sig pre raw) f sig :=
  meets_vcG (G := fun _ => True) (globs := []) (fun _ _ _ _ => trivial) (fun w _ => ⟨[], rfl, fun b hb => by simp at hb, fun j e b hj => by simp at hj, fun g k hg => by simp [Cfg.glob, hgl] at hg⟩) hC hΓ hm hnm hok fuel h
end
end Go.Proofs.Ytiiabaklipmbbaa.Vc
