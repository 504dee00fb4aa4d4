/- Functions that change a list in place; a part that makes a list and changes it; clearing the end of a list. -/
import Derived.Test.YtpbpmabnmakdoaaHX
namespace Go.Proofs.Ytpbpmabnmakdoaa.Vc
noncomputable section
section
open Go Go.RowKit
variable {ρ ρ' : List AV} {β β' : Mp} {W W' : Nat → Prop} {w w' : World} {P : Program} {C : Cfg} {B : Nat} {w0 : World}
variable {Γ : FuncId → Con} {Qd : List AV → Prop}
/-- a function that changes the list that it is given: its number, the element's shape, how many integers follow, the function value behind them -/
structure IPs where
  f : FuncId
  sh : List FK
  k : Nat
  g : Option FuncId
def IPs.fns (ip : IPs) : List SV := match ip.g with
  | none => []
  | some g => [.v (.sc (.fn g [] []))]
def IPs.vals (ip : IPs) : List Value := match ip.g with
  | none => []
  | some g => [.func (.func g) #[] #[]]
def IPs.ks (ip : IPs) : List VK := .a :: .i :: List.replicate ip.k .i
def intsSV : Nat → List SV → Option (List X × List SV)
  | 0, l => some ([], l)
  | n + 1, .v (.sc (.c (.int .i64 e))) :: l => (intsSV n l).map fun r => (e :: r.1, r.2)
  | _, _ => none
def ipHeap (es : List HE) (k : Nat) (e : HE) : List HE := (es.map fun x => ({ x with body := .gone } : HE)).set k e
def ipLen (s : S) (len n : X) : X := if len = n then n else .var (s.ks.length + 1)
def ipStep (ip : IPs) (args : List SV) (s : S) (K : SV → S → Tree) : Tree :=
  match args with
  | .v (.sc (.c (.slc (.blk k) sz (.lit 0) len none))) :: as =>
    match s.heap[k]? with
    | some ⟨true, .arr sh a n, .bl true⟩ =>
      match intsSV ip.k as with
      | some (zs, fs) =>
        if sh = ip.sh ∧ sz = ip.sh.length ∧ fs = ip.fns then
          match s.more [.a, .i] with
          | some s' => needAll [xb .le (.lit 0) len, xb .le len n] (.call (.bl true) ip.f ip.ks [.a, .i] (a :: len :: zs) (K (.tup []) { s' with heap := ipHeap s.heap k ⟨true, .arr sh (.var s.ks.length) (ipLen s len n), .bl true⟩ }))
          | none => .fail "in place: names"
        else .fail "in place: arguments"
      | none => .fail "in place: integers"
    | _ => .fail "in place: list"
  | .v (.sc (.c .nils)) :: as =>
    match intsSV ip.k as with
    | some (zs, fs) =>
      if fs = ip.fns then
        match s.more [.a, .i] with
        | some s' => .call (.bl true) ip.f ip.ks [.a, .i] (.zeros :: .lit 0 :: zs) (K (.tup []) { s' with heap := s.heap.map fun x => { x with body := .gone } })
        | none => .fail "in place: names"
      else .fail "in place: arguments"
    | none => .fail "in place: integers"
  | _ => .fail "in place: list"
def onlyB (b : BI) : Mp := fun k => if k = 0 then some b else none
def ipE (sh : List FK) : HE := ⟨true, .arr sh (.var 0) (.var 1), .bl true⟩
/-- the function keeps its contract on the list in place -/
def MeetsT (P : Program) (ip : IPs) (con : Con) : Prop :=
  ∀ (B : Nat) (w : World) (b : BI) (x : Int → Nat → Int) (n : Int) (zs : List Int) (v : Value),
    zs.length = ip.k → (∀ r, b.own r → B ≤ r ∧ r < w.heap.size) → B ≤ w.heap.size →
    EOk [.a x, .i n] (onlyB b) b.own w b (ipE ip.sh) →
    (SV.v (.sc (.c (.slc (.blk 0) ip.sh.length (.lit 0) (.var 1) none)))).rel [.a x, .i n] (onlyB b) v →
    con.pre (.a x :: .i n :: zs.map .i) →
    Calls P ip.f (v :: (zs.map (Value.int .i64) ++ ip.vals)).toArray w fun e w' => e = .returned (.tuple #[]) ∧ Below B w w' ∧
      ∃ y, con.out (.a x :: .i n :: zs.map .i) = [.a y, .i n] ∧ EOk [.a y, .i n] (onlyB b) b.own w' b (ipE ip.sh)
def IPsOk (P : Program) (Γ : FuncId → Con) (ips : List IPs) : Prop :=
  ∀ ip ∈ ips, MeetsT P ip (Γ ip.f) ∧ ∃ fn, P.funcs[ip.f]? = some fn ∧ fn.body.isNone = false ∧ (fn.name == "runtime.NumGoroutine") = false
theorem arr_ok {sh : List FK} {a n a' n' : X} {b : BI} (β1 β2 : Mp) {ρ1 ρ2 : List AV} {W1 W2 : Nat → Prop} (ha : (a.den ρ1).fn = (a'.den ρ2).fn) (hn : n.I ρ1 = n'.I ρ2) (h : EOk ρ1 β1 W1 w b ⟨true, .arr sh a n, .bl true⟩) : EOk ρ2 β2 W2 w b ⟨true, .arr sh a' n', .bl true⟩ := by
  intro _
  have h := h rfl
  show 0 ≤ n'.I ρ2 ∧ _
  simp only at h ⊢
  rw [← hn, ← ha]
  obtain ⟨h0, h1, h2, h3⟩ := h
  refine ⟨h0, h1, h2, ?_⟩
  rcases h3 with h3 | h3 | ⟨p, hp, hl, h4⟩
  · exact .inl h3
  · exact .inr (.inl h3)
  · exact .inr (.inr ⟨p, hp, ⟨hl.1, hl.2.1, fun h => by cases h⟩, h4⟩)
theorem arr_short {sh : List FK} {a n n' : X} {b : BI} (h0 : 0 ≤ n'.I ρ) (h1 : n'.I ρ ≤ n.I ρ) (h : EOk ρ β W w b ⟨true, .arr sh a n, .bl true⟩) : EOk ρ β W w b ⟨true, .arr sh a n', .bl true⟩ := by
  intro _
  have h := h rfl
  show 0 ≤ n'.I ρ ∧ _
  simp only at h ⊢
  obtain ⟨k0, k1, k2, h3⟩ := h
  refine ⟨h0, k1, k2, ?_⟩
  rcases h3 with ⟨z, h3⟩ | ⟨_, h3⟩ | ⟨p, hp, hl, hn, h4⟩
  · exact .inl ⟨by omega, h3⟩
  · cases h3
  · exact .inr (.inr ⟨p, hp, hl, by omega, fun i f k i0 i1 hk => h4 i f k i0 (by omega) hk⟩)
theorem ints_rel {β : Mp} : ∀ {k : Nat} {as : List SV} {zs : List X} {fs : List SV} {vs : List Value}, intsSV k as = some (zs, fs) → RelL (SV.rel ρ β) as vs → ∃ us, zs.length = k ∧ vs = (zs.map fun z => Value.int .i64 (z.I ρ)) ++ us ∧ RelL (SV.rel ρ β) fs us
  | 0, as, zs, fs, vs, h, hr => by
    unfold intsSV at h
    obtain ⟨rfl, rfl⟩ := Prod.mk.inj (Option.some.inj h)
    exact ⟨vs, rfl, rfl, hr⟩
  | k + 1, as, zs, fs, vs, h, hr => by
    unfold intsSV at h
    split at h
    · rename_i e l hk
      cases hk
    · rename_i n e l hk
      obtain rfl := Nat.succ.inj hk
      rw [Option.map_eq_some_iff] at h
      obtain ⟨⟨z0, f0⟩, h1, h2⟩ := h
      obtain ⟨rfl, rfl⟩ := Prod.mk.inj h2
      cases vs with
      | nil => exact hr.elim
      | cons v vs =>
        obtain ⟨us, e1, e2, e3⟩ := ints_rel h1 hr.2
        have hv : v = .int .i64 (e.I ρ) := hr.1
        exact ⟨us, by simp [e1], by rw [hv, e2]; rfl, e3⟩
    · cases h
theorem fns_rel {ip : IPs} {β : Mp} {us : List Value} (h : RelL (SV.rel ρ β) ip.fns us) : us = ip.vals := by
  unfold IPs.fns at h
  unfold IPs.vals
  split at h
  · rename_i hg
    cases us with
    | nil => rfl
    | cons _ _ => exact h.elim
  · rename_i g hg
    match us, h with
    | [u], h =>
      obtain ⟨vs, ws, e, h1, h2⟩ := h.1
      cases vs with
      | cons _ _ => exact h1.elim
      | nil =>
        cases ws with
        | cons _ _ => exact h2.elim
        | nil => rw [e]
theorem fix_ints : ∀ (k : Nat) (l : List X), l.length = k → fixL (List.replicate k VK.i) (l.map (X.den ρ)) = (l.map fun z => z.I ρ).map AV.i
  | 0, [], _ => rfl
  | k + 1, z :: l, h => by
    show VK.i.fix (z.den ρ) :: fixL (List.replicate k VK.i) (l.map (X.den ρ)) = _
    rw [fix_ints k l (by simpa using h)]
    rfl
theorem ipStep_sound {ip : IPs} (hip : MeetsT P ip (Γ ip.f)) (args : List SV) (s : S) (K : SV → S → Tree) (ρ : List AV) (β : Mp) (W : Nat → Prop) (w : World) (ctx : List (List AV → Prop)) (vals : List Value)
    (m : Mem C B w0 ρ β W s w) (hr : RelL (SV.rel ρ β) args vals) (hlv : ctx.length = s.lvl) (hden : (ipStep ip args s K).den Γ Qd ρ ctx) :
    ∀ R : Ending → World → Prop, (∀ sv s' ρ' β' W' w' ctx' v, (∃ d, ctx' = ctx ++ d) → ctx'.length = s'.lvl → Mem C B w0 ρ' β' W' s' w' → FrLater ρ β s ρ' β' s' → Later ρ β s ρ' β' s' → sv.rel ρ' β' v → (K sv s').den Γ Qd ρ' ctx' → R (.returned v) w') → Calls P ip.f vals.toArray w R := by
  intro R hR
  unfold ipStep at hden
  split at hden
  · rename_i k sz len as
    split at hden
    · rename_i sh a n hk
      split at hden
      · rename_i zs fs hz
        split at hden
        · rename_i hc
          obtain ⟨rfl, rfl, rfl⟩ := hc
          split at hden
          · rename_i s' hmore
            obtain ⟨hnd, hpre, hd⟩ := needAll_den hden
            have hl0 := le_of (hnd (xb .le (.lit 0) len) (by simp))
            have hln := le_of (hnd (xb .le len n) (by simp))
            rw [lit_I] at hl0
            have hkl : k < s.heap.length := (List.getElem?_eq_some_iff.1 hk).1
            obtain ⟨b, hb⟩ := m.all k hkl
            have heok := arr_short hl0 hln (m.heap k _ b hk hb)
            cases vals with
            | nil => exact hr.elim
            | cons v vs =>
            obtain ⟨us, hzl, hvs, hus⟩ := ints_rel hz hr.2
            have hus := fns_rel hus
            subst hus
            have hown : ∀ r, b.own r → B ≤ r ∧ r < w.heap.size := fun r ho => m.wlo r (m.own k b r hb ho)
            have he1 : EOk [.a (a.den ρ).fn, .i (len.I ρ)] (onlyB b) b.own w b (ipE ip.sh) := arr_ok β _ (a := a) (n := len) rfl rfl heok
            have hv1 : (SV.v (.sc (.c (.slc (.blk 0) ip.sh.length (.lit 0) (.var 1) none)))).rel [.a (a.den ρ).fn, .i (len.I ρ)] (onlyB b) v := by
              obtain ⟨p, c, q, r, h1, h2, h3, h4, h5, h6, h7, h8, h9, h10, h11⟩ := hr.1
              refine ⟨p, c, q, r, ?_, h2, Int.le_refl _, h4, h5, h6, h7, h8, h9, fun e he => (by cases he), h11⟩
              simp only [SB.at, hb] at h1
              exact h1
            have hfix : fixL ip.ks ((a :: len :: zs).map (X.den ρ)) = .a (a.den ρ).fn :: .i (len.I ρ) :: (zs.map fun z => z.I ρ).map AV.i := by
              show VK.a.fix (a.den ρ) :: VK.i.fix (len.den ρ) :: fixL (List.replicate ip.k VK.i) (zs.map (X.den ρ)) = _
              rw [fix_ints ip.k zs hzl]
              rfl
            rw [hfix] at hpre hd
            have hcall := hip B w b (a.den ρ).fn (len.I ρ) (zs.map fun z => z.I ρ) v (by simp [hzl]) hown m.size he1 hv1 (hpre rfl)
            rw [hvs]
            have hmm : (zs.map fun z => Value.int .i64 (z.I ρ)) = (zs.map fun z => z.I ρ).map (Value.int .i64) := by simp
            rw [hmm]
            refine hcall.mono fun e w' he => ?_
            obtain ⟨rfl, hbw, y, hout, hE⟩ := he
            rw [hout] at hd
            have hkt : KT [VK.a, VK.i] [.a y, .i (len.I ρ)] := ⟨rfl, fun i k hk => by
              match i, hk with
              | 0, hk => simp at hk; subst hk; rfl
              | 1, hk => simp at hk; subst hk; rfl
              | i + 2, hk => simp at hk⟩
            obtain ⟨rfl, m2⟩ := m.more hmore hkt
            have hkn : ρ.length = s.ks.length := m.kt.1
            have e1 : ((X.var s.ks.length).den (ρ ++ [.a y, .i (len.I ρ)])) = .a y := by
              simp [X.den, ← hkn]
            have e2 : (ipLen s len n).I (ρ ++ [.a y, .i (len.I ρ)]) = len.I ρ := by
              unfold ipLen
              split
              · rename_i hlen
                subst hlen
                obtain ⟨_, sc⟩ := S.more_eq hmore
                have h0 := sc.heap k ⟨true, .arr ip.sh a len, .bl true⟩ hk
                have hok : (idR s.ks.length s.heap.length).Ok ρ β (ρ ++ [.a y, .i (len.I ρ)]) β := idR_ok (by rw [m.kt.1]; exact Nat.le_refl _) fun _ _ => rfl
                unfold HE.sub Body.sub at h0
                simp only at h0
                split at h0
                · rename_i bb gg hb1 hg1
                  split at hb1
                  · rename_i a1 n1 ha1 hn1
                    obtain rfl := Option.some.inj hb1
                    have h0 := Option.some.inj h0
                    simp only [HE.mk.injEq, Body.arr.injEq, true_and] at h0
                    obtain ⟨⟨rfl, rfl⟩, _⟩ := h0
                    show (X.den _ _).int = _
                    rw [X.sub_den hok.x hn1]
                  · cases hb1
                · cases h0
              · simp [X.I, X.den, ← hkn, AV.int]
            have hlen : (ipHeap s.heap k ⟨true, .arr ip.sh (.var s.ks.length) (ipLen s len n), .bl true⟩).length = s.heap.length := by simp [ipHeap]
            refine hR (.tup []) { tmps := s.tmps, heap := ipHeap s.heap k ⟨true, .arr ip.sh (.var s.ks.length) (ipLen s len n), .bl true⟩, facts := s.facts, ks := s.ks ++ [.a, .i], lvl := s.lvl } (ρ ++ [AV.a y, AV.i (len.I ρ)]) β W w' ctx (.tuple #[]) ⟨[], by simp⟩ hlv ?_ (fun a0 fr0 => ⟨(Fr.more (δ := [AV.a y, AV.i (len.I ρ)]) m hmore fr0).1, (Fr.more (δ := [AV.a y, AV.i (len.I ρ)]) m hmore fr0).2⟩) ⟨⟨_, rfl⟩, ⟨_, rfl⟩, by rw [hlen]; exact Nat.le_refl _, fun k b _ hb => ⟨b, hb, rfl⟩⟩ ⟨[], rfl, trivial⟩ hd
            refine ⟨⟨m.below.trans (Below.mono hbw (Nat.le_refl _)), Nat.le_trans m.size hbw.size, fun r hr => ⟨(m.wlo r hr).1, Nat.lt_of_lt_of_le (m.wlo r hr).2 hbw.size⟩, fun k' e b' hk' hb' => ?_, m.dist, m.own, m.glob⟩, fun k' hk' => m.all k' (by rw [hlen] at hk'; exact hk'), fun k' hk' => m.top k' (by rw [hlen] at hk'; exact hk'), m2.facts, m2.kt⟩
            have hk2 : (ipHeap s.heap k ⟨true, .arr ip.sh (.var s.ks.length) (ipLen s len n), .bl true⟩)[k']? = some e := hk'
            clear hk'
            unfold ipHeap at hk2
            rw [List.getElem?_set] at hk2
            split at hk2
            · rename_i hkk
              subst hkk
              obtain rfl := Option.some.inj (hb.symm.trans hb')
              split at hk2
              · obtain rfl := Option.some.inj hk2
                exact arr_ok (onlyB b) _ (by rw [e1]; rfl) (by rw [e2]; rfl) hE
              · cases hk2
            · rw [List.getElem?_map, Option.map_eq_some_iff] at hk2
              obtain ⟨e0, _, rfl⟩ := hk2
              exact fun _ => trivial
          · exact hden.elim
        · exact hden.elim
      · exact hden.elim
    · exact hden.elim
  · rename_i as
    split at hden
    · rename_i zs fs hz
      split at hden
      · rename_i hc
        subst hc
        split at hden
        · rename_i s' hmore
          obtain ⟨hpre, hd⟩ := hden
          cases vals with
          | nil => exact hr.elim
          | cons v vs =>
          obtain ⟨us, hzl, hvs, hus⟩ := ints_rel hz hr.2
          have hus := fns_rel hus
          subst hus
          have hv0 : v = .slice none 0 0 := hr.1
          have hfix : fixL ip.ks ((X.zeros :: X.lit 0 :: zs).map (X.den ρ)) = .a ((X.zeros).den ρ).fn :: .i 0 :: (zs.map fun z => z.I ρ).map AV.i := by
            show VK.a.fix ((X.zeros).den ρ) :: VK.i.fix ((X.lit 0).den ρ) :: fixL (List.replicate ip.k VK.i) (zs.map (X.den ρ)) = _
            rw [fix_ints ip.k zs hzl]
            rfl
          rw [hfix] at hpre hd
          have hcall := hip B w ⟨⟨none, 0, ip.sh.length, fun _ => none, fun _ => 0, fun _ => 0⟩, noOwn⟩ ((X.zeros).den ρ).fn 0 (zs.map fun z => z.I ρ) v (by simp [hzl]) (fun r ho => ho.elim) m.size
            (fun _ => ⟨Int.le_refl _, fun _ => rfl, rfl, .inl ⟨rfl, rfl, rfl⟩⟩)
            ⟨none, 0, none, 0, rfl, by rw [hv0]; rfl, Int.le_refl _, Int.le_refl _, Nat.le_refl _, by unfold maxLen; omega, fun _ => rfl, .inl rfl, Nat.le_refl _, fun e he => (by cases he), fun _ => rfl⟩ (hpre rfl)
          rw [hvs]
          have hmm : (zs.map fun z => Value.int .i64 (z.I ρ)) = (zs.map fun z => z.I ρ).map (Value.int .i64) := by simp
          rw [hmm]
          refine hcall.mono fun e w' he => ?_
          obtain ⟨rfl, hbw, y, hout, hE⟩ := he
          rw [hout] at hd
          have hkt : KT [VK.a, VK.i] [.a y, .i 0] := ⟨rfl, fun i k hk => by
            match i, hk with
            | 0, hk => simp at hk; subst hk; rfl
            | 1, hk => simp at hk; subst hk; rfl
            | i + 2, hk => simp at hk⟩
          obtain ⟨rfl, m2⟩ := m.more hmore hkt
          have hlen : (s.heap.map fun x => ({ x with body := .gone } : HE)).length = s.heap.length := by simp
          refine hR (.tup []) { tmps := s.tmps, heap := s.heap.map fun x => ({ x with body := .gone } : HE), facts := s.facts, ks := s.ks ++ [.a, .i], lvl := s.lvl } (ρ ++ [AV.a y, AV.i 0]) β W w' ctx (.tuple #[]) ⟨[], by simp⟩ hlv ?_ (fun a0 fr0 => ⟨(Fr.more (δ := [AV.a y, AV.i 0]) m hmore fr0).1, (Fr.more (δ := [AV.a y, AV.i 0]) m hmore fr0).2⟩) ⟨⟨_, rfl⟩, ⟨_, rfl⟩, by rw [hlen]; exact Nat.le_refl _, fun k b _ hb => ⟨b, hb, rfl⟩⟩ ⟨[], rfl, trivial⟩ hd
          refine ⟨⟨m.below.trans (Below.mono hbw (Nat.le_refl _)), Nat.le_trans m.size hbw.size, fun r hr => ⟨(m.wlo r hr).1, Nat.lt_of_lt_of_le (m.wlo r hr).2 hbw.size⟩, fun k' e b' hk' hb' => ?_, m.dist, m.own, m.glob⟩, fun k' hk' => m.all k' (by rw [hlen] at hk'; exact hk'), fun k' hk' => m.top k' (by rw [hlen] at hk'; exact hk'), m2.facts, m2.kt⟩
          have hk2 : (s.heap.map fun x => ({ x with body := .gone } : HE))[k']? = some e := hk'
          rw [List.getElem?_map, Option.map_eq_some_iff] at hk2
          obtain ⟨e0, _, rfl⟩ := hk2
          exact fun _ => trivial
        · exact hden.elim
      · exact hden.elim
    · exact hden.elim
  · exact hden.elim
/-- the executor, with functions that change a list in place -/
def execG (C : Cfg) (ips : List IPs) : Nat → CallF
  | 0 => fun _ _ _ _ => .fail "fuel"
  | n + 1 => fun f args s K => match ips.find? fun ip => ip.f == f with
    | some ip => ipStep ip args s K
    | none => match C.fn f with
      | some fn => match fn.body with
        | some c => execFT C (execC C (execG C ips n) f c) fn args s K
        | none => .fail "no body"
      | none => .fail "no function"
theorem execG_sound (hC : C.Ok P) (hΓ : ConsOk P C Γ B w0) (hm : P.follows .mixedOrders = true) (hnm : ∀ f fn, C.fn f = some fn → (fn.name == "runtime.NumGoroutine") = false) {ips : List IPs} (hips : IPsOk P Γ ips) : ∀ n, CallOk P C Γ Qd B w0 (execG C ips n)
  | 0 => fun f args s K ρ β W w ctx vals m hr hlv hden => (show False from hden).elim
  | n + 1 => fun f args s K ρ β W w ctx vals m hr hlv hden => by
    simp only [execG] at hden
    split at hden
    · rename_i ip hip
      obtain ⟨h1, h2⟩ := hips ip (List.mem_of_find?_eq_some hip)
      have hf : ip.f = f := by simpa using List.find?_some hip
      subst hf
      exact ⟨h2, ipStep_sound h1 args s K ρ β W w ctx vals m hr hlv hden⟩
    · split at hden
      · rename_i fn hfn
        split at hden
        · rename_i c hc
          have hf := hC.fn _ _ hfn
          exact ⟨⟨fn, hf, by rw [hc]; rfl, hnm _ _ hfn⟩, execFT_sound hC hf hc (fun ctx s ρ β W a w K Q => execC_sound hC hΓ hm (execG_sound hC hΓ hm hnm hips n) f c ctx s ρ β W a w K Q) args s K ρ β W w ctx vals m hr hlv hden⟩
        · exact hden.elim
      · exact hden.elim
/-- a function on a list in place: where it starts -/
def ipArgs (ip : IPs) : List SV := .v (.sc (.c (.slc (.blk 0) ip.sh.length (.lit 0) (.var 1) none))) :: ((List.range ip.k).map fun i => SV.v (.sc (.c (.int .i64 (.var (i + 2)))))) ++ ip.fns
def ipS (ip : IPs) : S := { tmps := ⟨0, []⟩, heap := [ipE ip.sh], facts := [], ks := ip.ks, lvl := 0 }
def ipTree (C : Cfg) (ips : List IPs) (fuel : Nat) (ip : IPs) (fn : Func) (c : Code) : Tree :=
  let s := ipS ip
  let l := s.news
  assumeAll l (execFT C (execC C (execG C ips fuel) ip.f c) fn (ipArgs ip) (s.with l) fun v s => match v, s.heap with
    | .tup [], ⟨true, .arr sh a n, .bl true⟩ :: _ => if sh = ip.sh then needAll [xb .eq n (.var 1)] (.done [.a, .i] [a, .var 1]) else .fail "in place: shape"
    | _, _ => .fail "in place: end")
theorem ipInts_rel {β : Mp} {x : Int → Nat → Int} {n : Int} : ∀ (k j : Nat) (pre zs : List Int), zs.length = k → pre.length = j → RelL (SV.rel (.a x :: .i n :: (pre ++ zs).map AV.i) β) ((List.range' j k).map fun i => SV.v (.sc (.c (.int .i64 (.var (i + 2)))))) (zs.map (Value.int .i64))
  | 0, j, pre, [], _, _ => trivial
  | k + 1, j, pre, z :: zs, h, hj => by
    rw [List.range'_succ, List.map_cons, List.map_cons]
    refine ⟨?_, ?_⟩
    · show Value.int .i64 z = Value.int .i64 _
      congr 1
      subst hj
      simp [X.I, X.den, AV.int]
    · have := ipInts_rel (β := β) (x := x) (n := n) k (j + 1) (pre ++ [z]) zs (by simpa using h) (by simp [hj])
      simpa using this
theorem fns_rel' {ip : IPs} {β : Mp} : RelL (SV.rel ρ β) ip.fns ip.vals := by
  unfold IPs.fns IPs.vals
  split
  · trivial
  · exact ⟨⟨[], [], rfl, trivial, trivial⟩, trivial⟩
theorem kt_ints (x : Int → Nat → Int) (n : Int) (zs : List Int) : KT (.a :: .i :: List.replicate zs.length .i) (.a x :: .i n :: zs.map AV.i) := by
  refine ⟨by simp, fun i k hk => ?_⟩
  match i, hk with
  | 0, hk => simp at hk; subst hk; rfl
  | 1, hk => simp at hk; subst hk; rfl
  | i + 2, hk =>
    simp only [List.getElem?_cons_succ, List.getElem?_replicate] at hk
    split at hk
    · rename_i hlt
      obtain rfl := Option.some.inj hk
      simp [hlt, VK.fix, AV.int]
    · cases hk
/-- **what is left to show gives the contract in place** -/
theorem ipTree_sound (hC : C.Ok P) (hΓ : ConsG P (fun _ => True) C Γ) (hm : P.follows .mixedOrders = true) (hnm : ∀ f fn, C.fn f = some fn → (fn.name == "runtime.NumGoroutine") = false) (hgl : C.globL = []) {ips : List IPs} (hips : IPsOk P Γ ips) {ip : IPs} {fn : Func} {c : Code} (hf : P.funcs[ip.f]? = some fn) (hc : fn.body = some c) {con : Con} (fuel : Nat)
    (h : ∀ (x : Int → Nat → Int) (n : Int) (zs : List Int), zs.length = ip.k → con.pre (.a x :: .i n :: zs.map .i) → ∃ y, con.out (.a x :: .i n :: zs.map .i) = [.a y, .i n] ∧
      (ipTree C ips fuel ip fn c).den Γ (fun outs => outP [.slc ip.sh] outs [.a y, .i n]) (.a x :: .i n :: zs.map .i) []) : MeetsT P ip con := by
  intro B w b x n zs v hzs hown hB hE hv hpre
  obtain ⟨y, hout, hd⟩ := h x n zs hzs hpre
  have m : Mem C B w (.a x :: .i n :: zs.map .i) (onlyB b) b.own (ipS ip) w := by
    have only : ∀ k b', onlyB b k = some b' → k = 0 ∧ b' = b := fun k b' hk => by
      unfold onlyB at hk
      split at hk
      · rename_i h0; exact ⟨h0, (Option.some.inj hk).symm⟩
      · cases hk
    refine ⟨⟨Below.refl _ _, hB, fun r hr => hown r hr, fun k e b' hk hb' => ?_, fun k k' b1 b2 r h1 h2 _ _ => by rw [(only k b1 h1).1, (only k' b2 h2).1], fun k b' r hb' ho => by rw [(only k b' hb').2] at ho; exact ho, fun g k hg => (by simp [Cfg.glob, hgl] at hg)⟩, fun k hk => ?_, fun k hk => ?_, fun x hx => (by cases hx), ?_⟩
    · obtain ⟨rfl, rfl⟩ := only k b' hb'
      obtain rfl := Option.some.inj hk
      exact arr_ok (onlyB b') _ rfl rfl hE
    · have : k = 0 := by simpa [ipS] using hk
      exact ⟨b, by unfold onlyB; rw [if_pos this]⟩
    · have : k ≠ 0 := by
        have : 1 ≤ k := hk
        omega
      unfold onlyB
      rw [if_neg this]
    · show KT ip.ks _
      unfold IPs.ks
      rw [← hzs]
      exact kt_ints x n zs
  have fr : Fr (.a x :: .i n :: zs.map .i) (onlyB b) (ipS ip) { tmps := #[], defers := [] } := ⟨rfl, fun t sl ht => by
    have h2 : (⟨0, []⟩ : TM)[t]? = some (some sl) := ht
    rw [TM.getElem?_eq] at h2
    cases h2⟩
  have hnews := news_sound m fr
  unfold ipTree at hd
  have hd2 := assumeAll_den hd hnews
  have hr : RelL (SV.rel (.a x :: .i n :: zs.map .i) (onlyB b)) (ipArgs ip) (v :: (zs.map (Value.int .i64) ++ ip.vals)) := by
    unfold ipArgs
    refine ⟨?_, ?_⟩
    · obtain ⟨p, c, q, r, h1, h2, h3, h4, h5, h6, h7, h8, h9, h10, h11⟩ := hv
      exact ⟨p, c, q, r, h1, h2, h3, h4, h5, h6, h7, h8, h9, fun e he => (by cases he), h11⟩
    · have := ipInts_rel (β := onlyB b) (x := x) (n := n) ip.k 0 [] zs hzs rfl
      rw [← List.range_eq_range'] at this
      exact this.append fns_rel'
  have hcall := execFT_sound (B := B) (w0 := w) hC hf hc (fun ctx s ρ β W a w' K Q => execC_sound hC (fun f sig h => ⟨fun args avs w' hb hrd hp => (hΓ f sig h).1 args avs w' trivial hrd hp, (hΓ f sig h).2⟩) hm (execG_sound hC (fun f sig h => ⟨fun args avs w' hb hrd hp => (hΓ f sig h).1 args avs w' trivial hrd hp, (hΓ f sig h).2⟩) hm hnm hips fuel) ip.f c ctx s ρ β W a w' K Q) (ipArgs ip) ((ipS ip).with (ipS ip).news) _ _ _ _ w [] _ (m.with hnews) hr rfl hd2
  refine hcall _ fun sv s' ρ' β' W' w' ctx' v' hcx hlv' m' _ hl' hrel hden' => ?_
  split at hden'
  · rename_i sv' heap' sh a n' es hh
    split at hden'
    · rename_i hsh
      subst hsh
      obtain ⟨hnd, hq⟩ := needAll_den hden'
      have hn' := hnd (xb .eq n' (.var 1)) (by simp)
      rw [xeq] at hn'
      have hn' : n'.I ρ' = (X.var 1).I ρ' := of_decide_eq_true hn'
      obtain ⟨δ, hδ⟩ := hl'.env
      have e1 : (X.var 1).den ρ' = .i n := by rw [hδ]; rfl
      have e1' : (X.var 1).I ρ' = n := by unfold X.I; rw [e1]; rfl
      have hq : outP [.slc ip.sh] (fixL [.a, .i] [a.den ρ', (X.var 1).den ρ']) [.a y, .i n] := hq
      rw [e1] at hq
      obtain ⟨_, _, _, _, hyy, _⟩ := hq
      have hyy : ∀ (i : Int) (f : Nat), 0 ≤ i → i < n → f < ip.sh.length → (a.den ρ').fn i f = y i f := hyy
      obtain ⟨vs, hv', hvs⟩ := hrel
      cases vs with
      | cons _ _ => exact hvs.elim
      | nil =>
      refine ⟨by rw [hv'], m'.below, y, hout, ?_⟩
      have hb0 : onlyB b 0 = some b := rfl
      obtain ⟨b', hb', hbv⟩ := hl'.map 0 b (by show 0 < [ipE ip.sh].length; simp) hb0
      have hH : s'.H 0 = some ⟨true, .arr ip.sh a n', .bl true⟩ := by show s'.heap[0]? = _; rw [hh]; rfl
      have heok := m'.heap 0 _ b' hH hb' rfl
      simp only at heok
      rw [hn', e1', hbv] at heok
      obtain ⟨h0, h1, h2, h3⟩ := heok
      have hE0 := hE rfl
      simp only [ipE] at hE0
      obtain ⟨_, _, _, k3⟩ := hE0
      intro _
      show 0 ≤ n ∧ _
      refine ⟨h0, h1, h2, ?_⟩
      rcases k3 with ⟨_, kc, ko⟩ | ⟨_, ko⟩ | ⟨p, kp, kl, kn, _⟩
      · refine .inl ⟨?_, kc, ko⟩
        rcases h3 with ⟨z, _, _⟩ | ⟨z, _⟩ | ⟨p, _, _, hp, _⟩
        · exact z
        · exact z
        · show n = 0; omega
      · cases ko
      · refine .inr (.inr ⟨p, kp, ?_, kn, ?_⟩)
        · rcases h3 with ⟨z, zc, _⟩ | ⟨_, z⟩ | ⟨p', hp', hpl, _, _⟩
          · refine ⟨Nat.lt_of_lt_of_le kl.1 m'.below.size, fun ho => ⟨(kl.2.1 ho).1, (kl.2.1 ho).2.1, fun j hj => ?_⟩, fun h => (by cases h)⟩
            rw [zc] at hj; simp at hj
          · cases z
          · obtain rfl := Option.some.inj (kp.symm.trans hp')
            exact ⟨hpl.1, fun ho => ⟨(hpl.2.1 ho).1, (kl.2.1 ho).2.1, by have := (hpl.2.1 ho).2.2; rw [hbv] at this; exact this⟩, fun h => (by cases h)⟩
        · intro i f k i0 i1 hk
          rcases h3 with ⟨z, _, _⟩ | ⟨_, z⟩ | ⟨p', hp', hpl, _, hcell⟩
          · have i1 : i < n := i1
            omega
          · cases z
          · obtain rfl := Option.some.inj (kp.symm.trans hp')
            have := hcell i f k i0 i1 hk
            rw [hyy i f i0 i1 (List.getElem?_eq_some_iff.1 hk).1] at this
            exact this
    · exact hden'.elim
  · exact hden'.elim
end

section
open Go Go.RowKit
abbrev IC := IPs × Con
def gamT {P : Program} (ts : List IC) (l : List (Pr P)) (f : FuncId) : Con := match ts.find? fun t => t.1.f == f with
  | some t => t.2
  | none => prCon l f
def nodupF : List Nat → Bool
  | [] => true
  | a :: l => !l.contains a && nodupF l
def FnOk (P : Program) (f : FuncId) : Prop := ∃ fn, P.funcs[f]? = some fn ∧ fn.body.isNone = false ∧ (fn.name == "runtime.NumGoroutine") = false
theorem find_nodup : ∀ {ts : List IC}, nodupF (ts.map fun t => t.1.f) = true → ∀ t ∈ ts, ts.find? (fun u => u.1.f == t.1.f) = some t
  | [], _, t, ht => by cases ht
  | u :: ts, h, t, ht => by
    simp only [List.map_cons, nodupF, Bool.and_eq_true, Bool.not_eq_true', List.contains_eq_mem, decide_eq_false_iff_not] at h
    rcases List.mem_cons.1 ht with rfl | ht
    · simp
    · have hne : (u.1.f == t.1.f) = false := by
        rw [beq_eq_false_iff_ne]
        intro he
        exact h.1 (List.mem_map.2 ⟨t, ht, he.symm⟩)
      rw [List.find?_cons, hne]
      exact find_nodup h.2 t ht
theorem gamT_ips {P : Program} {ts : List IC} (l : List (Pr P)) (hn : nodupF (ts.map fun t => t.1.f) = true) (ho : ∀ t ∈ ts, MeetsT P t.1 t.2 ∧ FnOk P t.1.f) : IPsOk P (gamT ts l) (ts.map (·.1)) := by
  intro ip hip
  obtain ⟨t, ht, rfl⟩ := List.mem_map.1 hip
  obtain ⟨h1, h2⟩ := ho t ht
  refine ⟨?_, h2⟩
  unfold gamT
  rw [find_nodup hn t ht]
  exact h1
theorem gamT_cons {P : Program} {ts : List IC} {l : List (Pr P)} {C : Cfg} (hcon : C.con = prSig l) (hd : (ts.all fun t => (prSig l t.1.f).isNone) = true) : ConsG P (fun _ => True) C (gamT ts l) := by
  intro f sig hf
  have h := prOk l hcon f sig hf
  have : gamT ts l f = prCon l f := by
    unfold gamT
    split
    · rename_i t ht
      have h1 := List.all_eq_true.1 hd t (List.mem_of_find?_eq_some ht)
      have h2 : t.1.f = f := by simpa using List.find?_some ht
      rw [hcon] at hf
      rw [h2, hf] at h1
      cases h1
    · rfl
  rw [this]; exact h
def ipSig (ip : IPs) : CSig := ⟨⟨false, [.slc ip.sh]⟩ :: List.replicate ip.k ⟨false, [.int .i64]⟩, [⟨false, [.slc ip.sh]⟩]⟩
def ipOut (ip : IPs) : List Sh := [⟨false, [.slc ip.sh]⟩]
def bodyOf (fn : Func) : Code := match fn.body with
  | some c => c
  | none => .skip
theorem meetsT_vc {P : Program} {C : Cfg} (hC : C.Ok P) {l : List (Pr P)} {ts : List IC} (hcon : C.con = prSig l) (hn : nodupF (ts.map fun t => t.1.f) = true) (hd : (ts.all fun t => (prSig l t.1.f).isNone) = true)
    (ho : ∀ t ∈ ts, MeetsT P t.1 t.2 ∧ FnOk P t.1.f) (hm : P.follows .mixedOrders = true) (hnm : ∀ f fn, C.fn f = some fn → (fn.name == "runtime.NumGoroutine") = false) (hgl : C.globL = []) {ip : IPs} {fn : Func} (hf : P.funcs[ip.f]? = some fn) (hb : fn.body.isNone = false) (fuel : Nat)
    {sig : CSig} (hs : sig.outs = ipOut ip) {pre : List AV → Prop} {raw : List AV → List AV} (hraw : ∀ (x : Int → Nat → Int) (n : Int) (zs : List Int), zs.length = ip.k → ∃ y, raw (.a x :: .i n :: zs.map .i) = [.a y, .i n])
    (h : allAV ip.ks fun avs => pre avs → (ipTree C (ts.map (·.1)) fuel ip fn (bodyOf fn)).vc (gamT ts l) (fun ρ ks outs => doneQ ρ (ipOut ip) ks outs (raw avs)) avs []) : MeetsT P ip (mkCon sig pre raw) := by
  have hc : fn.body = some (bodyOf fn) := by
    unfold bodyOf
    split
    · rename_i c hc; exact hc
    · rename_i hc; rw [hc] at hb; cases hb
  refine ipTree_sound hC (gamT_cons hcon hd) hm hnm hgl (gamT_ips l hn ho) hf hc fuel fun x n zs hzs hpre => ?_
  obtain ⟨y, hy⟩ := hraw x n zs hzs
  refine ⟨y, by show fixL (insKs sig.outs) (raw _) = _; rw [hy, hs]; rfl, ?_⟩
  have hk : KT ip.ks (.a x :: .i n :: zs.map .i) := by
    unfold IPs.ks
    rw [← hzs]
    exact kt_ints x n zs
  have := allAV_of h _ hk hpre
  refine vc_den (Q := fun ρ ks outs => doneQ ρ (ipOut ip) ks outs (raw (.a x :: .i n :: zs.map .i))) (fun ρ ks outs hq => ?_) _ _ _ this
  unfold doneQ at hq
  split at hq
  · rename_i hks
    subst hks
    rw [hy] at hq
    have e : fixL (insKs (ipOut ip)) [.a y, .i n] = [.a y, .i n] := rfl
    have hq := outQ_P (hs := (ipOut ip).flatMap (·.l)) hq
    exact hq
  · exact hq.elim
end

section
open Go Go.RowKit
variable {ρ ρ' : List AV} {β β' : Mp} {W W' : Nat → Prop} {w w' : World} {P : Program} {C : Cfg} {B : Nat} {w0 : World}
variable {Γ : FuncId → Con} {Qd : List AV → Prop}
/-- entries that are only looked at -/
def borrowE (e : HE) : HE := match e.body with
  | .cells l => ⟨false, .cells l, e.g⟩
  | .arr sh a n => ⟨false, .arr sh a n, e.g⟩
  | _ => ⟨false, .gone, e.g⟩
def S.borrow (s : S) : S := { s with heap := s.heap.map borrowE }
/-- new entries that stay -/
def keepE (e : HE) : HE := match e.own, e.body with
  | true, .cells l => ⟨true, .cells l, e.g⟩
  | true, .arr sh a n => ⟨true, .arr sh a n, e.g⟩
  | o, _ => ⟨o, .gone, e.g⟩
def S.merge (s s2 : S) : S := { s2 with heap := s.heap ++ (s2.heap.drop s.heap.length).map keepE }
/-- two pieces of code that see what was there before as borrowed -/
def subT (C : Cfg) (callF : CallF) (f : FuncId) (c1 c2 : Code) (s : S) (K : S → Tree) : Tree :=
  match s.more [] with
  | some _ => execC C callF f c1 s.borrow fun e s1 => match e with
    | .normal => execC C callF f c2 s1 fun e s2 => match e with
      | .normal => K (s.merge s2)
      | _ => .fail "sub"
    | _ => .fail "sub"
  | none => .fail "sub: names"
/-- the end of a list is set to zero; what is ahead of it stays -/
def clearT (C : Cfg) (callF : CallF) (ops : Array Oper) (s : S) (K : S → Tree) : Tree :=
  match ops.toList with
  | [o0, o1, o2, o3] =>
    match o3.op, o3.dst, o3.guard with
    | .call { callee := .builtin .clear, args := args, argTypes := ts }, none, none =>
      match args.toList, ts.toList with
      | [x], [t] =>
        execOps C callF ops [o0, o1, o2] s fun s1 =>
          match s1.val C (.bl true) x, C.ty t with
          | some (.v (.sc (.c (.slc (.blk k) sz off len none)))), some { dk := .slice e, .. } =>
            match s1.heap[k]?, C.ty e with
            | some ⟨true, .arr sh a n, .bl true⟩, some d => if sz = sh.length ∧ d.size = sz then needAll [xb .le off n] (K (s1.setBody k (.arr sh a off))) else .fail "clear: shape"
            | _, _ => .fail "clear: entry"
          | _, _ => .fail "clear: value"
      | _, _ => .fail "clear: arguments"
    | _, _, _ => .fail "clear"
  | _ => .fail "clear"
/-- a piece of code at its place: behind so many others -/
def atT (C : Cfg) (callF : CallF) (f : FuncId) (hk : Code → S → (Ex → S → Tree) → Tree) : Nat → Code → S → (Ex → S → Tree) → Tree
  | 0, c, s, K => hk c s K
  | n + 1, .seq a b, s, K => execC C callF f a s fun e s1 => match e with
    | .normal => atT C callF f hk n b s1 K
    | e => K e s1
  | _ + 1, _, _, _ => .fail "place"
def clearK (C : Cfg) (callF : CallF) (f : FuncId) : Code → S → (Ex → S → Tree) → Tree
  | .seq (.region id ops false) rest, s, K => clearT C callF ops s fun s1 => execC C callF f rest s1 K
  | _, _, _ => .fail "clear: code"
def subK (C : Cfg) (callF : CallF) (f : FuncId) : Code → S → (Ex → S → Tree) → Tree
  | .seq c1 (.seq c2 rest), s, K => subT C callF f c1 c2 s fun s1 => execC C callF f rest s1 K
  | _, _, _ => .fail "sub: code"
/-- the executor, with functions that change a list in place, and one function (at its n-th place) that clears a list's end -/
def execH (C : Cfg) (ips : List IPs) (cf cn : Nat) : Nat → CallF
  | 0 => fun _ _ _ _ => .fail "fuel"
  | n + 1 => fun f args s K => match ips.find? fun ip => ip.f == f with
    | some ip => ipStep ip args s K
    | none => match C.fn f with
      | some fn => match fn.body with
        | some c => if f = cf then execFT C (atT C (execH C ips cf cn n) f (clearK C (execH C ips cf cn n) f) cn c) fn args s K
          else execFT C (execC C (execH C ips cf cn n) f c) fn args s K
        | none => .fail "no body"
      | none => .fail "no function"
/-- a function with a part that makes a list and changes it in place (its n-th and n+1-st piece) -/
def subTree (C : Cfg) (ips : List IPs) (cf cn fuel n : Nat) (f : FuncId) (fn : Func) (sig : CSig) : Tree :=
  execL C [] (atT C (execH C ips cf cn fuel) f (subK C (execH C ips cf cn fuel) f) n (bodyOf fn)) fn sig
/-! clearing the end of a list -/
theorem clear_slice {t e ty : TypeId} {i : TypeInfo} {z : Value} (ht : P.underlying t = some (.slice e)) (hi : P.info? e = some i) (hz : i.zero = some z) (h1 : ∀ v ∈ z.cells.toList, v.oneCell' = true) {r o n c : Nat} (hn : 0 < n)
    (hc : ∀ j, j < n * z.cells.size → (w.cell? ⟨r, o + j, none⟩).isSome = true) (hf : ∀ j, j < n * z.cells.size → w.frozen? ⟨r, o + j, none⟩ = false) :
    (Builtin.clear_ #[t] ty #[.slice (some ⟨r, o, none⟩) n c]).run P w = .ok (.tuple #[]) (w.setCells r o (Builtin.zeroCells z.cells n).toList) := by
  have hlen : (Builtin.zeroCells z.cells n).toList.length = n * z.cells.size := by simp [size_zeroCells]
  have hst := run_storeCells_cells (P := P) r o (Builtin.zeroCells z.cells n).toList 0 w (by rw [hlen]; simpa using hc) (by rw [hlen]; simpa using hf) (fun v hv => by
    unfold Builtin.zeroCells at hv
    simp only [Array.toList_map, List.mem_map] at hv
    obtain ⟨j, hj, rfl⟩ := hv
    have hj : j < n * z.cells.size := by simpa using hj
    have h0 : 0 < z.cells.size := by
      rcases Nat.eq_zero_or_pos z.cells.size with h | h
      · rw [h] at hj; omega
      · exact h
    have hlt := Nat.mod_lt j h0
    rw [getElem!_pos z.cells _ hlt]
    exact h1 _ (by simp))
  rw [Nat.add_zero] at hst
  obtain ⟨m, rfl⟩ : ∃ m, n = m + 1 := ⟨n - 1, by omega⟩
  simp [Builtin.clear_, run_underlying ht, zeroValue, typeInfo, hi, hz, hst]
theorem run_clear {o : Oper} {a : Act} {args : Array Operand} {ts : Array TypeId} {x : Operand} {t : TypeId} (ho : o.op = .call { callee := .builtin .clear, args := args, argTypes := ts }) (hx : args.toList = [x]) (ht : ts.toList = [t]) {u : Value}
    (h : (Builtin.clear_ #[t] o.type #[a.eval x]).run P w = .ok u w') : (execOp a.eval o).run P w = .ok (.value u) w' := by
  have hx : args = #[x] := by rw [← hx]
  have ht : ts = #[t] := by rw [← ht]
  subst hx ht
  unfold execOp
  simp only [ho, resolve, invoke, builtin, Sem.run_bind, Sem.run_pure, Result.andThen_ok, List.map_toArray, List.map_cons, List.map_nil, h]
/-- the entry, its end cleared -/
theorem clear_entry {t e ty : TypeId} {d : TD} (ht : P.underlying t = some (.slice e)) (hd : TOk P e d) {b : BI} {sh : List FK} {a n off len : X} (hE : EOk ρ β W w b ⟨true, .arr sh a n, .bl true⟩) (hsz : d.size = sh.length) {k : Nat} (hb : β k = some b) {v : Value} (hv : (Sc0.slc (.blk k) sh.length off len none).rel ρ β v) (hle : off.I ρ ≤ n.I ρ) :
    ∃ w', (Builtin.clear_ #[t] ty #[v]).run P w = .ok (.tuple #[]) w' ∧ EOk ρ β W w' b (ent true (.arr sh a off)) ∧ (w' = w ∨ ∃ r, b.own r ∧ But r w w' ∧ (∀ B, B ≤ r → Below B w w') ∧ w'.heap.size = w.heap.size) := by
  obtain ⟨p0, c, q, r, h1, rfl, h3, h4, h5, h6, h7, h8, h9, _, h11⟩ := hv
  have h11 := h11 rfl
  simp only [SB.at, hb, Option.map_some, Option.some.injEq, Prod.mk.injEq] at h1
  obtain ⟨rfl, rfl⟩ := h1
  have hS := arr_short (n' := off) h3 hle hE
  by_cases h0 : (len.I ρ).toNat = 0
  · refine ⟨w, ?_, hS, .inl rfl⟩
    rw [h0]
    cases q <;> simp [Builtin.clear_, run_underlying ht]
  · obtain ⟨i, u, z, hi, _, hsize, _, hdl, _, hz, hlits, _⟩ := hd.facts
    have hrel := litsB_rel (ρ := ρ) (β := β) hlits
    have hzs : z.cells.size = sh.length := by
      have := hrel.length
      simp only [Array.length_toList] at this
      omega
    have hE0 := hE rfl
    simp only at hE0
    obtain ⟨_, _, e2, hE3⟩ := hE0
    have hr0 : r ≠ 0 := by omega
    rcases hE3 with ⟨_, hc0, _⟩ | ⟨_, hc0⟩ | ⟨p, hp, hpl, hn, hcell⟩
    · rw [hc0] at h11; omega
    · cases hc0
    · obtain ⟨hpe, hown, hroom⟩ := hpl.2.1 rfl
      have hq : q = some ⟨p.block, (off.I ρ).toNat * sh.length, none⟩ := by
        rcases h8 with h8 | h8
        · omega
        · rw [h8, hp, Option.map_some, hpe, add0]
      rw [hq]
      have hin : ∀ j, j < (len.I ρ).toNat * z.cells.size → (off.I ρ).toNat * sh.length + j < b.v.cap * b.v.sz := fun j hj => by
        rw [hzs] at hj
        rw [← h11, e2, Nat.add_mul]
        have : (len.I ρ).toNat * sh.length ≤ r * sh.length := Nat.mul_le_mul_right _ h5
        omega
      have hrun := clear_slice (P := P) (w := w) (ty := ty) ht hi hz (all_one hrel) (r := p.block) (o := (off.I ρ).toNat * sh.length) (n := (len.I ρ).toNat) (c := r) (by omega)
        (fun j hj => by obtain ⟨v, hv, _⟩ := hroom _ (hin j hj); rw [hv]; rfl) (fun j hj => by obtain ⟨v, _, hv⟩ := hroom _ (hin j hj); exact hv)
      refine ⟨_, hrun, ?_, .inr ⟨p.block, hown, but_setCells _ _ _ _, fun B hB => below_setCells w _ hB _ _ _, size_setCells _ _ _ _⟩⟩
      generalize hvs : (Builtin.zeroCells z.cells (len.I ρ).toNat).toList = vs
      have hlen : vs.length = (len.I ρ).toNat * z.cells.size := by rw [← hvs]; simp [size_zeroCells]
      have hS0 := hS rfl
      simp only at hS0
      obtain ⟨s0, s1, s2, _⟩ := hS0
      intro _
      refine ⟨s0, s1, s2, .inr (.inr ⟨p, hp, ⟨by rw [size_setCells]; exact hpl.1, fun _ => ⟨hpe, hown, fun j hj => ?_⟩, fun hh => by cases hh⟩, by omega, fun i f kk i0 i1 hk => ?_⟩)⟩
      · obtain ⟨v, hv1, hv2⟩ := hroom j hj
        rw [World.frozen?_setCells]
        by_cases hb : (off.I ρ).toNat * sh.length ≤ j ∧ j < (off.I ρ).toNat * sh.length + vs.length
        · have := World.cell?_setCells_in p.block vs ((off.I ρ).toNat * sh.length) w (fun j hj => by obtain ⟨v, hv, _⟩ := hroom _ (hin j (by rw [← hlen]; exact hj)); rw [hv]; rfl) (j - (off.I ρ).toNat * sh.length) (by omega)
          rw [show (off.I ρ).toNat * sh.length + (j - (off.I ρ).toNat * sh.length) = j by omega] at this
          exact ⟨_, this, hv2⟩
        · rw [World.cell?_setCells_out p.block vs _ w _ (fun _ _ => by simp; omega)]
          exact ⟨v, hv1, hv2⟩
      · have hc := hcell i f kk i0 (by omega) hk
        have hf : f < sh.length := (List.getElem?_eq_some_iff.1 hk).1
        have hlt : i.toNat * sh.length + f < (off.I ρ).toNat * sh.length := by
          have h1 : i.toNat + 1 ≤ (off.I ρ).toNat := by omega
          have h2 := Nat.mul_le_mul_right sh.length h1
          rw [Nat.add_mul] at h2
          omega
        rw [hpe, add0] at hc ⊢
        refine ⟨?_, fun _ => ?_⟩
        · rw [World.cell?_setCells_out p.block vs _ w _ (fun _ _ => by simp; omega)]; exact hc.1
        · rw [World.frozen?_setCells]; exact hc.2 rfl
theorem clearT_sound {ctx : List (List AV → Prop)} {s : S} {a : Act} {ops : Array Oper} (hC : C.Ok P) (hΓ : ConsOk P C Γ B w0) {callF : CallF} (hF : CallOk P C Γ Qd B w0 callF) {Q : Exit → Act → World → Prop} {id : Nat} {K : S → Tree}
    (hlv : ctx.length = s.lvl) (m : Mem C B w0 ρ β W s w) (fr : Fr ρ β s a) (hden : (clearT C callF ops s K).den Γ Qd ρ ctx) (hK : Onw C B w0 Γ Qd ctx ρ β s a.defers K (fun a w => Q .normal a w)) : (Code.region id ops false).wp P Q a w := by
  refine wp_region_list ?_
  unfold clearT at hden
  split at hden
  · rename_i o0 o1 o2 o3 hops
    split at hden
    · rename_i args ts h3 hd3 hg3
      split at hden
      · rename_i x t hx ht
        rw [hops]
        refine wpList_step fun K0 hK0 => oper_sound hC hΓ hF hlv m fr hden fun ρ1 β1 W1 s1 a1 w1 c1 x1 lv1 m1 f1 l1 e1 den1 => hK0 _ _ ?_
        refine wpList_step fun K1 hK1 => oper_sound hC hΓ hF lv1 m1 f1 den1 fun ρ2 β2 W2 s2 a2 w2 c2 x2 lv2 m2 f2 l2 e2 den2 => hK1 _ _ ?_
        refine wpList_step fun K2 hK2 => oper_sound hC hΓ hF lv2 m2 f2 den2 fun ρ3 β3 W3 s3 a3 w3 c3 x3 lv3 m3 f3 l3 e3 den3 => hK2 _ _ ?_
        split at den3
        · rename_i k sz off len e sz0 b0 z0 el0 pl0 hv htd
          split at den3
          · rename_i sh aa n d hk hd
            split at den3
            · rename_i hc
              obtain ⟨rfl, hds⟩ := hc
              obtain ⟨hnd, den4⟩ := needAll_den den3
              have hle := le_of (hnd (xb .le off n) (by simp))
              have hkl : k < s3.heap.length := (List.getElem?_eq_some_iff.1 hk).1
              obtain ⟨b, hb⟩ := m3.all k hkl
              have hrel := val_rel m3.facts rfl m3.glob (opd_of_fr f3 x) hv
              obtain ⟨w', hrun, hE, hw'⟩ := clear_entry (ty := o3.type) (slice_dk (hC.ty _ _ htd) rfl) (hC.ty _ _ hd) (m3.heap k _ b hk hb) hds hb hrel hle
              refine wpList_step fun K3 hK3 => ?_
              have hw3 : Region.wanted o3 (yielded ops a3.tmps) = true := by simp [Region.wanted, hg3]
              rw [hw3, if_pos rfl]
              unfold Oper.wp
              rw [run_clear h3 hx ht hrun, Oper.upon_value]
              refine hK3 _ _ (wpList_nil ?_)
              rw [hd3]
              have hm : Mem C B w0 ρ3 β3 W3 (s3.setBody k (.arr sh aa off)) w' := by
                rcases hw' with rfl | ⟨r, ho, hbut, hbel, hsz⟩
                · refine ⟨⟨m3.below, m3.size, m3.wlo, fun k' e' b' hk' hb' => ?_, m3.dist, m3.own, m3.glob⟩, fun k' hk' => m3.all k' (by rw [setBody_len] at hk'; exact hk'), fun k' hk' => m3.top k' (by rw [setBody_len] at hk'; exact hk'), m3.facts, m3.kt⟩
                  simp only [S.H, S.setBody, setF_eq, List.getElem?_set] at hk'
                  split at hk'
                  · rename_i heq
                    subst heq
                    obtain rfl := Option.some.inj (hb'.symm.trans hb)
                    obtain rfl := Option.some.inj hk'
                    exact hE
                  · exact m3.heap k' e' b' hk' hb'
                · exact m3.write hk hb ho hbut (hbel _ (m3.wlo r (m3.own k b r hb ho)).1) hsz hE
              obtain ⟨d1, rfl⟩ := x1
              obtain ⟨d2, rfl⟩ := x2
              obtain ⟨d3, rfl⟩ := x3
              refine hK ρ3 β3 W3 (s3.setBody k (.arr sh aa off)) _ w' _ ⟨d1 ++ d2 ++ d3, by simp [List.append_assoc]⟩ lv3 hm ⟨f3.1, f3.2⟩ ?_ (by rw [put_defers, e3, e2, e1]) den4
              have l := (l1.trans l2).trans l3
              exact ⟨l.env, l.ks, by rw [setBody_len]; exact l.len, l.map⟩
            · exact den3.elim
          · exact den3.elim
        · exact den3.elim
      · exact hden.elim
    · exact hden.elim
  · exact hden.elim
/-! a part that borrows what was there before -/
def borrowM (β : Mp) : Mp := fun k => (β k).map strip
theorem borrow_ext (β : Mp) : Ext β (borrowM β) := fun k b hb => ⟨strip b, by unfold borrowM; rw [hb]; rfl, rfl⟩
theorem borrow_EOk {b : BI} {e : HE} (h : EOk ρ β W w b e) : EOk ρ (borrowM β) (fun _ => False) w (strip b) (borrowE e) := by
  unfold borrowE
  split
  · rename_i l hl
    intro hg
    have h := h hg
    rw [hl] at h
    obtain ⟨p, h1, h2, h3⟩ := h
    refine ⟨p, h1, ⟨h2.1, fun h => (by cases h), fun _ h => h⟩, fun j c hj => ?_⟩
    obtain ⟨v, h4, h5⟩ := h3 j c hj
    exact ⟨v, ⟨h4.1, fun h => by cases h⟩, Sc.rel_ext (borrow_ext β) h5⟩
  · rename_i sh a n hl
    intro hg
    have h := h hg
    rw [hl] at h
    obtain ⟨h1, h2, h3, h4⟩ := h
    refine ⟨h1, h2, h3, ?_⟩
    rcases h4 with ⟨z, zc, _⟩ | ⟨z, _⟩ | ⟨p, hp, hpl, hn, hcell⟩
    · exact .inl ⟨z, zc, rfl⟩
    · exact .inr (.inl ⟨z, rfl⟩)
    · exact .inr (.inr ⟨p, hp, ⟨hpl.1, fun h => (by cases h), fun _ h => h⟩, hn, fun i f k i0 i1 hk => ⟨(hcell i f k i0 i1 hk).1, fun h => by cases h⟩⟩)
  · exact fun _ => trivial
theorem borrow_mem {s : S} (m : Mem C B w0 ρ β W s w) : Mem C w.heap.size w ρ (borrowM β) (fun _ => False) s.borrow w := by
  have hlen : s.borrow.heap.length = s.heap.length := by simp [S.borrow]
  refine ⟨⟨Below.refl _ _, Nat.le_refl _, fun r h => h.elim, fun k e b hk hb => ?_, fun k k' b b' r hb _ ho => ?_, fun k b r hb ho => ?_, fun g k hg => ?_⟩, fun k hk => ?_, fun k hk => ?_, m.facts, m.kt⟩
  · have hk2 : (s.heap.map borrowE)[k]? = some e := hk
    rw [List.getElem?_map, Option.map_eq_some_iff] at hk2
    obtain ⟨e0, hk3, rfl⟩ := hk2
    unfold borrowM at hb
    rw [Option.map_eq_some_iff] at hb
    obtain ⟨b0, hb, rfl⟩ := hb
    exact borrow_EOk (m.heap k e0 b0 hk3 hb)
  · unfold borrowM at hb
    rw [Option.map_eq_some_iff] at hb
    obtain ⟨b0, _, rfl⟩ := hb
    exact ho.elim
  · unfold borrowM at hb
    rw [Option.map_eq_some_iff] at hb
    obtain ⟨b0, _, rfl⟩ := hb
    exact ho.elim
  · obtain ⟨b1, h1, h2⟩ := m.glob g k hg
    exact ⟨strip b1, by unfold borrowM; rw [h1]; rfl, h2⟩
  · rw [hlen] at hk
    obtain ⟨b, hb⟩ := m.all k hk
    exact ⟨strip b, by unfold borrowM; rw [hb]; rfl⟩
  · rw [hlen] at hk
    unfold borrowM
    rw [m.top k hk]; rfl
theorem keep_EOk {b : BI} {e : HE} (h : EOk ρ β W w b e) : EOk ρ β W' w b (keepE e) := by
  unfold keepE
  split
  · rename_i l hl ho
    intro hg
    have h := h hg
    rw [hl] at h
    rw [ho] at h
    obtain ⟨p, h1, h2, h3⟩ := h
    exact ⟨p, h1, ⟨h2.1, h2.2.1, fun h => by cases h⟩, h3⟩
  · rename_i sh a n hl ho
    intro hg
    have h := h hg
    rw [hl] at h
    rw [ho] at h
    obtain ⟨h1, h2, h3, h4⟩ := h
    refine ⟨h1, h2, h3, ?_⟩
    rcases h4 with h4 | h4 | ⟨p, hp, hpl, hn, hcell⟩
    · exact .inl h4
    · exact .inr (.inl h4)
    · exact .inr (.inr ⟨p, hp, ⟨hpl.1, hpl.2.1, fun h => by cases h⟩, hn, hcell⟩)
  · exact fun _ => trivial
theorem KT.drop {ks d : List VK} {ρ δ : List AV} (h0 : KT ks ρ) (h : KT (ks ++ d) (ρ ++ δ)) : KT d δ := by
  refine ⟨by have := h.1; have := h0.1; simp at *; omega, fun i k hk => ?_⟩
  have h1 := h.2 (ks.length + i) k (by rw [List.getElem?_append_right (by omega)]; simpa using hk)
  have e : (ρ ++ δ).getD (ks.length + i) (.i 0) = δ.getD i (.i 0) := by
    rw [← h0.1, List.getD_eq_getElem?_getD, List.getElem?_append_right (by omega), List.getD_eq_getElem?_getD]
    simp
  rw [e] at h1
  exact h1
def mergeM (n : Nat) (β β2 : Mp) : Mp := fun k => if k < n then β k else β2 k
theorem merge_mem {s s1 s2 : S} {w2 : World} {δ : List AV} {β2 : Mp} {W2 : Nat → Prop} (hs1 : s.more [] = some s1) (m : Mem C B w0 ρ β W s w) (m2 : Mem C w.heap.size w (ρ ++ δ) β2 W2 s2 w2) (l : Later ρ (borrowM β) s.borrow (ρ ++ δ) β2 s2) :
    Mem C B w0 (ρ ++ δ) (mergeM s.heap.length β β2) (fun r => W r ∨ W2 r) (s.merge s2) w2 ∧ Ext β2 (mergeM s.heap.length β β2) := by
  obtain ⟨d, hd⟩ := l.ks
  have hd : s2.ks = s.ks ++ d := hd
  have hkt : KT d δ := by
    have := m2.kt
    rw [hd] at this
    exact KT.drop m.kt this
  have hmore : s.more d = some { s with ks := s.ks ++ d } := by
    unfold S.more at hs1 ⊢
    split at hs1
    · rename_i h; rw [if_pos h]
    · cases hs1
  obtain ⟨_, mm⟩ := m.more hmore hkt
  have hlb : s.borrow.heap.length = s.heap.length := by simp [S.borrow]
  have hll : s.heap.length ≤ s2.heap.length := by have := l.len; rw [hlb] at this; exact this
  have hext : Ext β2 (mergeM s.heap.length β β2) := by
    intro k b hb
    unfold mergeM
    by_cases hk : k < s.heap.length
    · obtain ⟨b0, hb0⟩ := m.all k hk
      obtain ⟨b', hb', hv⟩ := l.map k (strip b0) (by rw [hlb]; exact hk) (by unfold borrowM; rw [hb0]; rfl)
      obtain rfl := Option.some.inj (hb.symm.trans hb')
      exact ⟨b0, by rw [if_pos hk]; exact hb0, hv.symm⟩
    · exact ⟨b, by rw [if_neg hk]; exact hb, rfl⟩
  have hx0 : Ext β (mergeM s.heap.length β β2) := by
    intro k b hb
    have hk : k < s.heap.length := by
      rcases Nat.lt_or_ge k s.heap.length with h | h
      · exact h
      · rw [m.top k h] at hb; cases hb
    exact ⟨b, by unfold mergeM; rw [if_pos hk]; exact hb, rfl⟩
  have hb2 : Below w.heap.size w w2 := m2.below
  have hlen : (s.merge s2).heap.length = s2.heap.length := by simp [S.merge]; omega
  refine ⟨⟨⟨m.below.trans (hb2.mono m.size), Nat.le_trans m.size m2.size, fun r hr => ?_, fun k e b hk hb => ?_, fun k k' b b' r hb hb' ho ho' => ?_, fun k b r hb ho => ?_, fun g k hg => ?_⟩, fun k hk => ?_, fun k hk => ?_, m2.facts, m2.kt⟩, hext⟩
  · rcases hr with hr | hr
    · exact ⟨(m.wlo r hr).1, Nat.lt_of_lt_of_le (m.wlo r hr).2 m2.size⟩
    · exact ⟨Nat.le_trans m.size (m2.wlo r hr).1, (m2.wlo r hr).2⟩
  · have hk2 : (s.heap ++ (s2.heap.drop s.heap.length).map keepE)[k]? = some e := hk
    unfold mergeM at hb
    by_cases hlt : k < s.heap.length
    · rw [if_pos hlt] at hb
      rw [List.getElem?_append_left hlt] at hk2
      exact (mm.heap k e b hk2 hb).below hb2 (fun r hr => by
        rcases hr with hr | hr
        · exact .inl hr
        · exact .inr (m2.wlo r hr).1) hx0
    · rw [if_neg hlt] at hb
      rw [List.getElem?_append_right (by omega), List.getElem?_map, Option.map_eq_some_iff] at hk2
      obtain ⟨e0, hk2, rfl⟩ := hk2
      rw [List.getElem?_drop, show s.heap.length + (k - s.heap.length) = k by omega] at hk2
      exact (keep_EOk (W' := fun r => W r ∨ W2 r) (m2.heap k e0 b hk2 hb)).below (Below.refl _ _) (fun r hr => .inl hr) hext
  · unfold mergeM at hb hb'
    split at hb
    · split at hb'
      · exact m.dist k k' b b' r hb hb' ho ho'
      · have h1 := m.wlo r (m.own k b r hb ho)
        have h2 := m2.wlo r (m2.own k' b' r hb' ho')
        omega
    · split at hb'
      · have h1 := m.wlo r (m.own k' b' r hb' ho')
        have h2 := m2.wlo r (m2.own k b r hb ho)
        omega
      · exact m2.dist k k' b b' r hb hb' ho ho'
  · unfold mergeM at hb
    split at hb
    · exact .inl (m.own k b r hb ho)
    · exact .inr (m2.own k b r hb ho)
  · obtain ⟨b1, h1, h2⟩ := m.glob g k hg
    obtain ⟨b', h3, h4⟩ := hx0 k b1 h1
    exact ⟨b', h3, by rw [h4]; exact h2⟩
  · rw [hlen] at hk
    unfold mergeM
    split
    · rename_i h; exact m.all k h
    · exact m2.all k hk
  · rw [hlen] at hk
    unfold mergeM
    rw [if_neg (by omega)]
    exact m2.top k hk
theorem subT_sound {ctx : List (List AV → Prop)} {s : S} {a : Act} (hC : C.Ok P) (hΓ : ∀ B w0, ConsOk P C Γ B w0) (hm : P.follows .mixedOrders = true) {callF : CallF} (hF : ∀ B w0, CallOk P C Γ Qd B w0 callF) (f : FuncId) {Q : Exit → Act → World → Prop} {c1 c2 : Code} {K : S → Tree}
    (hlv : ctx.length = s.lvl) (m : Mem C B w0 ρ β W s w) (fr : Fr ρ β s a) (hden : (subT C callF f c1 c2 s K).den Γ Qd ρ ctx) {rest : Code} (hK : ∀ ρ' β' W' s' a' w' ctx', (∃ d, ctx' = ctx ++ d) → ctx'.length = s'.lvl → Mem C B w0 ρ' β' W' s' w' → Fr ρ' β' s' a' → Later ρ β s ρ' β' s' → a'.defers = a.defers → (K s').den Γ Qd ρ' ctx' → rest.wp P Q a' w') :
    (Code.seq c1 (.seq c2 rest)).wp P Q a w := by
  unfold subT at hden
  split at hden
  · rename_i s0 hs0
    have mb := borrow_mem m
    have fb : Fr ρ (borrowM β) s.borrow a := Fr.ext (borrow_ext β) fr rfl
    refine wp_seq (execC_sound hC (hΓ _ _) hm (hF _ _) f c1 ctx s.borrow ρ (borrowM β) _ a w _ _ hlv mb fb hden fun e => ?_)
    intro ρ1 β1 W1 s1 a1 w1 ctx1 hc1 hlv1 m1 fr1 hl1 hd1 hden1
    cases e with
    | normal =>
      refine wp_seq (execC_sound hC (hΓ _ _) hm (hF _ _) f c2 ctx1 s1 ρ1 β1 W1 a1 w1 _ _ hlv1 m1 fr1 hden1 fun e => ?_)
      intro ρ2 β2 W2 s2 a2 w2 ctx2 hc2 hlv2 m2 fr2 hl2 hd2 hden2
      cases e with
      | normal =>
        have hl := hl1.trans hl2
        obtain ⟨δ, hδ⟩ := hl.env
        subst hδ
        obtain ⟨mm, hx⟩ := merge_mem hs0 m m2 hl
        obtain ⟨d1, rfl⟩ := hc1
        obtain ⟨d2, rfl⟩ := hc2
        refine hK _ _ _ (s.merge s2) a2 w2 _ ⟨d1 ++ d2, by rw [List.append_assoc]⟩ hlv2 mm (Fr.ext hx fr2 rfl) ⟨⟨δ, rfl⟩, hl.ks, by simp [S.merge], fun k b hk hb => ⟨b, by unfold mergeM; rw [if_pos hk]; exact hb, rfl⟩⟩ (by rw [hd2, hd1]) hden2
      | exit _ => exact hden2.elim
      | ret => exact hden2.elim
    | exit _ => exact hden1.elim
    | ret => exact hden1.elim
  · exact hden.elim
theorem clearK_sound (hC : C.Ok P) (hΓ : ConsOk P C Γ B w0) (hm : P.follows .mixedOrders = true) {callF : CallF} (hF : CallOk P C Γ Qd B w0 callF) (f : FuncId) (c : Code) : CodeOk P C Γ Qd B w0 c (clearK C callF f c) := by
  intro ctx s ρ β W a w K Q hlv m fr hden hK
  unfold clearK at hden
  split at hden
  · rename_i id ops rest
    refine wp_seq (clearT_sound hC hΓ hF hlv m fr hden ?_)
    intro ρ2 β2 W2 s2 a2 w2 ctx2 hc2 hlv2 m2 fr2 hl2 hd2 hden2
    exact execC_sound hC hΓ hm hF f rest ctx2 s2 ρ2 β2 W2 a2 w2 K Q hlv2 m2 fr2 hden2 (by
      rw [hd2]
      exact hK.step hc2 hl2)
  · exact hden.elim
theorem subK_sound (hC : C.Ok P) (hΓ : ∀ B w0, ConsOk P C Γ B w0) (hm : P.follows .mixedOrders = true) {callF : CallF} (hF : ∀ B w0, CallOk P C Γ Qd B w0 callF) (f : FuncId) (c : Code) : CodeOk P C Γ Qd B w0 c (subK C callF f c) := by
  intro ctx s ρ β W a w K Q hlv m fr hden hK
  unfold subK at hden
  split at hden
  · rename_i c1 c2 rest
    refine subT_sound hC hΓ hm hF f hlv m fr hden ?_
    intro ρ2 β2 W2 s2 a2 w2 ctx2 hc2 hlv2 m2 fr2 hl2 hd2 hden2
    exact execC_sound hC (hΓ _ _) hm (hF _ _) f rest ctx2 s2 ρ2 β2 W2 a2 w2 K Q hlv2 m2 fr2 hden2 (by
      rw [hd2]
      exact hK.step hc2 hl2)
  · exact hden.elim
theorem atT_sound (hC : C.Ok P) (hΓ : ConsOk P C Γ B w0) (hm : P.follows .mixedOrders = true) {callF : CallF} (hF : CallOk P C Γ Qd B w0 callF) (f : FuncId) {hk : Code → S → (Ex → S → Tree) → Tree} (hh : ∀ c, CodeOk P C Γ Qd B w0 c (hk c)) : ∀ (n : Nat) (c : Code), CodeOk P C Γ Qd B w0 c (atT C callF f hk n c)
  | 0, c => hh c
  | n + 1, c => by
    intro ctx s ρ β W a w K Q hlv m fr hden hK
    cases c with
    | seq x y =>
      simp only [atT] at hden
      refine wp_seq (execC_sound hC hΓ hm hF f x ctx s ρ β W a w _ _ hlv m fr hden fun e => ?_)
      intro ρ' β' W' s' a' w' ctx' hc hlv' m' fr' hl' hd' hden'
      cases e with
      | normal => exact atT_sound hC hΓ hm hF f hh n y ctx' s' ρ' β' W' a' w' K Q hlv' m' fr' hden' (by rw [hd']; exact hK.step hc hl')
      | exit id => exact hK (.exit id) ρ' β' W' s' a' w' ctx' hc hlv' m' fr' hl' hd' hden'
      | ret => exact hK .ret ρ' β' W' s' a' w' ctx' hc hlv' m' fr' hl' hd' hden'
    | _ => exact hden.elim
theorem execH_sound (hC : C.Ok P) (hΓ : ConsOk P C Γ B w0) (hm : P.follows .mixedOrders = true) (hnm : ∀ f fn, C.fn f = some fn → (fn.name == "runtime.NumGoroutine") = false) {ips : List IPs} (hips : IPsOk P Γ ips) (cf cn : Nat) : ∀ n, CallOk P C Γ Qd B w0 (execH C ips cf cn n)
  | 0 => fun f args s K ρ β W w ctx vals m hr hlv hden => (show False from hden).elim
  | n + 1 => fun f args s K ρ β W w ctx vals m hr hlv hden => by
    simp only [execH] at hden
    split at hden
    · rename_i ip hip
      obtain ⟨h1, h2⟩ := hips ip (List.mem_of_find?_eq_some hip)
      have hf : ip.f = f := by simpa using List.find?_some hip
      subst hf
      exact ⟨h2, ipStep_sound h1 args s K ρ β W w ctx vals m hr hlv hden⟩
    · split at hden
      · rename_i fn hfn
        split at hden
        · rename_i c hc
          have hf := hC.fn _ _ hfn
          have ih := execH_sound hC hΓ hm hnm hips cf cn n
          refine ⟨⟨fn, hf, by rw [hc]; rfl, hnm _ _ hfn⟩, ?_⟩
          split at hden
          · exact execFT_sound hC hf hc (atT_sound hC hΓ hm ih f (fun c => clearK_sound hC hΓ hm ih f c) cn c) args s K ρ β W w ctx vals m hr hlv hden
          · exact execFT_sound hC hf hc (fun ctx s ρ β W a w K Q => execC_sound hC hΓ hm ih f c ctx s ρ β W a w K Q) args s K ρ β W w ctx vals m hr hlv hden
        · exact hden.elim
      · exact hden.elim
/-- **what is left to show gives the contract** of a function with a part that makes a list and changes it in place -/
theorem sub_vc {l : List (Pr P)} {ts : List IC} (hC : C.Ok P) (hcon : C.con = prSig l) (hn : nodupF (ts.map fun t => t.1.f) = true) (hd : (ts.all fun t => (prSig l t.1.f).isNone) = true)
    (ho : ∀ t ∈ ts, MeetsT P t.1 t.2 ∧ FnOk P t.1.f) (hm : P.follows .mixedOrders = true) (hnm : ∀ f fn, C.fn f = some fn → (fn.name == "runtime.NumGoroutine") = false) (hgl : C.globL = []) {sig : CSig} (hok : (sig.ins.all (fun h => h.l.all Sh0.okB)) = true) {f : FuncId} {fn : Func} (hf : P.funcs[f]? = some fn) (hb : fn.body.isNone = false) (cf cn fuel n : Nat)
    {pre : List AV → Prop} {raw : List AV → List AV}
    (h : allAV (insKs sig.ins) fun avs => pre avs → (subTree C (ts.map (·.1)) cf cn fuel n f fn sig).vc (gamT ts l) (fun ρ ks outs => doneQ ρ sig.outs ks outs (raw avs)) avs []) : Meets P (mkCon sig pre raw) f sig := by
  have hc : fn.body = some (bodyOf fn) := by
    unfold bodyOf
    split
    · rename_i c hc; exact hc
    · rename_i hc; rw [hc] at hb; cases hb
  have hG : ConsG P (fun _ => True) C (gamT ts l) := gamT_cons hcon hd
  have hΓ : ∀ B w0, ConsOk P C (gamT ts l) B w0 := fun B w0 f sig h => ⟨fun args avs w' hb hrd hp => (hG f sig h).1 args avs w' trivial hrd hp, (hG f sig h).2⟩
  have hF : ∀ Qd B w0, CallOk P C (gamT ts l) Qd B w0 (execH C (ts.map (·.1)) cf cn fuel) := fun Qd B w0 => execH_sound hC (hΓ B w0) hm hnm (gamT_ips l hn ho) cf cn fuel
  refine meets_vcL (G := fun _ => True) (globs := []) (fun _ _ _ _ => trivial) (fun w _ => ⟨[], rfl, fun b hb => by simp at hb, fun j e b hj => by simp at hj, fun g k hg => by simp [Cfg.glob, hgl] at hg⟩) hC hG hok hf hc (fun w _ _ Qd => ?_) h
  exact atT_sound hC (hΓ _ _) hm (hF _ _ _) f (fun c => subK_sound hC hΓ hm (hF Qd) f c) n (bodyOf fn)
end
end
end Go.Proofs.Ytpbpmabnmakdoaa.Vc
