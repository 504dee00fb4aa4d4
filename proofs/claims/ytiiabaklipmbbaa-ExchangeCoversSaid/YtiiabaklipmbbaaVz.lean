/- The symbolic executor: what its tree asks gives the contract. -/
import Derived.Test.YtiiabaklipmbbaaVk
namespace Go.Proofs.Ytiiabaklipmbbaa.Vc
noncomputable section
open Go Go.RowKit
variable {ρ ρ' : List AV} {β β' : Mp} {W W' : Nat → Prop} {w w' : World} {P : Program} {C : Cfg} {B : Nat} {w0 : World}
variable {Γ : FuncId → Con} {Qd : List AV → Prop}

/-! what comes in -/
theorem outOf_ks : ∀ (hs : List Sh0) (n k : Nat), (outOf n k hs).2.2 = shKs hs
  | [], _, _ => rfl
  | .int kd :: l, n, k => by simp [outOf, outOf_ks l, shKs, Sh0.ks]
  | .bool :: l, n, k => by simp [outOf, outOf_ks l, shKs, Sh0.ks]
  | .slc sh :: l, n, k => by simp [outOf, outOf_ks l, shKs, Sh0.ks]
  | .mat sh :: l, n, k => by simp [outOf, outOf_ks l, shKs, Sh0.ks]
theorem outsL_ks : ∀ (hs : List Sh) (n k : Nat), (outsL n k hs).2.2 = insKs hs
  | [], _, _ => rfl
  | h :: l, n, k => by simp [outsL, outOf_ks, outsL_ks l, insKs]
def theirs (e : HE) : HE := { e with own := false }
structure InOk (ρ : List AV) (w : World) (k : Nat) (cs : List Sc) (es : List HE) (ks : List VK) (vs : List Value) (l : List AV) (bs : List BI) : Prop where
  len : l.length = ks.length
  fix : fixL ks l = l
  elen : es.length = bs.length
  own : ∀ b ∈ bs, b.own = none
  oks : ∀ (j : Nat) e b, es[j]? = some e → bs[j]? = some b → ∀ β, EOk ρ β (fun _ => False) w b (theirs e)
  rel : ∀ β, Maps β k bs → RelL (Sc.rel ρ β) cs vs
theorem InOk.cons1 {k : Nat} {cs : List Sc} {es : List HE} {ks : List VK} {vs : List Value} {l : List AV} {bs : List BI} (q : InOk ρ w k cs es ks vs l bs) {c : Sc} {kd : VK} {v : Value} {x : AV} (hx : kd.fix x = x) (hr : ∀ β, c.rel ρ β v) : InOk ρ w k (c :: cs) es (kd :: ks) (v :: vs) (x :: l) bs :=
  ⟨by simp [q.len], by simp [fixL, hx, q.fix], q.elen, q.own, q.oks, fun β hm => ⟨hr β, q.rel β hm⟩⟩
theorem InOk.cons2 {k : Nat} {cs : List Sc} {es : List HE} {ks : List VK} {vs : List Value} {l : List AV} {bs : List BI} (q : InOk ρ w (k + 1) cs es ks vs l bs) {c : Sc} {e : HE} {b : BI} {k1 k2 : VK} {v : Value} {x y : AV} (hx : k1.fix x = x) (hy : k2.fix y = y) (ho : b.own = none) (he : ∀ β, EOk ρ β (fun _ => False) w b (theirs e)) (hr : ∀ β, β k = some b → c.rel ρ β v) :
    InOk ρ w k (c :: cs) (e :: es) (k1 :: k2 :: ks) (v :: vs) (x :: y :: l) (b :: bs) :=
  ⟨by simp [q.len], by simp [fixL, hx, hy, q.fix], by simp [q.elen], fun b' hb => by rcases List.mem_cons.1 hb with rfl | hb; exact ho; exact q.own b' hb, fun j e' b' he' hb' β => by
    cases j with
    | zero => simp at he' hb'; subst he' hb'; exact he β
    | succ j => exact q.oks j e' b' (by simpa using he') (by simpa using hb') β, fun β hm => ⟨hr β (hm 0 b rfl), q.rel β fun j b' hb' => by
      have := hm (j + 1) b' (by simpa using hb')
      rw [← this]; congr 1; omega⟩⟩
theorem inOf_sound : ∀ {hs : List Sh0} {vs : List Value} {l : List AV} (n k : Nat), (∀ h ∈ hs, h.okB = true) → RdL w hs vs l → Piece ρ n l → ∃ bs, InOk ρ w k (outOf n k hs).1 (outOf n k hs).2.1 (outOf n k hs).2.2 vs l bs
  | [], [], l, n, k, _, h, _ => by
    obtain rfl : l = [] := h
    exact ⟨[], rfl, rfl, rfl, fun b hb => (by cases hb), fun j e b he => by simp [outOf] at he, fun _ _ => trivial⟩
  | h0 :: hs, v :: vs, l, n, k, hok, h, hp => by
    obtain ⟨a, b, rfl, h1, h2⟩ := h
    have hok2 : ∀ h ∈ hs, h.okB = true := fun h hh => hok h (List.mem_cons_of_mem _ hh)
    cases h0 with
    | int kd =>
      obtain ⟨z, rfl, rfl⟩ := h1
      obtain ⟨bs, q⟩ := inOf_sound (n + 1) k hok2 h2 hp.right
      refine ⟨bs, q.cons1 rfl fun β => ?_⟩
      show Value.int kd z = Value.int kd _
      have := hp 0 (.i z) rfl
      simp only [X.I, X.den]
      rw [Nat.add_zero] at this
      rw [this]; rfl
    | bool =>
      obtain ⟨p, rfl, rfl⟩ := h1
      obtain ⟨bs, q⟩ := inOf_sound (n + 1) k hok2 h2 hp.right
      refine ⟨bs, q.cons1 rfl fun β => ?_⟩
      show Value.bool p = Value.bool _
      have := hp 0 (.b p) rfl
      simp only [X.B, X.den]
      rw [Nat.add_zero] at this
      rw [this]; rfl
    | slc sh =>
      have hsh : 0 < sh.length := by simpa [Sh0.okB] using hok _ (List.mem_cons_self ..)
      obtain ⟨q0, m, c, f, rfl, hmc, hcm, hq, rfl, hval⟩ := h1
      obtain ⟨bs, q⟩ := inOf_sound (n + 2) (k + 1) hok2 h2 hp.right
      have e1 : ρ.getD n (.i 0) = .a f := hp 0 _ rfl
      have e2 : ρ.getD (n + 1) (.i 0) = .i (m : Int) := hp 1 _ rfl
      have i1 : (X.var (n + 1)).I ρ = m := by simp only [X.I, X.den, e2, AV.int]
      have f1 : ((X.var n).den ρ).fn = f := by simp only [X.den, e1, AV.fn]
      refine ⟨⟨⟨q0, c, sh.length, fun _ => none, fun _ => 0⟩, none⟩ :: bs, q.cons2 rfl rfl rfl (fun β _ => ?_) fun β hb => ?_⟩
      · refine ⟨by rw [i1]; omega, hq, rfl, ?_⟩
        by_cases hm0 : m = 0
        · exact .inr (.inl ⟨by rw [i1, hm0]; rfl, rfl⟩)
        · obtain ⟨p, hpq, hpb, _⟩ := hval 0 0 sh[0] (Int.le_refl _) (by omega) (List.getElem?_eq_getElem hsh)
          refine .inr (.inr ⟨p, hpq, ⟨hpb, fun h => (by cases h), fun _ h => h⟩, by rw [i1]; simpa using hmc, fun i f' kk i0 i1' hk => ?_⟩)
          rw [i1] at i1'
          rw [f1]
          obtain ⟨p', hp', _, hc'⟩ := hval i f' kk i0 i1' hk
          obtain rfl := Option.some.inj (hp'.symm.trans hpq)
          exact ⟨hc', fun h => by cases h⟩
      · refine ⟨q0, c, q0, c, ?_, by rw [i1]; simp, by rw [lit_I]; exact Int.le_refl _, by rw [i1]; omega, by rw [i1]; simpa using hmc, hcm, hq, .inr ?_, by rw [lit_I]; simp, by simp, by rw [lit_I]; simp⟩
        · simp only [SB.at, hb]; rfl
        · rw [lit_I]; cases q0 <;> simp [Addr.add]
    | mat sh =>
      obtain ⟨q0, m, c, g, f, rows, caps, rfl, hmc, hcm, hq, rfl, hval⟩ := h1
      obtain ⟨bs, q⟩ := inOf_sound (n + 2) (k + 1) hok2 h2 hp.right
      have e1 : ρ.getD n (.i 0) = .m g f := hp 0 _ rfl
      have e2 : ρ.getD (n + 1) (.i 0) = .i (m : Int) := hp 1 _ rfl
      have i1 : (X.var (n + 1)).I ρ = m := by simp only [X.I, X.den, e2, AV.int]
      have g1 : ((X.var n).den ρ).mlen = g := by simp only [X.den, e1, AV.mlen]
      have f1 : ((X.var n).den ρ).mfn = f := by simp only [X.den, e1, AV.mfn]
      refine ⟨⟨⟨q0, c, 1, rows, caps⟩, none⟩ :: bs, q.cons2 rfl rfl rfl (fun β _ => ?_) fun β hb => ?_⟩
      · refine ⟨by rw [i1]; omega, hq, ?_⟩
        by_cases hm0 : m = 0
        · exact .inl (by rw [i1, hm0]; rfl)
        · obtain ⟨p, hpq, hpb, _⟩ := hval 0 (Int.le_refl _) (by omega)
          refine .inr ⟨p, hpq, ⟨hpb, fun h => (by cases h), fun _ h => h⟩, fun i i0 i1' => ?_⟩
          rw [i1] at i1'
          rw [g1, f1]
          obtain ⟨p', hp', _, h3, h4, h5, h6, h7, h8⟩ := hval i i0 i1'
          obtain rfl := Option.some.inj (hp'.symm.trans hpq)
          refine ⟨h3, h4, h5, h6, h7, ?_⟩
          rcases h8 with h8 | ⟨q, a1, a2, a3⟩
          · exact .inl h8
          · exact .inr ⟨q, a1, a2, fun h => h, a3⟩
      · refine ⟨q0, c, q0, c, ?_, by rw [i1]; simp, by rw [lit_I]; exact Int.le_refl _, by rw [i1]; omega, by rw [i1]; simpa using hmc, hcm, hq, .inr ?_, by rw [lit_I]; simp, by simp, by rw [lit_I]; simp⟩
        · simp only [SB.at, hb]; rfl
        · rw [lit_I]; cases q0 <;> simp [Addr.add]
  | [], _ :: _, _, _, _, _, h, _ => h.elim
  | _ :: _, [], _, _, _, _, h, _ => h.elim
theorem insL_sound : ∀ {hs : List Sh} {vs : List Value} {l : List AV} (n k : Nat), (∀ h ∈ hs, ∀ x ∈ h.l, x.okB = true) → RdA w hs vs l → Piece ρ n l →
    ∃ bs, l.length = (outsL n k hs).2.2.length ∧ fixL (outsL n k hs).2.2 l = l ∧ (outsL n k hs).2.1.length = bs.length ∧ (∀ b ∈ bs, b.own = none) ∧
      (∀ (j : Nat) e b, (outsL n k hs).2.1[j]? = some e → bs[j]? = some b → ∀ β, EOk ρ β (fun _ => False) w b (theirs e)) ∧ ∀ β, Maps β k bs → RelL (V1.rel ρ β) (outsL n k hs).1 vs
  | [], [], l, n, k, _, h, _ => by
    obtain rfl : l = [] := h
    exact ⟨[], rfl, rfl, rfl, fun b hb => (by cases hb), fun j e b he => by simp [outsL] at he, fun _ _ => trivial⟩
  | hd :: hs, v :: vs, l, n, k, hok, h, hp => by
    obtain ⟨a, b, rfl, h1, h2⟩ := h
    have hok1 := hok hd (List.mem_cons_self ..)
    have key : ∃ bs us, InOk ρ w k (outOf n k hd.l).1 (outOf n k hd.l).2.1 (outOf n k hd.l).2.2 us a bs ∧ ∀ β, RelL (Sc.rel ρ β) (outOf n k hd.l).1 us → (v1Sh hd.agg (outOf n k hd.l).1).rel ρ β v := by
      unfold RdV at h1
      split at h1
      · rename_i hag
        obtain ⟨us, rfl, hg⟩ := h1
        obtain ⟨bs, q⟩ := inOf_sound n k hok1 hg hp.left
        exact ⟨bs, us, q, fun β hr => by rw [show hd.agg = true from hag]; exact ⟨us, rfl, hr⟩⟩
      · rename_i hag
        obtain ⟨bs, q⟩ := inOf_sound n k hok1 h1 hp.left
        refine ⟨bs, [v], q, fun β hr => ?_⟩
        rw [Bool.eq_false_iff.2 hag]
        cases hc : (outOf n k hd.l).1 with
        | nil => rw [hc] at hr; exact hr.elim
        | cons c cs =>
          rw [hc] at hr
          cases cs with
          | nil => exact hr.1
          | cons _ _ => exact hr.2.elim
    obtain ⟨bs, us, q, hv⟩ := key
    obtain ⟨bs', q1, q2, q3, q4, q5, q6⟩ := insL_sound (n + (outOf n k hd.l).2.2.length) (k + (outOf n k hd.l).2.1.length) (fun h hh => hok h (List.mem_cons_of_mem _ hh)) h2 (by rw [← q.len]; exact hp.right)
    refine ⟨bs ++ bs', by simp [outsL, q.len, q1], ?_, by simp only [outsL, List.length_append, q3]; rw [q.elen], fun b hb => ?_, fun j e b he hb β => ?_, fun β hm => ⟨hv β (q.rel β hm.left), q6 β (by rw [q.elen]; exact hm.right)⟩⟩
    · simp only [outsL]
      rw [fixL_append _ _ _ _ q.len, q.fix, q2]
    · rcases List.mem_append.1 hb with hb | hb
      · exact q.own b hb
      · exact q4 b hb
    · simp only [outsL] at he
      rw [List.getElem?_append] at he hb
      rw [q.elen] at he
      split at he
      · rename_i hj
        rw [if_pos hj] at hb
        exact q.oks j e b he hb β
      · rename_i hj
        rw [if_neg hj] at hb
        exact q5 _ e b (by rw [q.elen]; exact he) hb β
  | [], _ :: _, _, _, _, _, h, _ => h.elim
  | _ :: _, [], _, _, _, _, h, _ => h.elim

/-! what goes out -/
structure OutR (β : Mp) (ks os : List Nat) : Prop where
  own : ∀ r ∈ os, ∃ k ∈ ks, ∃ b, β k = some b ∧ b.own = some r
  nod : ks.Nodup → os.Nodup
theorem OutR.nil (ks : List Nat) : OutR β ks [] := ⟨fun r h => (by cases h), fun _ => List.nodup_nil⟩
theorem OutR.append (hd : ∀ k k' b b' r, β k = some b → β k' = some b' → b.own = some r → b'.own = some r → k = k') {k1 k2 o1 o2 : List Nat} (h1 : OutR β k1 o1) (h2 : OutR β k2 o2) : OutR β (k1 ++ k2) (o1 ++ o2) := by
  refine ⟨fun r hr => ?_, fun hn => ?_⟩
  · rcases List.mem_append.1 hr with hr | hr
    · obtain ⟨k, hk, h⟩ := h1.own r hr; exact ⟨k, List.mem_append.2 (.inl hk), h⟩
    · obtain ⟨k, hk, h⟩ := h2.own r hr; exact ⟨k, List.mem_append.2 (.inr hk), h⟩
  · obtain ⟨n1, n2, n3⟩ := List.nodup_append.1 hn
    refine List.nodup_append.2 ⟨h1.nod n1, h2.nod n2, fun r hr r' hr' e => ?_⟩
    subst e
    obtain ⟨k, hk, b, hb, ho⟩ := h1.own r hr
    obtain ⟨k', hk', b', hb', ho'⟩ := h2.own r hr'
    exact n3 k hk k' hk' (hd k k' b b' r hb hb' ho ho')
theorem nodupB_of : ∀ {l : List Nat}, nodupB l = true → l.Nodup
  | [], _ => List.nodup_nil
  | k :: l, h => by
    simp only [nodupB, Bool.and_eq_true, Bool.not_eq_true'] at h
    refine List.nodup_cons.2 ⟨fun hk => ?_, nodupB_of h.2⟩
    have := List.contains_iff_mem.2 hk
    rw [h.1] at this; cases this
section
variable {s : S}
theorem outOne_sound (m : Mem C B w0 ρ β W s w) {h : Sh0} {c : Sc} {xs : List X} {ks : List Nat} (ho : outOne s h c = some (xs, ks)) {v : Value} (hv : c.rel ρ β v) : ∃ os, xs.length = h.ks.length ∧ GvSc B w h v (fixL h.ks (xs.map (X.den ρ))) os ∧ OutR β ks os := by
  unfold outOne at ho
  split at ho
  · split at ho
    · rename_i hk
      obtain ⟨rfl, rfl⟩ := Prod.mk.inj (Option.some.inj ho)
      subst hk
      exact ⟨[], rfl, ⟨_, hv, rfl, rfl⟩, OutR.nil _⟩
    · cases ho
  · obtain ⟨rfl, rfl⟩ := Prod.mk.inj (Option.some.inj ho)
    exact ⟨[], rfl, ⟨_, hv, rfl, rfl⟩, OutR.nil _⟩
  · obtain ⟨rfl, rfl⟩ := Prod.mk.inj (Option.some.inj ho)
    exact ⟨[], rfl, ⟨none, 0, 0, fun _ _ => 0, hv, Nat.le_refl _, Nat.zero_le _, fun _ => rfl, rfl, .inl ⟨rfl, rfl, rfl⟩⟩, OutR.nil _⟩
  · rename_i sh k sz len
    have hv : (Sc0.slc (.blk k) sz (.lit 0) len none).rel ρ β v := hv
    obtain ⟨p, c, q, r, hat, rfl, ho0, hl0, hlr, hrm, hpc, hq, hrc, _, hcp⟩ := hv
    simp only [SB.at, Option.map_eq_some_iff] at hat
    obtain ⟨bi, hb, he⟩ := hat
    obtain ⟨rfl, rfl⟩ := Prod.mk.inj he
    have hrc' : r = bi.v.cap := by have := hcp rfl; rw [lit_I] at this; simpa using this
    subst hrc'
    have hq' : bi.v.cap = 0 ∨ q = bi.v.addr := by
      rcases hq with hq | hq
      · exact .inl hq
      · refine .inr ?_
        rw [hq, lit_I]
        cases bi.v.addr <;> simp [Addr.add]
    have hqn : q = none → bi.v.cap = 0 := fun h => by
      rcases hq' with h1 | h1
      · exact h1
      · rw [h1] at h; exact hpc h
    split at ho
    · rename_i sh' a n eg hk
      obtain ⟨hk, hgt⟩ := body_sound m.facts (show (X.bl true).B ρ = true from rfl) hk
      split at ho
      · rename_i hc
        obtain ⟨rfl, rfl, rfl⟩ := hc
        obtain ⟨rfl, rfl⟩ := Prod.mk.inj (Option.some.inj ho)
        have hE := (m.heap k _ bi hk hb) hgt
        simp only at hE
        obtain ⟨h0, hn1, hsz, hE⟩ := hE
        have hlen : ((len.I ρ).toNat : Int) = len.I ρ := Int.toNat_of_nonneg hl0
        have hx : fixL (Sh0.slc sh).ks ([a, len].map (X.den ρ)) = [.a (a.den ρ).fn, .i ((len.I ρ).toNat : Int)] := by
          rw [hlen]
          simp only [Sh0.ks, List.map_cons, List.map_nil, fixL, VK.fix, X.I]
        by_cases hc0 : bi.v.cap = 0
        · refine ⟨[], rfl, ⟨q, (len.I ρ).toNat, bi.v.cap, (a.den ρ).fn, rfl, hlr, hrm, hqn, hx, .inl ⟨by omega, hc0, rfl⟩⟩, OutR.nil _⟩
        · rcases hE with ⟨_, h2, _⟩ | ⟨_, h2⟩ | ⟨p, hp, hpl, hcap, hval⟩
          · exact absurd h2 hc0
          · cases h2
          · obtain ⟨hp1, hp2, hp3⟩ := hpl
            obtain ⟨a1, a2, a3⟩ := hp2 rfl
            have hqp : q = some ⟨p.block, 0, none⟩ := by
              rcases hq' with h | h
              · exact absurd h hc0
              · rw [h, hp, ← a1]
            refine ⟨[p.block], rfl, ⟨q, (len.I ρ).toNat, bi.v.cap, (a.den ρ).fn, rfl, hlr, hrm, hqn, hx, .inr ⟨p.block, hqp, (m.wlo _ (m.own k bi _ hb a2)).1, hp1, rfl, fun j hj => a3 j (by rw [hsz]; exact hj), fun i f' kk i0 i1 hk => ?_⟩⟩, ⟨fun r hr => ?_, fun _ => by simp⟩⟩
            · have := hval i f' kk i0 (by rw [← hlen]; exact i1) hk
              rw [a1, add0] at this
              exact this
            · simp at hr
              subst hr
              exact ⟨k, by simp, bi, hb, a2⟩
      · cases ho
    · cases ho
  · rename_i sh k sz n n'
    have hv : (Sc0.slc (.blk k) sz (.lit 0) (.lit n) (some (.lit n'))).rel ρ β v := hv
    obtain ⟨p, c, q, r, hat, rfl, ho0, hl0, hlr, hrm, hpc, hq, hrc, hcp, _⟩ := hv
    simp only [SB.at, Option.map_eq_some_iff] at hat
    obtain ⟨bi, hb, he⟩ := hat
    obtain ⟨rfl, rfl⟩ := Prod.mk.inj he
    have hrn : (r : Int) = n' := by have := hcp _ rfl; rw [lit_I] at this; exact this
    split at ho
    · rename_i l eg hk
      obtain ⟨hk, hgt⟩ := body_sound m.facts (show (X.bl true).B ρ = true from rfl) hk
      split at ho
      · rename_i hc
        obtain ⟨rfl, rfl, hpos, hn0, hll⟩ := hc
        simp only [Option.map_eq_some_iff] at ho
        obtain ⟨a, ha, ho⟩ := ho
        obtain ⟨rfl, rfl⟩ := Prod.mk.inj ho
        obtain ⟨p, hp, ⟨hp1, hp2, hp3⟩, hval⟩ := (m.heap k _ bi hk hb) hgt
        obtain ⟨a1, a2, a3⟩ := hp2 rfl
        have hnr : n.toNat = r := by omega
        have hx : fixL (Sh0.slc sh).ks ([a, X.lit n].map (X.den ρ)) = [.a (a.den ρ).fn, .i ((((X.lit n).I ρ).toNat : Nat) : Int)] := by
          rw [lit_I, Int.toNat_of_nonneg hn0]
          simp only [Sh0.ks, List.map_cons, List.map_nil, fixL, VK.fix, X.den, AV.int]
        have hln : ((X.lit n).I ρ).toNat = r := by rw [lit_I]; exact hnr
        by_cases hr0 : r = 0
        · refine ⟨[], rfl, ⟨q, ((X.lit n).I ρ).toNat, r, (a.den ρ).fn, rfl, by omega, hrm, fun _ => hr0, hx, .inl ⟨by omega, hr0, rfl⟩⟩, OutR.nil _⟩
        · have hqp : q = some ⟨p.block, 0, none⟩ := by
            rcases hq with h | h
            · exact absurd h hr0
            · rw [h, hp, lit_I, ← a1]; simp [Addr.add]
          obtain ⟨_, hget⟩ := rowsOf_sound (ρ := ρ) (β := β) hpos n.toNat ha (by omega)
          refine ⟨[p.block], rfl, ⟨q, ((X.lit n).I ρ).toNat, r, (a.den ρ).fn, rfl, hlr, hrm, fun h => (by rw [hqp] at h; cases h), hx, .inr ⟨p.block, hqp, (m.wlo _ (m.own k bi _ hb a2)).1, hp1, rfl, fun j hj => ?_, fun i f' kk i0 i1 hkk => ?_⟩⟩, ⟨fun r hr => ?_, fun _ => by simp⟩⟩
          · have hjl : j < l.length := by rw [hll, hnr]; exact hj
            obtain ⟨v, h4, _⟩ := hval j _ (List.getElem?_eq_getElem hjl)
            rw [a1, add0] at h4
            exact ⟨v, h4.1, h4.2 rfl⟩
          · rw [hln] at i1
            have hfl : f' < sh.length := (List.getElem?_eq_some_iff.1 hkk).1
            have hidx : i.toNat * sh.length + f' < l.length := by
              rw [hll, hnr]
              have : i.toNat + 1 ≤ r := by omega
              have := Nat.mul_le_mul_right sh.length this
              rw [Nat.add_mul] at this
              omega
            obtain ⟨v, h4, h5⟩ := hval _ _ (List.getElem?_eq_getElem hidx)
            rw [a1, add0] at h4
            have := hget i.toNat f' _ kk (by omega) hfl (List.getElem?_eq_getElem hidx) hkk v h5
            have hi : ((0 + i.toNat : Nat) : Int) = i := by omega
            rw [hi] at this
            rw [← this]
            exact h4
          · simp at hr
            subst hr
            exact ⟨k, by simp, bi, hb, a2⟩
      · cases ho
    · cases ho
  · cases ho
theorem outOnes_sound (m : Mem C B w0 ρ β W s w) : ∀ {hs : List Sh0} {cs : List Sc} {xs : List X} {ks : List Nat}, outOnes s hs cs = some (xs, ks) → ∀ {vs : List Value}, RelL (Sc.rel ρ β) cs vs → ∃ os, xs.length = (shKs hs).length ∧ GvL B w hs vs (fixL (shKs hs) (xs.map (X.den ρ))) os ∧ OutR β ks os
  | [], [], xs, ks, ho, vs, hr => by
    simp only [outOnes] at ho
    obtain ⟨rfl, rfl⟩ := Prod.mk.inj (Option.some.inj ho)
    cases vs with
    | nil => exact ⟨[], rfl, ⟨rfl, rfl⟩, OutR.nil _⟩
    | cons _ _ => exact hr.elim
  | h :: hs, c :: cs, xs, ks, ho, vs, hr => by
    simp only [outOnes] at ho
    split at ho
    · rename_i x y hx hy
      obtain ⟨x1, x2⟩ := x
      obtain ⟨y1, y2⟩ := y
      obtain ⟨rfl, rfl⟩ := Prod.mk.inj (Option.some.inj ho)
      cases vs with
      | nil => exact hr.elim
      | cons v vs =>
        obtain ⟨o1, l1, g1, r1⟩ := outOne_sound m hx hr.1
        obtain ⟨o2, l2, g2, r2⟩ := outOnes_sound m hy hr.2
        refine ⟨o1 ++ o2, by simp [shKs, l1]; simpa [shKs] using l2, ⟨_, _, o1, o2, ?_, rfl, g1, g2⟩, r1.append m.dist r2⟩
        rw [List.map_append]
        exact fixL_append h.ks (shKs hs) _ _ (by simp [l1])
    · cases ho
  | [], _ :: _, _, _, ho, _, _ => by simp [outOnes] at ho
  | _ :: _, [], _, _, ho, _, _ => by simp [outOnes] at ho
theorem outV_sound (m : Mem C B w0 ρ β W s w) {h : Sh} {c : V1} {xs : List X} {ks : List Nat} (ho : outV s h c = some (xs, ks)) {v : Value} (hv : c.rel ρ β v) : ∃ os, xs.length = (shKs h.l).length ∧ GvV B w h v (fixL (shKs h.l) (xs.map (X.den ρ))) os ∧ OutR β ks os := by
  unfold outV at ho
  split at ho
  · rename_i l
    split at ho
    · rename_i hag
      obtain ⟨vs, rfl, hr⟩ := hv
      obtain ⟨os, a, b, c⟩ := outOnes_sound m ho hr
      refine ⟨os, a, ?_, c⟩
      unfold GvV
      rw [if_pos hag]
      exact ⟨vs, rfl, b⟩
    · cases ho
  · rename_i c
    split at ho
    · cases ho
    · rename_i hag
      split at ho
      · rename_i hl
        obtain ⟨os, a, b, d⟩ := outOnes_sound m ho (vs := [v]) ⟨hv, trivial⟩
        refine ⟨os, a, ?_, d⟩
        unfold GvV
        rw [if_neg hag]
        obtain ⟨x, hx⟩ := List.length_eq_one_iff.1 hl
        exact ⟨x, hx, b⟩
      · cases ho
theorem outVs_sound (m : Mem C B w0 ρ β W s w) : ∀ {hs : List Sh} {cs : List V1} {xs : List X} {ks : List Nat}, outVs s hs cs = some (xs, ks) → ∀ {vs : List Value}, RelL (V1.rel ρ β) cs vs → ∃ os, xs.length = (insKs hs).length ∧ GvA B w hs vs (fixL (insKs hs) (xs.map (X.den ρ))) os ∧ OutR β ks os
  | [], [], xs, ks, ho, vs, hr => by
    simp only [outVs] at ho
    obtain ⟨rfl, rfl⟩ := Prod.mk.inj (Option.some.inj ho)
    cases vs with
    | nil => exact ⟨[], rfl, ⟨rfl, rfl⟩, OutR.nil _⟩
    | cons _ _ => exact hr.elim
  | h :: hs, c :: cs, xs, ks, ho, vs, hr => by
    simp only [outVs] at ho
    split at ho
    · rename_i x y hx hy
      obtain ⟨x1, x2⟩ := x
      obtain ⟨y1, y2⟩ := y
      obtain ⟨rfl, rfl⟩ := Prod.mk.inj (Option.some.inj ho)
      cases vs with
      | nil => exact hr.elim
      | cons v vs =>
        obtain ⟨o1, l1, g1, r1⟩ := outV_sound m hx hr.1
        obtain ⟨o2, l2, g2, r2⟩ := outVs_sound m hy hr.2
        refine ⟨o1 ++ o2, by simp [insKs, l1]; simpa [insKs] using l2, ⟨_, _, o1, o2, ?_, rfl, g1, g2⟩, r1.append m.dist r2⟩
        rw [List.map_append]
        exact fixL_append (shKs h.l) (insKs hs) _ _ (by simp [l1])
    · cases ho
  | [], _ :: _, _, _, ho, _, _ => by simp [outVs] at ho
  | _ :: _, [], _, _, ho, _, _ => by simp [outVs] at ho
theorem outArgs_sound (m : Mem C B w0 ρ β W s w) {sig : List Sh} {v : SV} {xs : List X} (ho : outArgs s sig v = some xs) {u : Value} (hv : v.rel ρ β u) : Gv B w sig u (fixL (insKs sig) (xs.map (X.den ρ))) := by
  unfold outArgs at ho
  split at ho
  · rename_i x
    split at ho
    · rename_i r hr
      split at ho
      · rename_i hn
        obtain rfl := Option.some.inj ho
        obtain ⟨os, _, g, o⟩ := outVs_sound m (xs := r.1) (ks := r.2) hr (vs := [u]) ⟨hv, trivial⟩
        exact ⟨[u], os, rfl, g, o.nod (nodupB_of hn)⟩
      · cases ho
    · cases ho
  · rename_i l
    split at ho
    · cases ho
    · rename_i hl
      split at ho
      · rename_i r hr
        split at ho
        · rename_i hn
          obtain rfl := Option.some.inj ho
          obtain ⟨us, rfl, hrl⟩ := hv
          obtain ⟨os, _, g, o⟩ := outVs_sound m (xs := r.1) (ks := r.2) hr hrl
          refine ⟨us, os, ?_, g, o.nod (nodupB_of hn)⟩
          have := hrl.length
          match us, this with
          | [], _ => rfl
          | [x], h => exact absurd (by simpa using h) hl
          | x :: y :: us, _ => rfl
        · cases ho
      · cases ho
  · cases ho
end
theorem piece_self (l : List AV) : Piece l 0 l := fun i v hv => by rw [Nat.zero_add, List.getD_eq_getElem?_getD, hv]; rfl
theorem map_v_rel {l : List V1} {vs : List Value} (h : RelL (V1.rel ρ β) l vs) : RelL (SV.rel ρ β) (l.map SV.v) vs := by
  induction l generalizing vs with
  | nil => cases vs with
    | nil => trivial
    | cons _ _ => exact h.elim
  | cons c l ih => cases vs with
    | nil => exact h.elim
    | cons v vs => exact ⟨h.1, ih h.2⟩
/-! results as a relation: lists agree as far as they reach -/
def outP : List Sh0 → List AV → List AV → Prop
  | [], l, l' => l = [] ∧ l' = []
  | .int _ :: hs, x :: l, y :: l' => x = .i y.int ∧ y = .i y.int ∧ outP hs l l'
  | .bool :: hs, x :: l, y :: l' => x = .b y.bool ∧ y = .b y.bool ∧ outP hs l l'
  | .slc sh :: hs, x :: n :: l, y :: m :: l' => n = .i m.int ∧ m = .i m.int ∧ x = .a x.fn ∧ y = .a y.fn ∧ (∀ (i : Int) (f : Nat), 0 ≤ i → i < m.int → f < sh.length → x.fn i f = y.fn i f) ∧ outP hs l l'
  | _, _, _ => False
theorem outP_cons {N : Nat} {h : Sh0} {hs : List Sh0} {v : Value} {a b l' : List AV} {os : List Nat} (hg : GvSc N w h v a os) (ho : outP (h :: hs) (a ++ b) l') : ∃ a' b', l' = a' ++ b' ∧ GvSc N w h v a' os ∧ outP hs b b' := by
  cases h with
  | int k =>
    obtain ⟨z, rfl, rfl, rfl⟩ := hg
    cases l' with
    | nil => exact ho.elim
    | cons y l' =>
      obtain ⟨h1, h2, h3⟩ := ho
      refine ⟨[y], l', rfl, ⟨z, rfl, ?_, rfl⟩, h3⟩
      rw [h2, ← h1]
  | bool =>
    obtain ⟨z, rfl, rfl, rfl⟩ := hg
    cases l' with
    | nil => exact ho.elim
    | cons y l' =>
      obtain ⟨h1, h2, h3⟩ := ho
      refine ⟨[y], l', rfl, ⟨z, rfl, ?_, rfl⟩, h3⟩
      rw [h2, ← h1]
  | slc sh =>
    obtain ⟨q, n, c, f, rfl, h1, h2, h3, rfl, h4⟩ := hg
    match l', ho with
    | y :: m :: l', ho =>
      obtain ⟨e1, e2, e3, e4, e5, e6⟩ := ho
      have hm : m = .i (n : Int) := by rw [e2, ← e1]
      refine ⟨[y, m], l', rfl, ⟨q, n, c, y.fn, rfl, h1, h2, h3, by rw [hm, ← e4], ?_⟩, e6⟩
      rcases h4 with h4 | ⟨r, a1, a2, a3, a4, a5, a6⟩
      · exact .inl h4
      · refine .inr ⟨r, a1, a2, a3, a4, a5, fun i f' k i0 i1 hk => ?_⟩
        rw [← e5 i f' i0 (by rw [hm]; exact i1) (List.getElem?_eq_some_iff.1 hk).1]
        exact a6 i f' k i0 i1 hk
    | [_], ho => exact ho.elim
    | [], ho => exact ho.elim
  | mat sh => exact hg.elim
theorem outP_list {N : Nat} : ∀ {hs hs' : List Sh0} {vs : List Value} {a b l' : List AV} {os : List Nat}, GvL N w hs vs a os → outP (hs ++ hs') (a ++ b) l' → ∃ a' b', l' = a' ++ b' ∧ GvL N w hs vs a' os ∧ outP hs' b b'
  | [], hs', [], a, b, l', os, hg, ho => by
    obtain ⟨rfl, rfl⟩ := hg
    exact ⟨[], l', rfl, ⟨rfl, rfl⟩, ho⟩
  | h :: hs, hs', v :: vs, a, b, l', os, hg, ho => by
    obtain ⟨a1, a2, o1, o2, rfl, rfl, h1, h2⟩ := hg
    rw [List.append_assoc] at ho
    obtain ⟨a', b', rfl, g1, ho1⟩ := outP_cons h1 ho
    obtain ⟨a'', b'', rfl, g2, ho2⟩ := outP_list h2 ho1
    exact ⟨a' ++ a'', b'', by rw [List.append_assoc], ⟨a', a'', o1, o2, rfl, rfl, g1, g2⟩, ho2⟩
  | [], _, _ :: _, _, _, _, _, hg, _ => hg.elim
  | _ :: _, _, [], _, _, _, _, hg, _ => hg.elim
theorem outP_all {N : Nat} : ∀ {hs : List Sh} {vs : List Value} {a l' : List AV} {os : List Nat}, GvA N w hs vs a os → outP (hs.flatMap (·.l)) a l' → GvA N w hs vs l' os
  | [], [], a, l', os, hg, ho => by
    obtain ⟨rfl, rfl⟩ := hg
    exact ⟨ho.2, rfl⟩
  | h :: hs, v :: vs, a, l', os, hg, ho => by
    obtain ⟨a1, a2, o1, o2, rfl, rfl, h1, h2⟩ := hg
    rw [List.flatMap_cons] at ho
    unfold GvV at h1
    split at h1
    · rename_i hag
      obtain ⟨us, rfl, hl⟩ := h1
      obtain ⟨a', b', rfl, g1, ho1⟩ := outP_list hl ho
      exact ⟨a', b', o1, o2, rfl, rfl, by unfold GvV; rw [if_pos hag]; exact ⟨us, rfl, g1⟩, outP_all h2 ho1⟩
    · rename_i hag
      obtain ⟨x, hx, hl⟩ := h1
      obtain ⟨a', b', rfl, g1, ho1⟩ := outP_list hl ho
      exact ⟨a', b', o1, o2, rfl, rfl, by unfold GvV; rw [if_neg hag]; exact ⟨x, hx, g1⟩, outP_all h2 ho1⟩
  | [], _ :: _, _, _, _, hg, _ => hg.elim
  | _ :: _, [], _, _, _, hg, _ => hg.elim
/-- **what the tree asks gives the contract** -/
theorem exec_soundG {G : World → Prop} (hG : ∀ w w', G w → Below w.heap.size w w' → G w') {globs : List HE} (hgl : ∀ w, G w → ∃ bs : List BI, bs.length = globs.length ∧ (∀ b ∈ bs, b.own = none) ∧ (∀ (j : Nat) e b, globs[j]? = some e → bs[j]? = some b → ∀ ρ β, EOk ρ β (fun _ => False) w b e) ∧ ∀ g k, C.glob g = some k → ∃ b, bs[k]? = some b ∧ b.v.addr = some ⟨g, 0, none⟩) (hC : C.Ok P) (hΓ : ConsG P G C Γ) (hm : P.follows .mixedOrders = true) (hnm : ∀ f fn, C.fn f = some fn → (fn.name == "runtime.NumGoroutine") = false) {sig : CSig} (hok : (sig.ins.all (fun h => h.l.all Sh0.okB)) = true) {fuel : Nat} {f : FuncId} {con : Con}
    (h : ∀ avs, KT (insKs sig.ins) avs → con.pre avs → (exec C globs fuel f sig).den Γ (fun outs => outP (sig.outs.flatMap (·.l)) outs (con.out avs)) avs []) : MeetsG P G con f sig := by
  intro args avs w hGw hrd hpre
  · have hok' : ∀ h ∈ sig.ins, ∀ x ∈ h.l, x.okB = true := by simpa using hok
    obtain ⟨gs, g1, g2, g3, g4⟩ := hgl w hGw
    obtain ⟨bs, b1, b2, b3, b4, b5, b6⟩ := insL_sound (ρ := avs) 0 globs.length hok' hrd (piece_self avs)
    rw [outsL_ks] at b1 b2
    have hkt : KT (insKs sig.ins) avs := by rw [← b2]; exact fixL_KT _ _
    have hd := h avs hkt hpre
    unfold exec at hd
    rw [if_pos hok] at hd
    simp only [startS] at hd
    generalize hs0 : ({ tmps := [], heap := globs ++ (outsL 0 globs.length sig.ins).2.1.map fun e => ({ e with own := false } : HE), facts := [], ks := (outsL 0 globs.length sig.ins).2.2, lvl := 0 } : S) = s0 at hd
    have hlen : s0.heap.length = (gs ++ bs).length := by rw [← hs0]; simp [b3, g1]
    have m : Mem C w.heap.size w avs (app (fun _ => none) 0 (gs ++ bs)) (fun _ => False) s0 w := by
      have hap : ∀ k, app (fun _ => none) 0 (gs ++ bs) k = (gs ++ bs)[k]? := fun k => by simp [app]
      have hno : ∀ (k : Nat) (b : BI) (r : Nat), (gs ++ bs)[k]? = some b → b.own = some r → False := fun k b r hb ho => by
        rcases List.mem_append.1 (List.mem_of_getElem? hb) with h | h
        · rw [g2 b h] at ho; cases ho
        · rw [b4 b h] at ho; cases ho
      refine ⟨⟨Below.refl _ _, Nat.le_refl _, fun r hr => hr.elim, fun k e b hk hb => ?_, fun k k' b b' r hb _ ho _ => ?_, fun k b r hb ho => ?_, fun g k hg => ?_⟩, fun k hk => ?_, fun k hk => ?_, fun x hx => ?_, ?_⟩
      · rw [hap] at hb
        simp only [S.H] at hk
        rw [← hs0] at hk
        rcases Nat.lt_or_ge k globs.length with hkl | hkl
        · rw [List.getElem?_append_left hkl] at hk
          rw [List.getElem?_append_left (by rw [g1]; exact hkl)] at hb
          exact g3 k e b hk hb _ _
        · rw [List.getElem?_append_right hkl] at hk
          rw [List.getElem?_append_right (by rw [g1]; exact hkl), g1] at hb
          simp only [List.getElem?_map, Option.map_eq_some_iff] at hk
          obtain ⟨e0, he0, rfl⟩ := hk
          exact b5 _ e0 b he0 hb _
      · rw [hap] at hb; exact (hno k b r hb ho).elim
      · rw [hap] at hb; exact (hno k b r hb ho).elim
      · obtain ⟨b, hb, ha⟩ := g4 g k hg
        exact ⟨b, by rw [hap, List.getElem?_append_left (List.getElem?_eq_some_iff.1 hb).1]; exact hb, ha⟩
      · rw [hap]; exact ⟨_, List.getElem?_eq_getElem (by omega)⟩
      · rw [hap]; exact List.getElem?_eq_none (by omega)
      · rw [← hs0] at hx; cases hx
      · rw [← hs0]
        show KT (outsL 0 globs.length sig.ins).2.2 avs
        rw [outsL_ks]; exact hkt
    have fr : Fr avs (app (fun _ => none) 0 (gs ++ bs)) s0 { tmps := #[], defers := [] } := ⟨by rw [← hs0]; rfl, fun t sl ht => by rw [← hs0] at ht; simp at ht⟩
    have hnews := news_sound m fr
    have hd2 := assumeAll_den hd hnews
    have hr := map_v_rel (b6 (app (fun _ => none) 0 (gs ++ bs)) (by
      have := (app_maps (fun _ => none) 0 (gs ++ bs)).right
      rw [Nat.zero_add, g1] at this
      exact this))
    obtain ⟨_, hcall⟩ := execF_sound (B := w.heap.size) (w0 := w) hC (fun f sig h => ⟨fun args avs w' hb hrd hp => (hΓ f sig h).1 args avs w' (hG w w' hGw hb) hrd hp, (hΓ f sig h).2⟩) hm hnm fuel f _ (s0.with s0.news) _ avs _ _ w [] args (m.with hnews) hr (by rw [← hs0]; rfl) hd2
    refine hcall _ fun sv s' ρ' β' W' w' ctx' v hcx hlv' m' _ hl' hrel hden' => ?_
    refine ⟨v, rfl, m'.below, ?_⟩
    split at hden'
    · rename_i xs hxs
      have := outArgs_sound m' hxs hrel
      simp only [Tree.den] at hden'
      obtain ⟨vs, os, h1, h2, h3⟩ := this
      exact ⟨vs, os, h1, outP_all h2 hden', h3⟩
    · exact hden'.elim
/-- the same without package variables -/
theorem exec_sound (hC : C.Ok P) (hΓ : ConsG P (fun _ => True) C Γ) (hm : P.follows .mixedOrders = true) (hnm : ∀ f fn, C.fn f = some fn → (fn.name == "runtime.NumGoroutine") = false) (hgl : C.globL = []) {sig : CSig} (hok : (sig.ins.all (fun h => h.l.all Sh0.okB)) = true) {fuel : Nat} {f : FuncId} {con : Con}
    (h : ∀ avs, KT (insKs sig.ins) avs → con.pre avs → (exec C [] fuel f sig).den Γ (fun outs => outP (sig.outs.flatMap (·.l)) outs (con.out avs)) avs []) : Meets P con f sig :=
  exec_soundG (G := fun _ => True) (globs := []) (fun _ _ _ _ => trivial) (fun w _ => ⟨[], rfl, fun b hb => by simp at hb, fun j e b hj => by simp at hj, fun g k hg => by simp [Cfg.glob, hgl] at hg⟩) hC hΓ hm hnm hok h
end
end Go.Proofs.Ytiiabaklipmbbaa.Vc
