/- The symbolic executor: renaming. -/
import Derived.Test.YtiiabaklipmbbaaVu
namespace Go.Proofs.Ytiiabaklipmbbaa.Vc
noncomputable section
open Go Go.RowKit
variable {ρ ρ' : List AV} {β β' : Mp} {W W' : Nat → Prop} {w w' : World} {P : Program} {C : Cfg}

theorem X.sub_den {N : Nat} {σ : Nat → X} (h : ∀ n, n < N → (σ n).den ρ' = ρ.getD n (.i 0)) : ∀ {x y : X}, x.sub N σ = some y → y.den ρ' = x.den ρ := by
  intro x
  induction x with
  | var n =>
    intro y hy
    simp only [X.sub] at hy
    split at hy
    · rename_i hn; obtain rfl := Option.some.inj hy; exact h n hn
    · cases hy
  | lit | bl | zeros => intro y hy; simp only [X.sub] at hy; obtain rfl := Option.some.inj hy; rfl
  | bin o a b ha hb | shift a b ha hb | row a b ha hb | mlen a b ha hb | get a b f ha hb =>
    intro y hy
    simp only [X.sub] at hy
    split at hy
    · rename_i h1 h2; obtain rfl := Option.some.inj hy; simp [X.den, ha h1, hb h2]
    · cases hy
  | not a ha | inr k a ha | wrap k a ha =>
    intro y hy
    simp only [X.sub] at hy
    split at hy
    · rename_i h1; obtain rfl := Option.some.inj hy; simp [X.den, ha h1]
    · cases hy
  | ite a b c ha hb hc | app a b c ha hb hc | set a b f c ha hb hc =>
    intro y hy
    simp only [X.sub] at hy
    split at hy
    · rename_i h1 h2 h3; obtain rfl := Option.some.inj hy; simp [X.den, ha h1, hb h2, hc h3]
    · cases hy
theorem X.sub_id {N : Nat} : ∀ {x y : X}, x.sub N .var = some y → y = x := by
  intro x
  induction x with
  | var n =>
    intro y hy
    simp only [X.sub] at hy
    split at hy
    · obtain rfl := Option.some.inj hy; rfl
    · cases hy
  | lit | bl | zeros => intro y hy; simp only [X.sub] at hy; obtain rfl := Option.some.inj hy; rfl
  | bin o a b ha hb | shift a b ha hb | row a b ha hb | mlen a b ha hb | get a b f ha hb =>
    intro y hy
    simp only [X.sub] at hy
    split at hy
    · rename_i h1 h2; obtain rfl := Option.some.inj hy; rw [ha h1, hb h2]
    · cases hy
  | not a ha | inr k a ha | wrap k a ha =>
    intro y hy
    simp only [X.sub] at hy
    split at hy
    · rename_i h1; obtain rfl := Option.some.inj hy; rw [ha h1]
    · cases hy
  | ite a b c ha hb hc | app a b c ha hb hc | set a b f c ha hb hc =>
    intro y hy
    simp only [X.sub] at hy
    split at hy
    · rename_i h1 h2 h3; obtain rfl := Option.some.inj hy; rw [ha h1, hb h2, hc h3]
    · cases hy

/-- R's names stand for the same: ρ, β (old names) and ρ', β' (new names) -/
structure Ren.Ok (R : Ren) (ρ : List AV) (β : Mp) (ρ' : List AV) (β' : Mp) : Prop where
  x : ∀ n, n < R.N → (R.σ n).den ρ' = ρ.getD n (.i 0)
  b : ∀ k, k < R.K → (β k).map (·.v) = (β' (R.r k)).map (·.v)
variable {R : Ren}
theorem SB.sub_at (h : R.Ok ρ β ρ' β') {b c : SB} (hs : b.sub R = some c) : c.at ρ' β' = b.at ρ β := by
  cases b with
  | blk k =>
    simp only [SB.sub] at hs
    split at hs
    · rename_i hk
      obtain rfl := Option.some.inj hs
      have := h.b k hk
      simp only [SB.at]
      cases h1 : β k <;> cases h2 : β' (R.r k) <;> simp [h1, h2] at this ⊢
      rw [this]; exact ⟨rfl, rfl⟩
    · cases hs
  | row k i =>
    simp only [SB.sub] at hs
    split at hs
    · rename_i hk
      split at hs
      · rename_i j hj
        obtain rfl := Option.some.inj hs
        have := h.b k hk
        have hi := X.sub_den h.x hj
        simp only [SB.at, X.I, hi]
        cases h1 : β k <;> cases h2 : β' (R.r k) <;> simp [h1, h2] at this ⊢
        rw [this]; exact ⟨rfl, rfl⟩
      · cases hs
    · cases hs
theorem Sc0.sub_rel (h : R.Ok ρ β ρ' β') {s t : Sc0} (hs : s.sub R = some t) (v : Value) : t.rel ρ' β' v ↔ s.rel ρ β v := by
  cases s with
  | int k e =>
    simp only [Sc0.sub] at hs
    split at hs
    · rename_i e' he; obtain rfl := Option.some.inj hs; simp only [Sc0.rel, X.I, X.sub_den h.x he]
    · cases hs
  | bool e =>
    simp only [Sc0.sub] at hs
    split at hs
    · rename_i e' he; obtain rfl := Option.some.inj hs; simp only [Sc0.rel, X.B, X.sub_den h.x he]
    · cases hs
  | ptr b sz i f =>
    simp only [Sc0.sub] at hs
    split at hs
    · rename_i b' i' hb hi; obtain rfl := Option.some.inj hs; simp only [Sc0.rel, X.I, X.sub_den h.x hi, SB.sub_at h hb]
    · cases hs
  | nilp => simp only [Sc0.sub] at hs; obtain rfl := Option.some.inj hs; exact Iff.rfl
  | nils => simp only [Sc0.sub] at hs; obtain rfl := Option.some.inj hs; exact Iff.rfl
  | slc b sz off len cp =>
    cases cp with
    | none =>
      simp only [Sc0.sub] at hs
      split at hs
      · rename_i b' o' l' hb ho hl; obtain rfl := Option.some.inj hs; simp only [Sc0.rel, X.I, X.sub_den h.x ho, X.sub_den h.x hl, SB.sub_at h hb]; simp
      · cases hs
    | some c =>
      simp only [Sc0.sub] at hs
      split at hs
      · rename_i b' o' l' c' hb ho hl hc; obtain rfl := Option.some.inj hs; simp only [Sc0.rel, X.I, X.sub_den h.x ho, X.sub_den h.x hl, SB.sub_at h hb]; simp [X.sub_den h.x hc]
      · cases hs
theorem mapOpt_relL {α γ : Type} {f : α → Option α} {r r' : α → γ → Prop} (hf : ∀ x y, f x = some y → ∀ v, r' y v ↔ r x v) : ∀ {l m : List α}, mapOpt f l = some m → ∀ vs, RelL r' m vs ↔ RelL r l vs
  | [], m, h, vs => by simp [mapOpt] at h; subst h; cases vs <;> exact Iff.rfl
  | x :: l, m, h, vs => by
    simp only [mapOpt] at h
    split at h
    · rename_i y m' h1 h2
      obtain rfl := Option.some.inj h
      cases vs with
      | nil => exact Iff.rfl
      | cons v vs => simp only [RelL, hf x y h1 v, mapOpt_relL hf h2 vs]
    · cases h
theorem Sc.sub_rel (h : R.Ok ρ β ρ' β') {s t : Sc} (hs : s.sub R = some t) (v : Value) : t.rel ρ' β' v ↔ s.rel ρ β v := by
  cases s with
  | c s =>
    simp only [Sc.sub] at hs
    split at hs
    · rename_i s' he; obtain rfl := Option.some.inj hs; exact Sc0.sub_rel h he v
    · cases hs
  | fn f a b =>
    simp only [Sc.sub] at hs
    split at hs
    · rename_i a' b' ha hb
      obtain rfl := Option.some.inj hs
      simp only [Sc.rel]
      simp only [mapOpt_relL (fun x y hxy v => Sc0.sub_rel h hxy v) ha, mapOpt_relL (fun x y hxy v => Sc0.sub_rel h hxy v) hb]
    · cases hs
  | nilf => simp only [Sc.sub] at hs; obtain rfl := Option.some.inj hs; exact Iff.rfl
theorem V1.sub_rel (h : R.Ok ρ β ρ' β') {s t : V1} (hs : s.sub R = some t) (v : Value) : t.rel ρ' β' v ↔ s.rel ρ β v := by
  cases s with
  | sc s =>
    simp only [V1.sub] at hs
    split at hs
    · rename_i s' he; obtain rfl := Option.some.inj hs; exact Sc.sub_rel h he v
    · cases hs
  | agg l =>
    simp only [V1.sub] at hs
    split at hs
    · rename_i l' hl
      obtain rfl := Option.some.inj hs
      simp only [V1.rel, mapOpt_relL (fun x y hxy v => Sc.sub_rel h hxy v) hl]
    · cases hs
theorem SV.sub_rel (h : R.Ok ρ β ρ' β') {s t : SV} (hs : s.sub R = some t) (v : Value) : t.rel ρ' β' v ↔ s.rel ρ β v := by
  cases s with
  | v s =>
    simp only [SV.sub] at hs
    split at hs
    · rename_i s' he; obtain rfl := Option.some.inj hs; exact V1.sub_rel h he v
    · cases hs
  | tup l =>
    simp only [SV.sub] at hs
    split at hs
    · rename_i l' hl
      obtain rfl := Option.some.inj hs
      simp only [SV.rel, mapOpt_relL (fun x y hxy v => V1.sub_rel h hxy v) hl]
    · cases hs
  | undef => simp only [SV.sub] at hs; obtain rfl := Option.some.inj hs; exact Iff.rfl
theorem Slot.sub_rel (h : R.Ok ρ β ρ' β') {s t : Slot} (hs : s.sub R = some t) (v : Value) : t.rel ρ' β' v ↔ s.rel ρ β v := by
  simp only [Slot.sub] at hs
  split at hs
  · rename_i g' v' hg hv
    obtain rfl := Option.some.inj hs
    simp only [Slot.rel, X.B, X.sub_den h.x hg, SV.sub_rel h hv]
  · cases hs
theorem HE.sub_ok (h : R.Ok ρ β ρ' β') {e f : HE} (hs : e.sub R = some f) (b : BI) : EOk ρ' β' W w b f ↔ EOk ρ β W w b e := by
  simp only [HE.sub] at hs
  split at hs
  · rename_i bd gd hb hgd
    obtain rfl := Option.some.inj hs
    obtain ⟨own, body, eg⟩ := e
    simp only at hb hgd ⊢
    have hgB : gd.B ρ' = eg.B ρ := by simp only [X.B, X.sub_den h.x hgd]
    unfold EOk
    simp only [hgB]
    refine forall_congr' fun _ => ?_
    cases body with
    | cells l =>
      simp only [Body.sub] at hb
      split at hb
      · rename_i l' hl
        obtain rfl := Option.some.inj hb
        obtain ⟨hlen, hget⟩ := mapOpt_get hl
        simp only
        constructor
        · rintro ⟨p, h1, h2, h3⟩
          refine ⟨p, h1, h2, fun j c hj => ?_⟩
          obtain ⟨y, hy, hs⟩ := hget j c hj
          obtain ⟨v, h4, h5⟩ := h3 j y hy
          exact ⟨v, h4, (Sc.sub_rel h hs v).1 h5⟩
        · rintro ⟨p, h1, h2, h3⟩
          refine ⟨p, h1, h2, fun j c hj => ?_⟩
          have hjl : j < l.length := by rw [← hlen]; exact (List.getElem?_eq_some_iff.1 hj).1
          obtain ⟨y, hy, hs⟩ := hget j l[j] (by simp [hjl])
          obtain rfl := Option.some.inj (hy.symm.trans hj)
          obtain ⟨v, h4, h5⟩ := h3 j l[j] (by simp [hjl])
          exact ⟨v, h4, (Sc.sub_rel h hs v).2 h5⟩
      · cases hb
    | arr sh a n =>
      simp only [Body.sub] at hb
      split at hb
      · rename_i a' n' ha hn
        obtain rfl := Option.some.inj hb
        simp only [X.I, X.sub_den h.x ha, X.sub_den h.x hn]
      · cases hb
    | mat sh a n =>
      simp only [Body.sub] at hb
      split at hb
      · rename_i a' n' ha hn
        obtain rfl := Option.some.inj hb
        simp only [X.I, X.sub_den h.x ha, X.sub_den h.x hn]
      · cases hb
    | gone => simp only [Body.sub] at hb; obtain rfl := Option.some.inj hb; exact Iff.rfl
  · cases hs
/-! the identity -/
def idR (N K : Nat) : Ren := ⟨N, .var, K, id⟩
variable {N K : Nat}
theorem mapOpt_id {α : Type} {f : α → Option α} (hf : ∀ x y, f x = some y → y = x) : ∀ {l m : List α}, mapOpt f l = some m → m = l
  | [], m, h => by simp [mapOpt] at h; exact h
  | x :: l, m, h => by
    simp only [mapOpt] at h
    split at h
    · rename_i y m' h1 h2
      obtain rfl := Option.some.inj h
      rw [hf x y h1, mapOpt_id hf h2]
    · cases h
theorem SB.sub_id {b c : SB} (h : b.sub (idR N K) = some c) : c = b := by
  cases b with
  | blk k =>
    by_cases hk : k < K
    · simp [SB.sub, idR, hk] at h; exact h.symm
    · simp [SB.sub, idR, hk] at h
  | row k i =>
    by_cases hk : k < K
    · simp only [SB.sub, idR, hk, if_true] at h
      split at h
      · rename_i j hj; obtain rfl := Option.some.inj h; rw [X.sub_id hj]; rfl
      · cases h
    · simp [SB.sub, idR, hk] at h
theorem Sc0.sub_id {s t : Sc0} (h : s.sub (idR N K) = some t) : t = s := by
  cases s with
  | int k e =>
      simp only [Sc0.sub] at h
      split at h
      · rename_i e' he; obtain rfl := Option.some.inj h; rw [X.sub_id he]
      · cases h
  | bool e =>
      simp only [Sc0.sub] at h
      split at h
      · rename_i e' he; obtain rfl := Option.some.inj h; rw [X.sub_id he]
      · cases h
  | ptr b sz i f =>
      simp only [Sc0.sub] at h
      split at h
      · rename_i e1 e2 he1 he2; obtain rfl := Option.some.inj h; rw [X.sub_id he2, SB.sub_id he1]
      · cases h
  | nilp => simp only [Sc0.sub] at h; obtain rfl := Option.some.inj h; rfl
  | nils => simp only [Sc0.sub] at h; obtain rfl := Option.some.inj h; rfl
  | slc b sz off len cp =>
    cases cp with
    | none =>
        simp only [Sc0.sub] at h
        split at h
        · rename_i e1 e2 e3 he1 he2 he3; obtain rfl := Option.some.inj h; rw [X.sub_id he2, X.sub_id he3, SB.sub_id he1]
        · cases h
    | some c =>
        simp only [Sc0.sub] at h
        split at h
        · rename_i e1 e2 e3 e4 he1 he2 he3 he4; obtain rfl := Option.some.inj h; rw [X.sub_id he2, X.sub_id he3, X.sub_id he4, SB.sub_id he1]
        · cases h
theorem Sc.sub_id {s t : Sc} (h : s.sub (idR N K) = some t) : t = s := by
  cases s with
  | c s =>
      simp only [Sc.sub] at h
      split at h
      · rename_i e' he; obtain rfl := Option.some.inj h; rw [Sc0.sub_id he]
      · cases h
  | fn f a b =>
    simp only [Sc.sub] at h
    split at h
    · rename_i a' b' ha hb; obtain rfl := Option.some.inj h
      rw [mapOpt_id (fun x y => Sc0.sub_id) ha, mapOpt_id (fun x y => Sc0.sub_id) hb]
    · cases h
  | nilf => simp only [Sc.sub] at h; obtain rfl := Option.some.inj h; rfl
theorem V1.sub_id {s t : V1} (h : s.sub (idR N K) = some t) : t = s := by
  cases s with
  | sc s =>
      simp only [V1.sub] at h
      split at h
      · rename_i e' he; obtain rfl := Option.some.inj h; rw [Sc.sub_id he]
      · cases h
  | agg l =>
      simp only [V1.sub] at h
      split at h
      · rename_i e' he; obtain rfl := Option.some.inj h; rw [mapOpt_id (fun x y => Sc.sub_id) he]
      · cases h
theorem SV.sub_id {s t : SV} (h : s.sub (idR N K) = some t) : t = s := by
  cases s with
  | v s =>
      simp only [SV.sub] at h
      split at h
      · rename_i e' he; obtain rfl := Option.some.inj h; rw [V1.sub_id he]
      · cases h
  | tup l =>
      simp only [SV.sub] at h
      split at h
      · rename_i e' he; obtain rfl := Option.some.inj h; rw [mapOpt_id (fun x y => V1.sub_id) he]
      · cases h
  | undef => simp only [SV.sub] at h; obtain rfl := Option.some.inj h; rfl
theorem Slot.sub_id {s t : Slot} (h : s.sub (idR N K) = some t) : t = s := by
  simp only [Slot.sub] at h
  split at h
  · rename_i g v hg hv; obtain rfl := Option.some.inj h; rw [X.sub_id hg, SV.sub_id hv]
  · cases h
theorem optSub_id {s t : Option Slot} (h : optSub (idR N K) s = some t) : t = s := by
  cases s with
  | none => simp only [optSub] at h; obtain rfl := Option.some.inj h; rfl
  | some s =>
      simp only [optSub] at h
      split at h
      · rename_i e' he; obtain rfl := Option.some.inj h; rw [Slot.sub_id he]
      · cases h
theorem HE.sub_id {e f : HE} (h : e.sub (idR N K) = some f) : f = e := by
  simp only [HE.sub] at h
  split at h
  · rename_i b g hb hg; obtain rfl := Option.some.inj h; rw [X.sub_id hg]
    obtain ⟨own, body, eg⟩ := e
    simp only at hb ⊢
    cases body with
    | cells l =>
      simp only [Body.sub] at hb
      split at hb
      · rename_i e' he; obtain rfl := Option.some.inj hb; rw [mapOpt_id (fun x y => Sc.sub_id) he]
      · cases hb
    | arr sh a n =>
      simp only [Body.sub] at hb
      split at hb
      · rename_i e1 e2 he1 he2; obtain rfl := Option.some.inj hb; rw [X.sub_id he1, X.sub_id he2]
      · cases hb
    | mat sh a n =>
      simp only [Body.sub] at hb
      split at hb
      · rename_i e1 e2 he1 he2; obtain rfl := Option.some.inj hb; rw [X.sub_id he1, X.sub_id he2]
      · cases hb
    | gone => simp only [Body.sub] at hb; obtain rfl := Option.some.inj hb; rfl
  · cases h
/-- every variable and entry that the state names is there -/
structure Scoped (N K : Nat) (s : S) : Prop where
  tmps : ∀ (t : Nat) sl, s.tmps[t]? = some (some sl) → sl.sub (idR N K) = some sl
  heap : ∀ (k : Nat) e, s.heap[k]? = some e → e.sub (idR N K) = some e
  facts : ∀ x ∈ s.facts, x.sub N .var = some x
theorem S.more_eq {s s' : S} {ks : List VK} (h : s.more ks = some s') : s' = { s with ks := s.ks ++ ks } ∧ Scoped s.ks.length s.heap.length s := by
  simp only [S.more] at h
  split at h
  · rename_i t hp f h1 h2 h3
    obtain rfl := Option.some.inj h
    have e1 := mapOpt_id (fun x y => optSub_id (N := s.ks.length) (K := s.heap.length)) h1
    have e2 := mapOpt_id (fun x y => HE.sub_id (N := s.ks.length) (K := s.heap.length)) h2
    have e3 := mapOpt_id (fun x y (hx : X.sub s.ks.length .var x = some y) => X.sub_id hx) h3
    subst e1 e2 e3
    refine ⟨rfl, fun t sl ht => ?_, fun k e hk => ?_, fun x hx => ?_⟩
    · obtain ⟨y, hy, hs⟩ := (mapOpt_get h1).2 t _ ht
      obtain rfl := Option.some.inj (hy.symm.trans ht)
      simp only [optSub] at hs
      split at hs
      · rename_i sl' hsl
        have := Option.some.inj (Option.some.inj hs)
        subst this
        exact hsl
      · cases hs
    · obtain ⟨y, hy, hs⟩ := (mapOpt_get h2).2 k _ hk
      obtain rfl := Option.some.inj (hy.symm.trans hk)
      exact hs
    · obtain ⟨k, hk, rfl⟩ := List.getElem_of_mem hx
      obtain ⟨y, hy, hs⟩ := (mapOpt_get h3).2 k _ (List.getElem?_eq_getElem hk)
      obtain rfl := Option.some.inj (hy.symm.trans (List.getElem?_eq_getElem hk))
      exact hs
  · cases h
theorem idR_ok {δ : List AV} (hN : N ≤ ρ.length) (hb : ∀ k, k < K → (β k).map (·.v) = (β' k).map (·.v)) : (idR N K).Ok ρ β (ρ ++ δ) β' :=
  ⟨fun n hn => by
    have : n < ρ.length := Nat.lt_of_lt_of_le hn hN
    simp [idR, X.den, List.getD_eq_getElem?_getD, List.getElem?_append_left this], hb⟩
end
end Go.Proofs.Ytiiabaklipmbbaa.Vc
