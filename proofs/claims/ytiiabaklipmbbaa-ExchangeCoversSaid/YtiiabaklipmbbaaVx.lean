/- The symbolic executor: states; one step in the order of the text. -/
import Derived.Test.YtiiabaklipmbbaaVw
namespace Go.Proofs.Ytiiabaklipmbbaa.Vc
noncomputable section
open Go Go.RowKit
variable {ρ ρ' : List AV} {β β' : Mp} {W W' : Nat → Prop} {w w' : World} {P : Program} {C : Cfg}

def KT (ks : List VK) (ρ : List AV) : Prop := ρ.length = ks.length ∧ ∀ (i : Nat) k, ks[i]? = some k → k.fix (ρ.getD i (.i 0)) = ρ.getD i (.i 0)
theorem VK.fix_fix (k : VK) (v : AV) : k.fix (k.fix v) = k.fix v := by cases k <;> rfl
theorem fixL_len : ∀ (ks : List VK) (vs : List AV), (fixL ks vs).length = ks.length
  | [], _ => rfl
  | k :: ks, [] => by simp [fixL, fixL_len ks []]
  | k :: ks, v :: vs => by simp [fixL, fixL_len ks vs]
theorem fixL_KT : ∀ (ks : List VK) (vs : List AV), KT ks (fixL ks vs)
  | [], vs => ⟨by cases vs <;> rfl, fun i k h => by simp at h⟩
  | k :: ks, vs => by
    refine ⟨fixL_len _ _, fun i k' h => ?_⟩
    cases vs with
    | nil =>
      cases i with
      | zero => simp at h; subst h; simp [fixL, VK.fix_fix]
      | succ i => simp at h; have := (fixL_KT ks []).2 i k' h; simpa [fixL] using this
    | cons v vs =>
      cases i with
      | zero => simp at h; subst h; simp [fixL, VK.fix_fix]
      | succ i => simp at h; have := (fixL_KT ks vs).2 i k' h; simpa [fixL] using this
theorem KT.append {a b : List VK} {ρ δ : List AV} (h : KT a ρ) (h' : KT b δ) : KT (a ++ b) (ρ ++ δ) := by
  refine ⟨by simp [h.1, h'.1], fun i k hk => ?_⟩
  rw [List.getElem?_append] at hk
  split at hk
  · rename_i hlt
    have := h.2 i k hk
    rw [← h.1] at hlt
    simp only [List.getD_eq_getElem?_getD, List.getElem?_append_left hlt] at this ⊢
    exact this
  · rename_i hge
    have := h'.2 _ k hk
    have hge' : ρ.length ≤ i := by rw [h.1]; omega
    simp only [List.getD_eq_getElem?_getD, List.getElem?_append_right hge', h.1] at this ⊢
    exact this
/-- the memory, with the entries that β knows -/
structure PMem (C : Cfg) (B : Nat) (w0 : World) (ρ : List AV) (β : Mp) (W : Nat → Prop) (H : Nat → Option HE) (w : World) : Prop where
  below : Below B w0 w
  size : B ≤ w.heap.size
  wlo : ∀ r, W r → B ≤ r ∧ r < w.heap.size
  heap : ∀ k e b, H k = some e → β k = some b → EOk ρ β W w b e
  dist : ∀ k k' b b' r, β k = some b → β k' = some b' → b.own = some r → b'.own = some r → k = k'
  own : ∀ k b r, β k = some b → b.own = some r → W r
  glob : GlobOk C β
def S.H (s : S) : Nat → Option HE := fun k => s.heap[k]?
structure Mem (C : Cfg) (B : Nat) (w0 : World) (ρ : List AV) (β : Mp) (W : Nat → Prop) (s : S) (w : World) : Prop extends PMem C B w0 ρ β W s.H w where
  all : ∀ k, k < s.heap.length → ∃ b, β k = some b
  top : ∀ k, s.heap.length ≤ k → β k = none
  facts : s.factsOk ρ
  kt : KT s.ks ρ
def Fr (ρ : List AV) (β : Mp) (s : S) (a : Act) : Prop := a.tmps.size = s.tmps.length ∧ ∀ (t : Nat) sl, s.tmps[t]? = some (some sl) → sl.rel ρ β (a.tmps.getD t Go.undef)
/-- a later state: names stand for what they stood for -/
structure Later (ρ : List AV) (β : Mp) (s : S) (ρ' : List AV) (β' : Mp) (s' : S) : Prop where
  env : ∃ δ, ρ' = ρ ++ δ
  ks : ∃ d, s'.ks = s.ks ++ d
  len : s.heap.length ≤ s'.heap.length
  map : ∀ k b, k < s.heap.length → β k = some b → ∃ b', β' k = some b' ∧ b'.v = b.v
theorem Later.refl (ρ : List AV) (β : Mp) (s : S) : Later ρ β s ρ β s := ⟨⟨[], by simp⟩, ⟨[], by simp⟩, Nat.le_refl _, fun k b _ h => ⟨b, h, rfl⟩⟩
theorem Later.trans {ρ1 ρ2 ρ3 : List AV} {β1 β2 β3 : Mp} {s1 s2 s3 : S} (h : Later ρ1 β1 s1 ρ2 β2 s2) (k : Later ρ2 β2 s2 ρ3 β3 s3) : Later ρ1 β1 s1 ρ3 β3 s3 := by
  obtain ⟨⟨d1, e1⟩, ⟨k1, f1⟩, l1, m1⟩ := h
  obtain ⟨⟨d2, e2⟩, ⟨k2, f2⟩, l2, m2⟩ := k
  refine ⟨⟨d1 ++ d2, by rw [e2, e1, List.append_assoc]⟩, ⟨k1 ++ k2, by rw [f2, f1, List.append_assoc]⟩, Nat.le_trans l1 l2, fun i b hi hb => ?_⟩
  obtain ⟨b', hb', e⟩ := m1 i b hi hb
  obtain ⟨b'', hb'', e'⟩ := m2 i b' (by omega) hb'
  exact ⟨b'', hb'', e'.trans e⟩

/-- guards: what the symbolic state says is what the frame says -/
theorem guard_sound {s : S} {ops : Array Oper} {o : Oper} {g : X} {a : Act} (h : guardOf s ops o = some g)
    (hx : ∀ j b t, o.guard = some (j, b) → (ops[j]?).bind (·.dst) = some t → ∀ sl, s.tmps[t]? = some (some sl) → sl.rel ρ β (a.tmps.getD t Go.undef) ∧ t < a.tmps.size) :
    Region.wanted o (yielded ops a.tmps) = g.B ρ := by
  unfold guardOf at h
  unfold Region.wanted
  split at h
  · rename_i hg
    obtain rfl := Option.some.inj h
    rw [hg]; rfl
  · rename_i j b hg
    rw [hg]
    split at h
    · rename_i t ht
      have hx' := hx j b t hg ht
      have hyB : ∀ p, a.tmps[t]? = some (.bool p) → yielded ops a.tmps j = some p := fun p h => by simp [yielded, ht, h]
      have hyU : a.tmps[t]? = some Go.undef → yielded ops a.tmps j = none := fun h => by simp [yielded, ht, h, Go.undef]
      split at h
      · rename_i g0 e hsl
        obtain rfl := Option.some.inj h
        have h2 : s.tmps[t]? = some (some ⟨g0, .v (.sc (.c (.bool e)))⟩) := by
          cases h3 : s.tmps[t]? with
          | none => simp [h3] at hsl
          | some o => simp [h3] at hsl; rw [hsl]
        obtain ⟨hr, hlt⟩ := hx' _ h2
        have hgd : a.tmps.getD t Go.undef = a.tmps[t] := by simp [hlt]
        simp only
        rw [xand]
        rw [hgd] at hr
        cases hg0 : g0.B ρ
        · have := hr.2 hg0
          rw [hyU (by rw [Array.getElem?_eq_getElem hlt, this])]
          rfl
        · have h5 : a.tmps[t] = .bool (e.B ρ) := hr.1 hg0
          rw [hyB (e.B ρ) (by rw [Array.getElem?_eq_getElem hlt, h5])]
          cases b
          · simp only [Bool.false_eq_true, if_false, Bool.true_and]
            rw [xnot]
            cases e.B ρ <;> rfl
          · simp only [if_true, Bool.true_and]
            cases e.B ρ <;> rfl
      · rename_i g0 hsl
        obtain rfl := Option.some.inj h
        have h2 : s.tmps[t]? = some (some ⟨g0, .undef⟩) := by
          cases h3 : s.tmps[t]? with
          | none => simp [h3] at hsl
          | some o => simp [h3] at hsl; rw [hsl]
        obtain ⟨hr, hlt⟩ := hx' _ h2
        have hgd : a.tmps.getD t Go.undef = a.tmps[t] := by simp [hlt]
        rw [hgd] at hr
        have h5 : a.tmps[t] = Go.undef := by
          cases hg0 : g0.B ρ
          · exact hr.2 hg0
          · exact hr.1 hg0
        simp only
        rw [hyU (by rw [Array.getElem?_eq_getElem hlt, h5])]
        rfl
      · cases h
    · cases h
theorem getD_put {a : Act} {d : Option Nat} {v : Value} {t : Nat} : (a.put d v).tmps.getD t Go.undef = if d = some t ∧ t < a.tmps.size then v else a.tmps.getD t Go.undef := by
  cases d with
  | none => simp [Act.put]
  | some d =>
    simp only [Act.put, Array.getD_eq_getD_getElem?, Array.getElem?_setIfInBounds]
    by_cases h : d = t
    · subst h
      by_cases h2 : d < a.tmps.size
      · simp [h2]
      · simp [h2]
    · simp [h]
theorem size_put {a : Act} {d : Option Nat} {v : Value} : (a.put d v).tmps.size = a.tmps.size := by cases d <;> simp [Act.put]
theorem put_tmps (s : S) (d : Option Nat) (sl : Slot) (t : Nat) : (s.put d sl).tmps[t]? = if d = some t ∧ t < s.tmps.length then some (some sl) else s.tmps[t]? := by
  cases d with
  | none => simp [S.put]
  | some d =>
    simp only [S.put, setF_eq, List.getElem?_set]
    by_cases h : d = t
    · subst h
      by_cases h2 : d < s.tmps.length
      · simp [h2]
      · simp [h2]
    · simp [h]
theorem put_len (s : S) (d : Option Nat) (sl : Slot) : (s.put d sl).tmps.length = s.tmps.length := by cases d <;> simp [S.put, setF_eq]
theorem Fr.put {s : S} {a : Act} (h : Fr ρ β s a) {d : Option Nat} {sl : Slot} {v : Value} (hv : sl.rel ρ β v) : Fr ρ β (s.put d sl) (a.put d v) := by
  refine ⟨by rw [size_put, put_len]; exact h.1, fun t sl' ht => ?_⟩
  rw [put_tmps] at ht
  rw [getD_put]
  split at ht
  · rename_i hc
    rw [if_pos ⟨hc.1, by rw [h.1]; exact hc.2⟩]
    obtain rfl := Option.some.inj (Option.some.inj ht)
    exact hv
  · rename_i hc
    rw [if_neg (fun hh => hc ⟨hh.1, by rw [← h.1]; exact hh.2⟩)]
    exact h.2 t sl' ht
theorem Fr.ext {s s' : S} {a : Act} (hx : Ext β β') (h : Fr ρ β s a) (ht : s'.tmps = s.tmps) : Fr ρ β' s' a := ⟨by rw [ht]; exact h.1, fun t sl hs => Slot.rel_ext hx (h.2 t sl (by rw [← ht]; exact hs))⟩
theorem needAll_den {Γ : FuncId → Con} {Q : List AV → Prop} {ctx : List (List AV → Prop)} {t : Tree} : ∀ {l : List X}, (needAll l t).den Γ Q ρ ctx → (∀ x ∈ l, x.B ρ = true) ∧ t.den Γ Q ρ ctx
  | [], h => ⟨fun _ hx => (by cases hx), h⟩
  | x :: l, h => by
    obtain ⟨h1, h2⟩ := h
    obtain ⟨h3, h4⟩ := needAll_den (l := l) h2
    exact ⟨fun y hy => by rcases List.mem_cons.1 hy with rfl | hy; exact h1; exact h3 y hy, h4⟩
theorem assumeAll_den {Γ : FuncId → Con} {Q : List AV → Prop} {ctx : List (List AV → Prop)} {t : Tree} : ∀ {l : List X}, (assumeAll l t).den Γ Q ρ ctx → (∀ x ∈ l, x.B ρ = true) → t.den Γ Q ρ ctx
  | [], h, _ => h
  | x :: l, h, hl => assumeAll_den (l := l) (h (hl x (by simp))) fun y hy => hl y (by simp [hy])
theorem with_ok {s : S} {l : List X} (hf : s.factsOk ρ) (hl : ∀ x ∈ l, x.B ρ = true) : (s.with l).factsOk ρ := by
  intro x hx
  simp only [S.with, forceL_eq, List.mem_append] at hx
  rcases hx with hx | hx
  · exact hl x hx
  · exact hf x hx
/-- needs under a guard -/
theorem needs_guard {s : S} {g : X} {l : List X} (hf : s.factsOk ρ) (hg : g.B ρ = true) (h : ∀ x ∈ (l.filter fun x => !s.holds g x).map (imp g), x.B ρ = true) : ∀ x ∈ l, x.B ρ = true := by
  intro x hx
  by_cases hh : s.holds g x = true
  · exact S.holds_B hf hg hh
  · have := h (imp g x) (List.mem_map.2 ⟨x, List.mem_filter.2 ⟨hx, by simpa using hh⟩, rfl⟩)
    rw [ximp, hg] at this
    simpa using this
/-- a new block beside what is there -/
theorem PMem.add {B : Nat} {w0 : World} {H : Nat → Option HE} (m : PMem C B w0 ρ β W H w) {n : Nat} {b : BI} (hn : β n = none) (hb : Below w.heap.size w w') (hsz : w'.heap.size = w.heap.size + 1)
    (ho : b.own = some w.heap.size) (he : ∀ e, H n = some e → EOk ρ (upd β n b) (fun r => W r ∨ r = w.heap.size) w' b e) : PMem C B w0 ρ (upd β n b) (fun r => W r ∨ r = w.heap.size) H w' := by
  have hx := ext_upd b hn
  refine ⟨m.below.trans (hb.mono m.size), by have := m.size; omega, fun r hr => ?_, fun k e b' hk hb' => ?_, fun k k' b1 b2 r h1 h2 o1 o2 => ?_, fun k b1 r h1 o1 => ?_, fun g k hg => ?_⟩
  · rcases hr with hr | rfl
    · have := m.wlo r hr; omega
    · exact ⟨m.size, by omega⟩
  · by_cases hkn : k = n
    · subst hkn
      rw [upd_same] at hb'
      obtain rfl := Option.some.inj hb'
      exact he e hk
    · rw [upd_other _ _ hkn] at hb'
      exact (m.heap k e b' hk hb').below hb (fun r hr => by rcases hr with hr | rfl; exact .inl hr; exact .inr (Nat.le_refl _)) hx
  · by_cases e1 : k = n
    · by_cases e2 : k' = n
      · rw [e1, e2]
      · rw [e1, upd_same] at h1
        obtain rfl := Option.some.inj h1
        rw [upd_other _ _ e2] at h2
        rw [ho] at o1
        obtain rfl := Option.some.inj o1
        have := m.wlo _ (m.own k' b2 _ h2 o2)
        omega
    · rw [upd_other _ _ e1] at h1
      by_cases e2 : k' = n
      · rw [e2, upd_same] at h2
        obtain rfl := Option.some.inj h2
        rw [ho] at o2
        obtain rfl := Option.some.inj o2
        have := m.wlo _ (m.own k b1 _ h1 o1)
        omega
      · rw [upd_other _ _ e2] at h2
        exact m.dist k k' b1 b2 r h1 h2 o1 o2
  · by_cases e1 : k = n
    · rw [e1, upd_same] at h1
      obtain rfl := Option.some.inj h1
      rw [ho] at o1
      obtain rfl := Option.some.inj o1
      exact .inr rfl
    · rw [upd_other _ _ e1] at h1
      exact .inl (m.own k b1 r h1 o1)
  · obtain ⟨b1, h1, h2⟩ := m.glob g k hg
    obtain ⟨b2, h3, h4⟩ := hx k b1 h1
    exact ⟨b2, h3, by rw [h4]; exact h2⟩
/-- old memory as it was -/
theorem PMem.later {B : Nat} {w0 : World} {H : Nat → Option HE} (m : PMem C B w0 ρ β W H w) (hb : Below w.heap.size w w') : PMem C B w0 ρ β W H w' :=
  ⟨m.below.trans (hb.mono m.size), Nat.le_trans m.size hb.size, fun r hr => ⟨(m.wlo r hr).1, Nat.lt_of_lt_of_le (m.wlo r hr).2 hb.size⟩, fun k e b hk hb' => (m.heap k e b hk hb').below hb (fun r hr => .inl hr) (Ext.refl _), m.dist, m.own, m.glob⟩
end
end Go.Proofs.Ytiiabaklipmbbaa.Vc
