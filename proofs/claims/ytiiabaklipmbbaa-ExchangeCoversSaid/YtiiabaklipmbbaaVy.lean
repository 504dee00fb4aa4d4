/- The symbolic executor: one step in the order of the text, carried through. -/
import Derived.Test.YtiiabaklipmbbaaVx
namespace Go.Proofs.Ytiiabaklipmbbaa.Vc
noncomputable section
open Go Go.RowKit
variable {ρ ρ' : List AV} {β β' : Mp} {W W' : Nat → Prop} {w w' : World} {P : Program} {C : Cfg} {B : Nat} {w0 : World}

theorem Mem.put {s : S} (m : Mem C B w0 ρ β W s w) (d : Option Nat) (sl : Slot) : Mem C B w0 ρ β W (s.put d sl) w := by
  cases d with
  | none => exact m
  | some d => exact { toPMem := m.toPMem, all := m.all, top := m.top, facts := m.facts, kt := m.kt }
theorem Mem.with {s : S} (m : Mem C B w0 ρ β W s w) {l : List X} (hl : ∀ x ∈ l, x.B ρ = true) : Mem C B w0 ρ β W (s.with l) w :=
  { toPMem := m.toPMem, all := m.all, top := m.top, facts := with_ok m.facts hl, kt := m.kt }
theorem Later.put {s : S} {ρ' : List AV} {β' : Mp} {s' : S} (h : Later ρ β s ρ' β' s') (d : Option Nat) (sl : Slot) : Later ρ β s ρ' β' (s'.put d sl) := by
  cases d with
  | none => exact h
  | some d => exact ⟨h.env, h.ks, h.len, h.map⟩
theorem Later.with {s : S} {ρ' : List AV} {β' : Mp} {s' : S} (h : Later ρ β s ρ' β' s') (l : List X) : Later ρ β s ρ' β' (s'.with l) := ⟨h.env, h.ks, h.len, h.map⟩
theorem Later.of_ext {s s' : S} (h : Ext β β') (hk : s'.ks = s.ks) (hl : s.heap.length ≤ s'.heap.length) : Later ρ β s ρ β' s' := ⟨⟨[], by simp⟩, ⟨[], by simp [hk]⟩, hl, fun k b _ hb => h k b hb⟩
/-- an entry that is not there -/
theorem PMem.addNone {H : Nat → Option HE} (m : PMem C B w0 ρ β W H w) {n : Nat} {b : BI} (hn : β n = none) (ho : b.own = none) (he : ∀ e, H n = some e → EOk ρ (upd β n b) W w b e) : PMem C B w0 ρ (upd β n b) W H w := by
  have hx := ext_upd b hn
  refine ⟨m.below, m.size, m.wlo, fun k e b' hk hb' => ?_, fun k k' b1 b2 r h1 h2 o1 o2 => ?_, fun k b1 r h1 o1 => ?_, fun g k hg => ?_⟩
  · by_cases hkn : k = n
    · subst hkn
      rw [upd_same] at hb'
      obtain rfl := Option.some.inj hb'
      exact he e hk
    · rw [upd_other _ _ hkn] at hb'
      exact (m.heap k e b' hk hb').below (Below.refl _ _) (fun r hr => .inl hr) hx
  · by_cases e1 : k = n
    · rw [e1, upd_same] at h1
      obtain rfl := Option.some.inj h1
      rw [ho] at o1; cases o1
    · by_cases e2 : k' = n
      · rw [e2, upd_same] at h2
        obtain rfl := Option.some.inj h2
        rw [ho] at o2; cases o2
      · rw [upd_other _ _ e1] at h1
        rw [upd_other _ _ e2] at h2
        exact m.dist k k' b1 b2 r h1 h2 o1 o2
  · by_cases e1 : k = n
    · rw [e1, upd_same] at h1
      obtain rfl := Option.some.inj h1
      rw [ho] at o1; cases o1
    · rw [upd_other _ _ e1] at h1
      exact m.own k b1 r h1 o1
  · obtain ⟨b1, h1, h2⟩ := m.glob g k hg
    obtain ⟨b2, h3, h4⟩ := hx k b1 h1
    exact ⟨b2, h3, by rw [h4]; exact h2⟩
/-- one entry more -/
theorem Mem.add {s : S} (m : Mem C B w0 ρ β W s w) {e : HE} {b : BI} {W' : Nat → Prop} {w' : World} (hp : PMem C B w0 ρ (upd β s.heap.length b) W' (s.add e).H w') : Mem C B w0 ρ (upd β s.heap.length b) W' (s.add e) w' where
  toPMem := hp
  all := fun k hk => by
    by_cases h : k = s.heap.length
    · exact ⟨b, by rw [h, upd_same]⟩
    · rw [upd_other _ _ h]; exact m.all k (by simp [S.add] at hk; omega)
  top := fun k hk => by
    simp [S.add] at hk
    rw [upd_other _ _ (by omega)]
    exact m.top k (by omega)
  facts := m.facts
  kt := m.kt
/-- the memory's entries under a heap that has one more -/
theorem PMem.grow {s : S} (m : PMem C B w0 ρ β W s.H w) {e : HE} (hn : β s.heap.length = none) : PMem C B w0 ρ β W (s.add e).H w :=
  { m with
    heap := fun k e' b hk hb => by
      have hkl : k < s.heap.length := by
        rcases Nat.lt_or_ge k s.heap.length with h | h
        · exact h
        · simp only [S.H, S.add] at hk
          by_cases h2 : k = s.heap.length
          · rw [h2, hn] at hb; cases hb
          · rw [List.getElem?_eq_none (by simp; omega)] at hk; cases hk
      exact m.heap k e' b (by simpa [S.H, S.add, List.getElem?_append_left hkl] using hk) hb }
theorem opd_of_fr {s : S} {a : Act} (fr : Fr ρ β s a) (x : Operand) : OpdOk ρ β s a x := fun t ht sl hs => by subst ht; exact fr.2 t sl hs
theorem H_new (s : S) (e : HE) : (s.add e).H s.heap.length = some e := by simp [S.H, S.add]

section
variable {Γ : FuncId → Con} {Qd : List AV → Prop} {ctx : List (List AV → Prop)} {s : S} {a : Act} {ops : Array Oper} {o : Oper} {K : S → Tree} {K' : Act → World → Prop} {Q : Exit → Act → World → Prop}
/-- what is asked of whatever comes behind -/
def Onw (C : Cfg) (B : Nat) (w0 : World) (Γ : FuncId → Con) (Qd : List AV → Prop) (ctx : List (List AV → Prop)) (ρ : List AV) (β : Mp) (s : S) (ds : List Deferred) (K : S → Tree) (K' : Act → World → Prop) : Prop :=
  ∀ ρ' β' W' s' a' w' ctx', (∃ d, ctx' = ctx ++ d) → ctx'.length = s'.lvl → Mem C B w0 ρ' β' W' s' w' → Fr ρ' β' s' a' → Later ρ β s ρ' β' s' → a'.defers = ds → (K s').den Γ Qd ρ' ctx' → K' a' w'
theorem put_defers (a : Act) (d : Option Nat) (v : Value) : (a.put d v).defers = a.defers := by cases d <;> rfl
theorem put_lvl (s : S) (d : Option Nat) (sl : Slot) : (s.put d sl).lvl = s.lvl := by cases d <;> rfl
theorem put_heap (s : S) (d : Option Nat) (sl : Slot) : (s.put d sl).heap = s.heap := by cases d <;> rfl
theorem put_ks (s : S) (d : Option Nat) (sl : Slot) : (s.put d sl).ks = s.ks := by cases d <;> rfl
/-- the frame's part of an operation that leaves old memory as it is -/
theorem qop_seq (hC : C.Ok P) (hlv : ctx.length = s.lvl) {g : X} {r : R} (hq : qop C s g o = some r) (m : Mem C B w0 ρ β W s w) (fr : Fr ρ β s a) (hgs : guardOf s ops o = some g ∨ (guardOf s ops o).map (fun g => g.B ρ) = some true ∧ g = .bl true)
    (hden : (needAll ((r.needs.filter fun x => !s.holds g x).map (imp g)) (K (((addE s g r.add).with ((r.needs.filter fun x => !s.holds g x).map (imp g))).put o.dst { g := g, v := r.v }))).den Γ Qd ρ ctx)
    (hK : Onw C B w0 Γ Qd ctx ρ β s a.defers K K') :
    if Region.wanted o (yielded ops a.tmps) then o.wp P a w K' Q else K' (a.put o.dst Go.undef) w := by
  have hw : Region.wanted o (yielded ops a.tmps) = g.B ρ := by
    have hx : ∀ j b t, o.guard = some (j, b) → (ops[j]?).bind (·.dst) = some t → ∀ sl, s.tmps[t]? = some (some sl) → sl.rel ρ β (a.tmps.getD t Go.undef) ∧ t < a.tmps.size :=
      fun j b t _ _ sl hs => ⟨fr.2 t sl hs, by rw [fr.1]; exact (List.getElem?_eq_some_iff.1 hs).1⟩
    rcases hgs with h | ⟨h, rfl⟩
    · exact guard_sound h hx
    · cases hgo : guardOf s ops o with
      | none => rw [hgo] at h; cases h
      | some g' => rw [hgo] at h; rw [guard_sound hgo hx]; exact Option.some.inj h
  obtain ⟨hnd, hd⟩ := needAll_den hden
  rw [hw]
  cases hg : g.B ρ
  · -- passed over
    simp only [Bool.false_eq_true, if_false]
    cases hadd : r.add with
    | none =>
      rw [hadd] at hd
      exact hK ρ β W _ _ w ctx ⟨[], by simp⟩ (by rw [put_lvl]; exact hlv) ((m.with hnd).put _ _) (Fr.put (s := s.with _) ⟨fr.1, fr.2⟩ ⟨fun h => (by rw [hg] at h; cases h), fun _ => rfl⟩) (((Later.refl ρ β s).with _).put _ _) (put_defers _ _ _) hd
    | some e =>
      rw [hadd] at hd
      have hn := m.top s.heap.length (Nat.le_refl _)
      let b : BI := ⟨⟨none, 0, 0, fun _ => none, fun _ => 0⟩, none⟩
      have hp : PMem C B w0 ρ (upd β s.heap.length b) W (s.add (guarded g e)).H w := (m.toPMem.grow hn).addNone hn rfl (fun e' he' => by
        rw [H_new] at he'
        obtain rfl := Option.some.inj he'
        intro hgt
        simp only [guarded] at hgt
        rw [hg] at hgt; cases hgt)
      have hm := m.add hp
      refine hK ρ _ W _ _ w ctx ⟨[], by simp⟩ (by rw [put_lvl]; exact hlv) ((hm.with (l := (r.needs.filter fun x => !s.holds g x).map (imp g)) hnd).put o.dst ⟨g, r.v⟩) (Fr.put (s := (s.add (guarded g e)).with _) (Fr.ext (ext_upd b hn) fr rfl) ⟨fun h => (by rw [hg] at h; cases h), fun _ => rfl⟩) (((Later.of_ext (s := s) (s' := s.add (guarded g e)) (ext_upd b hn) rfl (by simp [S.add])).with _).put _ _) (put_defers _ _ _) hd
  · -- carried out
    simp only [if_true]
    have hf := m.facts
    obtain ⟨u, w', β', W', hrun, hrel, hpost⟩ := qop_sound (W := W) (w := w) (a := a) hC hf hg m.glob (fun x _ => opd_of_fr fr x) (fun _ => m.top _ (Nat.le_refl _)) hq (needs_guard hf hg hnd) (fun k e bi hk hb => m.heap k e bi hk hb)
    unfold Oper.wp
    rw [hrun, Oper.upon_value]
    cases hadd : r.add with
    | none =>
      rw [hadd] at hd hpost
      obtain ⟨rfl, rfl, rfl⟩ := hpost
      exact hK ρ β' W' _ _ w' ctx ⟨[], by simp⟩ (by rw [put_lvl]; exact hlv) ((m.with hnd).put _ _) (Fr.put (s := s.with _) ⟨fr.1, fr.2⟩ ⟨fun _ => hrel, fun h => (by rw [hg] at h; cases h)⟩) (((Later.refl ρ β' s).with _).put _ _) (put_defers _ _ _) hd
    | some e =>
      rw [hadd] at hd hpost
      obtain ⟨b, hb, hsz, ho, rfl, rfl, he⟩ := hpost
      have hn := m.top s.heap.length (Nat.le_refl _)
      have hp : PMem C B w0 ρ (upd β s.heap.length b) (fun r => W r ∨ r = w.heap.size) (s.add (guarded g e)).H w' := (m.toPMem.grow hn).add hn hb hsz ho (fun e' he' => by
        rw [H_new] at he'
        obtain rfl := Option.some.inj he'
        exact he g)
      have hm := m.add hp
      exact hK ρ _ _ _ _ w' ctx ⟨[], by simp⟩ (by rw [put_lvl]; exact hlv) ((hm.with (l := (r.needs.filter fun x => !s.holds g x).map (imp g)) hnd).put o.dst ⟨g, r.v⟩) (Fr.put (s := (s.add (guarded g e)).with _) (Fr.ext (ext_upd b hn) fr rfl) ⟨fun _ => hrel, fun h => (by rw [hg] at h; cases h)⟩) (((Later.of_ext (s := s) (s' := s.add (guarded g e)) (ext_upd b hn) rfl (by simp [S.add])).with _).put _ _) (put_defers _ _ _) hd
end
end
end Go.Proofs.Ytiiabaklipmbbaa.Vc
