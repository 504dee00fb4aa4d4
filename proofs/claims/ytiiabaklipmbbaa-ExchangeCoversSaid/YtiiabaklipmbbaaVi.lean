/- The symbolic executor: nil lists made lists of our own; the code. -/
import Derived.Test.YtiiabaklipmbbaaVh
import Derived.LoopN
import Derived.Deep.LoopGhost
namespace Go.Proofs.Ytiiabaklipmbbaa.Vc
noncomputable section
open Go Go.RowKit
variable {ρ ρ' : List AV} {β β' : Mp} {W W' : Nat → Prop} {w w' : World} {P : Program} {C : Cfg} {B : Nat} {w0 : World}

/-- an entry for a nil list -/
def nilB (sz : Nat) : BI := ⟨⟨none, 0, sz, fun _ => none, fun _ => 0⟩, none⟩
theorem EOk_nil (sh : List FK) (β : Mp) (W : Nat → Prop) (w : World) : EOk ρ β W w (nilB sh.length) (ent true (.arr sh .zeros (.lit 0))) :=
  fun _ => ⟨by rw [lit_I]; exact Int.le_refl _, fun _ => rfl, rfl, .inl ⟨lit_I 0, rfl, rfl⟩⟩
theorem nil_rel (n : Nat) (sh : List FK) : (Sc.c (.slc (.blk n) sh.length (.lit 0) (.lit 0) none)).rel ρ (upd β n (nilB sh.length)) (.slice none 0 0) :=
  ⟨none, 0, none, 0, by simp [SB.at, upd_same, nilB], by rw [lit_I]; rfl, by rw [lit_I]; exact Int.le_refl _, by rw [lit_I]; exact Int.le_refl _, by rw [lit_I]; simp, Nat.zero_le _, fun _ => rfl, .inl rfl, by rw [lit_I]; simp, by simp, by rw [lit_I]; simp⟩
/-- the same values, other names -/
structure Same (C : Cfg) (B : Nat) (w0 : World) (ρ : List AV) (β : Mp) (W : Nat → Prop) (s : S) (s' : S) (a : Act) (w : World) : Prop where
  out : ∃ β' W', Mem C B w0 ρ β' W' s' w ∧ Fr ρ β' s' a ∧ Later ρ β s ρ β' s' ∧ s'.lvl = s.lvl
theorem normNil_sound {s : S} {a : Act} (q : LR) (sh : List FK) (m : Mem C B w0 ρ β W s w) (fr : Fr ρ β s a) : Same C B w0 ρ β W s (normNil s q sh) a w := by
  have hn := m.top s.heap.length (Nat.le_refl _)
  have hx := ext_upd (nilB sh.length) hn
  have hp : PMem C B w0 ρ (upd β s.heap.length (nilB sh.length)) W (s.add (ent true (.arr sh .zeros (.lit 0)))).H w := (m.toPMem.grow hn).addNone hn rfl (fun e' he' => by
    rw [H_new] at he'
    obtain rfl := Option.some.inj he'
    exact EOk_nil sh _ _ _)
  have hm := m.add hp
  have fr' : Fr ρ (upd β s.heap.length (nilB sh.length)) (s.add (ent true (.arr sh .zeros (.lit 0)))) a := Fr.ext hx fr rfl
  have hl : Later ρ β s ρ (upd β s.heap.length (nilB sh.length)) (s.add (ent true (.arr sh .zeros (.lit 0)))) := Later.of_ext hx rfl (by simp [S.add])
  have same : Same C B w0 ρ β W s s a w := ⟨β, W, m, fr, Later.refl _ _ _, rfl⟩
  unfold normNil
  cases q with
  | slot t =>
    simp only
    split
    · rename_i ht
      refine ⟨_, _, hm.put _ _, ⟨by rw [put_len]; exact fr'.1, fun t' sl hs => ?_⟩, hl.put _ _, put_lvl _ _ _⟩
      rw [put_tmps] at hs
      split at hs
      · rename_i hc
        obtain rfl := Option.some.inj (Option.some.inj hs)
        obtain rfl := Option.some.inj hc.1
        have : a.tmps.getD t Go.undef = .slice none 0 0 := (fr.2 t _ ht).1 rfl
        rw [this]
        exact ⟨fun _ => nil_rel _ _, fun h => by cases h⟩
      · exact fr'.2 t' sl hs
    · exact same
  | cell t j =>
    simp only
    split
    · rename_i g0 k sz i f ht
      split
      · rename_i l g hk
        split
        · rename_i hj
          have hkl : k < s.heap.length := (List.getElem?_eq_some_iff.1 hk).1
          refine ⟨_, _, ⟨⟨hm.below, hm.size, hm.wlo, fun k' e b hk' hb' => ?_, hm.dist, hm.own, hm.glob⟩, fun k' h => hm.all k' (by simpa using h), fun k' h => hm.top k' (by simpa using h), hm.facts, hm.kt⟩, ⟨fr'.1, fr'.2⟩, ⟨hl.env, hl.ks, by simpa using hl.len, hl.map⟩, rfl⟩
          simp only [S.H, List.getElem?_set] at hk'
          split at hk'
          · rename_i heq
            subst heq
            have hlen : k < (s.add (ent true (.arr sh .zeros (.lit 0)))).heap.length := by simp [S.add]; omega
            rw [if_pos hlen] at hk'
            obtain rfl := Option.some.inj hk'
            have hold := hm.heap k ⟨true, .cells l, g⟩ b (by simp [S.H, S.add, List.getElem?_append_left hkl, hk]) hb'
            intro hgt
            obtain ⟨p, h1, h2, h3⟩ := hold hgt
            refine ⟨p, h1, h2, fun j' c hj' => ?_⟩
            rw [List.getElem?_set] at hj'
            split at hj'
            · rename_i hjj
              subst hjj
              split at hj'
              · obtain rfl := Option.some.inj hj'
                obtain ⟨v, h4, h5⟩ := h3 j _ hj
                have hv : v = .slice none 0 0 := h5
                exact ⟨v, h4, by rw [hv]; exact nil_rel _ _⟩
              · cases hj'
            · exact h3 j' c hj'
          · exact hm.heap k' e b hk' hb'
        · exact same
      · exact same
    · exact same
/-- a list of our own that is only read from now on -/
theorem freeze_sound {s : S} {a : Act} {k : Nat} {sh : List FK} {x n : X} (hk : s.heap[k]? = some ⟨true, .arr sh x n, .bl true⟩) (m : Mem C B w0 ρ β W s w) (fr : Fr ρ β s a) : Same C B w0 ρ β W s { s with heap := s.heap.set k ⟨false, .arr sh x n, .bl true⟩ } a w := by
  have hkl : k < s.heap.length := (List.getElem?_eq_some_iff.1 hk).1
  obtain ⟨b, hb⟩ := m.all k hkl
  have hx : Ext β (upd β k (strip b)) := fun j bj hj => by
    by_cases h : j = k
    · subst h
      obtain rfl := Option.some.inj (hj.symm.trans hb)
      exact ⟨strip bj, upd_same _ _ _, rfl⟩
    · exact ⟨bj, by rw [upd_other _ _ h]; exact hj, rfl⟩
  have hother : ∀ j bj, (upd β k (strip b)) j = some bj → ∀ r, bj.own = some r → j ≠ k ∧ β j = some bj := fun j bj hj r hr => by
    by_cases h : j = k
    · subst h
      rw [upd_same] at hj
      obtain rfl := Option.some.inj hj
      cases hr
    · rw [upd_other _ _ h] at hj
      exact ⟨h, hj⟩
  refine ⟨upd β k (strip b), fun r => W r ∧ b.own ≠ some r, ⟨⟨m.below, m.size, fun r h => m.wlo r h.1, fun j e bj hj hbj => ?_, fun j j' c c' r hc hc' hr hr' => ?_, fun j c r hc hr => ?_, fun g j hg => by obtain ⟨b', h1, h2⟩ := m.glob g j hg; obtain ⟨b2, h3, h4⟩ := hx j b' h1; exact ⟨b2, h3, by rw [h4]; exact h2⟩⟩, fun j h => ?_, fun j h => ?_, m.facts, m.kt⟩, Fr.ext hx fr rfl, Later.of_ext hx rfl (by simp), rfl⟩
  · simp only [S.H, List.getElem?_set] at hj
    by_cases h : j = k
    · subst h
      rw [if_pos rfl, if_pos hkl] at hj
      obtain rfl := Option.some.inj hj
      rw [upd_same] at hbj
      obtain rfl := Option.some.inj hbj
      obtain ⟨h0, h00, hs, h1⟩ := m.heap j _ b hk hb rfl
      refine fun _ => ⟨h0, h00, hs, ?_⟩
      rcases h1 with h1 | h1 | ⟨p, h1, h2, h3, h4⟩
      · exact .inr (.inl ⟨h1.1, rfl⟩)
      · exact absurd h1.2 (by simp)
      · exact .inr (.inr ⟨p, h1, ⟨h2.1, fun h => (by cases h), fun _ hw => hw.2 (h2.2.1 rfl).2.1⟩, h3, fun i f k a1 a2 a3 => ⟨(h4 i f k a1 a2 a3).1, fun h => (by cases h)⟩⟩)
    · rw [if_neg (fun hh => h hh.symm)] at hj
      rw [upd_other _ _ h] at hbj
      exact EOk.below (Below.refl _ _) (fun r h => .inl h.1) hx (m.heap j e bj hj hbj)
  · obtain ⟨_, h1⟩ := hother j c hc r hr
    obtain ⟨_, h2⟩ := hother j' c' hc' r hr'
    exact m.dist j j' c c' r h1 h2 hr hr'
  · obtain ⟨h0, h1⟩ := hother j c hc r hr
    exact ⟨m.own j c r h1 hr, fun hbr => h0 (m.dist j k c b r h1 hb hr hbr)⟩
  · by_cases hj : j = k
    · subst hj; exact ⟨_, upd_same _ _ _⟩
    · rw [upd_other _ _ hj]; exact m.all j (by simpa using h)
  · have hl : s.heap.length ≤ j := by simpa using h
    rw [upd_other _ _ (by omega)]; exact m.top j hl
theorem freezeAt_sound {s : S} {a : Act} (q : LR) (sh : List FK) (m : Mem C B w0 ρ β W s w) (fr : Fr ρ β s a) : Same C B w0 ρ β W s (freezeAt s q sh) a w := by
  unfold freezeAt
  split
  · split
    · rename_i hk
      split
      · exact freeze_sound hk m fr
      · exact ⟨β, W, m, fr, Later.refl _ _ _, rfl⟩
    · exact ⟨β, W, m, fr, Later.refl _ _ _, rfl⟩
  · exact ⟨β, W, m, fr, Later.refl _ _ _, rfl⟩
theorem normOwn_sound {a : Act} : ∀ (l : List (LR × LM)) {s : S} {β : Mp} {W : Nat → Prop}, Mem C B w0 ρ β W s w → Fr ρ β s a → Same C B w0 ρ β W s (normOwn s l) a w
  | [], s, β, W, m, fr => ⟨β, W, m, fr, Later.refl _ _ _, rfl⟩
  | (q, .own sh) :: l, s, β, W, m, fr => by
    obtain ⟨β1, W1, m1, fr1, l1, e1⟩ := normNil_sound q sh m fr
    obtain ⟨β2, W2, m2, fr2, l2, e2⟩ := normOwn_sound l m1 fr1
    exact ⟨β2, W2, m2, fr2, l1.trans l2, e2.trans e1⟩
  | (q, .lst sh) :: l, s, β, W, m, fr => by
    obtain ⟨β1, W1, m1, fr1, l1, e1⟩ := normNil_sound q sh m fr
    obtain ⟨β3, W3, m3, fr3, l3, e3⟩ := freezeAt_sound q sh m1 fr1
    obtain ⟨β2, W2, m2, fr2, l2, e2⟩ := normOwn_sound l m3 fr3
    exact ⟨β2, W2, m2, fr2, l1.trans (l3.trans l2), e2.trans (e3.trans e1)⟩
  | (q, .sc) :: l, s, β, W, m, fr => normOwn_sound l m fr
  | (q, .win) :: l, s, β, W, m, fr => normOwn_sound l m fr
  | (q, .arr) :: l, s, β, W, m, fr => normOwn_sound l m fr
  | (q, .keep) :: l, s, β, W, m, fr => normOwn_sound l m fr
end
end Go.Proofs.Ytiiabaklipmbbaa.Vc
