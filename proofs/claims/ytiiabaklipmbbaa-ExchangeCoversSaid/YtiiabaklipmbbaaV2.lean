/- The symbolic executor: append, carried through. -/
import Derived.Test.YtiiabaklipmbbaaV1
namespace Go.Proofs.Ytiiabaklipmbbaa.Vc
noncomputable section
open Go Go.RowKit
variable {ρ ρ' : List AV} {β β' : Mp} {W W' : Nat → Prop} {w w' : World} {P : Program} {C : Cfg} {B : Nat} {w0 : World}

/-- what is appended to -/
structure BaseOk (ρ : List AV) (β : Mp) (w : World) (sh : List FK) (a n : X) (used : Option Nat) (v : Value) : Prop where
  out : ∃ q cap, v = .slice q (n.I ρ).toNat cap ∧ 0 ≤ n.I ρ ∧ (n.I ρ).toNat ≤ cap ∧ cap ≤ maxLen ∧ (q = none → cap = 0) ∧
    (cap = 0 ∨ ∃ k bi r, used = some k ∧ β k = some bi ∧ bi.own = some r ∧ r < w.heap.size ∧ q = some ⟨r, 0, none⟩ ∧
      (∀ j, j < cap * sh.length → ∃ u, w.cell? ⟨r, j, none⟩ = some u ∧ w.frozen? ⟨r, j, none⟩ = false) ∧
      ∀ (i : Int) f k, 0 ≤ i → i < n.I ρ → sh[f]? = some k → w.cell? ⟨r, i.toNat * sh.length + f, none⟩ = some (k.val ((a.den ρ).fn i f)))
  used : ∀ k, used = some k → ∃ bi, β k = some bi
theorem baseOf_sound {s : S} {sh : List FK} {x : Sc} {a n : X} {used : Option Nat} {nd : List X} (hf : s.factsOk ρ) (hh : ∀ k e b, s.heap[k]? = some e → β k = some b → EOk ρ β W w b e) (h : baseOf s sh x = some (a, n, used, nd)) {v : Value} (hv : x.rel ρ β v) : BaseOk ρ β w sh a n used v ∧ ∀ k, used = some k → ∃ e, s.heap[k]? = some e ∧ e.body ≠ .gone := by
  unfold baseOf at h
  split at h
  · obtain ⟨rfl, h1⟩ := Prod.mk.inj (Option.some.inj h)
    obtain ⟨rfl, h2⟩ := Prod.mk.inj h1
    obtain ⟨rfl, rfl⟩ := Prod.mk.inj h2
    exact ⟨⟨⟨none, 0, hv, by rw [lit_I]; exact Int.le_refl _, by rw [lit_I]; exact Nat.le_refl _, Nat.zero_le _, fun _ => rfl, .inl rfl⟩, fun k hk => by cases hk⟩, fun k hk => by cases hk⟩
  · rename_i k sz len
    split at h
    · rename_i sh' a' n' eg hk
      split at h
      · rename_i hc
        obtain ⟨rfl, rfl, rfl⟩ := hc
        obtain ⟨rfl, h1⟩ := Prod.mk.inj (Option.some.inj h)
        obtain ⟨rfl, h2⟩ := Prod.mk.inj h1
        obtain ⟨rfl, rfl⟩ := Prod.mk.inj h2
        obtain ⟨hk, hgt⟩ := body_sound hf (show (X.bl true).B ρ = true from rfl) hk
        have hv : (Sc0.slc (.blk k) sh.length (.lit 0) len none).rel ρ β v := hv
        obtain ⟨p, c, q, r, hat, rfl, ho0, hl0, hlr, hrm, hpc, hq, hrc, _, hcp⟩ := hv
        simp only [SB.at, Option.map_eq_some_iff] at hat
        obtain ⟨bi, hb, he⟩ := hat
        obtain ⟨rfl, rfl⟩ := Prod.mk.inj he
        have hrc' : r = bi.v.cap := by have := hcp rfl; rw [lit_I] at this; simpa using this
        subst hrc'
        refine ⟨⟨⟨q, bi.v.cap, rfl, hl0, hlr, hrm, ?_, ?_⟩, fun k' hk' => ?_⟩, fun k' hk' => ?_⟩
        · intro hqn
          rcases hq with hq | hq
          · exact hq
          · cases hp : bi.v.addr with
            | none => exact hpc hp
            | some p => rw [hp, hqn] at hq; simp at hq
        · by_cases hc0 : bi.v.cap = 0
          · exact .inl hc0
          · refine .inr ?_
            have hE := (hh k _ bi hk hb) hgt
            simp only at hE
            obtain ⟨_, _, hsz, hE⟩ := hE
            rcases hE with ⟨_, h2, _⟩ | ⟨_, h2⟩ | ⟨p, hp, hpl, hcap, hval⟩
            · exact absurd h2 hc0
            · cases h2
            · obtain ⟨hp1, hp2, _⟩ := hpl
              obtain ⟨a1, a2, a3⟩ := hp2 rfl
              have hqp : q = some ⟨p.block, 0, none⟩ := by
                rcases hq with h | h
                · exact absurd h hc0
                · rw [h, hp, lit_I, ← a1]; simp [Addr.add]
              refine ⟨k, bi, p.block, rfl, hb, a2, hp1, hqp, fun j hj => a3 j (by rw [hsz]; exact hj), fun i f kk i0 i1 hk => ?_⟩
              have := (hval i f kk i0 i1 hk).1
              rw [a1, add0] at this
              exact this
        · cases hk'; exact ⟨bi, hb⟩
        · cases hk'; exact ⟨_, hk, fun h => by cases h⟩
      · cases h
    · cases h
  · rename_i b sz off
    obtain ⟨rfl, h1⟩ := Prod.mk.inj (Option.some.inj h)
    obtain ⟨rfl, h2⟩ := Prod.mk.inj h1
    obtain ⟨rfl, rfl⟩ := Prod.mk.inj h2
    have hv : (Sc0.slc b sz off (.lit 0) (some (.lit 0))).rel ρ β v := hv
    obtain ⟨p, c, q, r, hat, rfl, ho0, hl0, hlr, hrm, hpc, hq, hrc, hcp, _⟩ := hv
    have hr0 : r = 0 := by have := hcp _ rfl; rw [lit_I] at this; omega
    subst hr0
    exact ⟨⟨⟨q, 0, rfl, hl0, hlr, Nat.zero_le _, fun _ => rfl, .inl rfl⟩, fun k hk => by cases hk⟩, fun k hk => by cases hk⟩
  · rename_i k sz n n' _
    split at h
    · rename_i l eg hk
      split at h
      · rename_i hc
        obtain ⟨rfl, rfl, hpos, hn0, hll⟩ := hc
        simp only [Option.map_eq_some_iff] at h
        obtain ⟨a', ha, h2⟩ := h
        obtain ⟨rfl, h1⟩ := Prod.mk.inj h2
        obtain ⟨rfl, h3⟩ := Prod.mk.inj h1
        obtain ⟨rfl, rfl⟩ := Prod.mk.inj h3
        obtain ⟨hk, hgt⟩ := body_sound hf (show (X.bl true).B ρ = true from rfl) hk
        have hv : (Sc0.slc (.blk k) sh.length (.lit 0) (.lit n) (some (.lit n))).rel ρ β v := hv
        obtain ⟨p0, c, q, r, hat, rfl, ho0, hl0, hlr, hrm, hpc, hq, hrc, hcp, _⟩ := hv
        simp only [SB.at, Option.map_eq_some_iff] at hat
        obtain ⟨bi, hb, he⟩ := hat
        obtain ⟨rfl, rfl⟩ := Prod.mk.inj he
        have hrn : (r : Int) = n := by have := hcp _ rfl; rw [lit_I] at this; exact this
        obtain ⟨p, hp, ⟨hp1, hp2, hp3⟩, hval⟩ := (hh k _ bi hk hb) hgt
        obtain ⟨a1, a2, a3⟩ := hp2 rfl
        have hnr : n.toNat = r := by omega
        have hqn : q = none → r = 0 := fun hqn => by
          rcases hq with h | h
          · exact h
          · rw [h, hp] at hqn; simp at hqn
        refine ⟨⟨⟨q, r, rfl, hl0, hlr, hrm, hqn, ?_⟩, fun k' hk' => by cases hk'; exact ⟨bi, hb⟩⟩, fun k' hk' => by cases hk'; exact ⟨_, hk, fun h => by cases h⟩⟩
        by_cases hr0 : r = 0
        · exact .inl hr0
        · have hqp : q = some ⟨p.block, 0, none⟩ := by
            rcases hq with h | h
            · exact absurd h hr0
            · rw [h, hp, lit_I, ← a1]; simp [Addr.add]
          obtain ⟨_, hget⟩ := rowsOf_sound (ρ := ρ) (β := β) hpos n.toNat ha (by omega)
          refine .inr ⟨k, bi, p.block, rfl, hb, a2, hp1, hqp, fun j hj => ?_, fun i f kk i0 i1 hkk => ?_⟩
          · have hjl : j < l.length := by rw [hll, hnr]; exact hj
            obtain ⟨v, h4, _⟩ := hval j _ (List.getElem?_eq_getElem hjl)
            rw [a1, add0] at h4
            exact ⟨v, h4.1, h4.2 rfl⟩
          · rw [lit_I] at i1
            have hfl : f < sh.length := (List.getElem?_eq_some_iff.1 hkk).1
            have hidx : i.toNat * sh.length + f < l.length := by
              rw [hll, hnr]
              have : i.toNat + 1 ≤ r := by omega
              have := Nat.mul_le_mul_right sh.length this
              rw [Nat.add_mul] at this
              omega
            obtain ⟨v, h4, h5⟩ := hval _ _ (List.getElem?_eq_getElem hidx)
            rw [a1, add0] at h4
            have := hget i.toNat f _ kk (by omega) hfl (List.getElem?_eq_getElem hidx) hkk v h5
            have hi : ((0 + i.toNat : Nat) : Int) = i := by omega
            rw [hi] at this
            rw [← this]
            exact h4.1
      · cases h
    · cases h
  · cases h
/-- an entry whose content is given up -/
theorem PMem.give {H : Nat → Option HE} (m : PMem C B w0 ρ β W H w) {k : Nat} {bi : BI} (hk : β k = some bi) : PMem C B w0 ρ (upd β k ⟨bi.v, none⟩) W (fun j => if j = k then some (ent true .gone) else H j) w := by
  have hx : Ext β (upd β k ⟨bi.v, none⟩) := fun j b hb => by
    by_cases h : j = k
    · subst h
      obtain rfl := Option.some.inj (hb.symm.trans hk)
      exact ⟨_, upd_same .., rfl⟩
    · exact ⟨b, by rw [upd_other _ _ h]; exact hb, rfl⟩
  have hback : ∀ j b r, upd β k ⟨bi.v, none⟩ j = some b → b.own = some r → β j = some b ∧ j ≠ k := fun j b r hb ho => by
    by_cases h : j = k
    · rw [h, upd_same] at hb
      obtain rfl := Option.some.inj hb
      cases ho
    · rw [upd_other _ _ h] at hb; exact ⟨hb, h⟩
  refine ⟨m.below, m.size, m.wlo, fun j e b hj hb => ?_, fun j j' b b' r hb hb' ho ho' => ?_, fun j b r hb ho => ?_, fun g j hg => ?_⟩
  · split at hj
    · obtain rfl := Option.some.inj hj
      intro _; trivial
    · rename_i hne
      rw [upd_other _ _ hne] at hb
      exact (m.heap j e b hj hb).below (Below.refl _ _) (fun r hr => .inl hr) hx
  · exact m.dist j j' b b' r (hback j b r hb ho).1 (hback j' b' r hb' ho').1 ho ho'
  · exact m.own j b r (hback j b r hb ho).1 ho
  · obtain ⟨b1, h1, h2⟩ := m.glob g j hg
    obtain ⟨b2, h3, h4⟩ := hx j b1 h1
    exact ⟨b2, h3, by rw [h4]; exact h2⟩
/-- one of our own blocks, that no entry has, under a new entry -/
theorem PMem.reuse {H : Nat → Option HE} (m : PMem C B w0 ρ β W H w) {n : Nat} (hn : β n = none) {e : HE} {b : BI} {r : Nat} (hr : W r) (hno : ∀ k b, β k = some b → b.own ≠ some r) (hb : b.own = some r) (hbut : But r w w') (hbel : Below B w w') (hsz : w'.heap.size = w.heap.size)
    (he : EOk ρ (upd β n b) W w' b e) : PMem C B w0 ρ (upd β n b) W (fun j => if j = n then some e else H j) w' := by
  have hx := ext_upd b hn
  refine ⟨m.below.trans hbel, by rw [hsz]; exact m.size, fun r hr => by rw [hsz]; exact m.wlo r hr, fun k e' b' hk hb' => ?_, fun k k' b1 b2 r' h1 h2 o1 o2 => ?_, fun k b1 r' h1 o1 => ?_, fun g k hg => ?_⟩
  · by_cases hkn : k = n
    · subst hkn
      rw [upd_same] at hb'
      obtain rfl := Option.some.inj hb'
      simp only [if_true] at hk
      obtain rfl := Option.some.inj hk
      exact he
    · rw [upd_other _ _ hkn] at hb'
      simp only [if_neg hkn] at hk
      exact ((m.heap k e' b' hk hb').but hbut hr (hno k b' hb')).below (Below.refl _ _) (fun r hr => .inl hr) hx
  · by_cases e1 : k = n
    · by_cases e2 : k' = n
      · rw [e1, e2]
      · rw [e1, upd_same] at h1
        obtain rfl := Option.some.inj h1
        rw [upd_other _ _ e2] at h2
        rw [hb] at o1
        obtain rfl := Option.some.inj o1
        exact absurd o2 (hno k' b2 h2)
    · rw [upd_other _ _ e1] at h1
      by_cases e2 : k' = n
      · rw [e2, upd_same] at h2
        obtain rfl := Option.some.inj h2
        rw [hb] at o2
        obtain rfl := Option.some.inj o2
        exact absurd o1 (hno k b1 h1)
      · rw [upd_other _ _ e2] at h2
        exact m.dist k k' b1 b2 r' h1 h2 o1 o2
  · by_cases e1 : k = n
    · rw [e1, upd_same] at h1
      obtain rfl := Option.some.inj h1
      rw [hb] at o1
      obtain rfl := Option.some.inj o1
      exact hr
    · rw [upd_other _ _ e1] at h1
      exact m.own k b1 r' h1 o1
  · obtain ⟨b1, h1, h2⟩ := m.glob g k hg
    obtain ⟨b2, h3, h4⟩ := hx k b1 h1
    exact ⟨b2, h3, by rw [h4]; exact h2⟩
/-- a new entry, known from now on -/
theorem PMem.name {H : Nat → Option HE} (m : PMem C B w0 ρ β W H w) {n : Nat} (hn : β n = none) (e : HE) : PMem C B w0 ρ β W (fun j => if j = n then some e else H j) w :=
  m.congr fun k b hb => if_neg fun h => by rw [h, hn] at hb; cases hb
end
end Go.Proofs.Ytiiabaklipmbbaa.Vc
