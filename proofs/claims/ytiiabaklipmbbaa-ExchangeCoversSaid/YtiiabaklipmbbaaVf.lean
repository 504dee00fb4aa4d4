/- The symbolic executor: stores. -/
import Derived.Test.YtiiabaklipmbbaaVe
import Derived.Laws.IdiomCopy
namespace Go.Proofs.Ytiiabaklipmbbaa.Vc
noncomputable section
open Go Go.RowKit
variable {ρ ρ' : List AV} {β β' : Mp} {W W' : Nat → Prop} {w w' : World} {P : Program} {C : Cfg} {B : Nat} {w0 : World}

/-- only block r was written -/
structure But (r : Nat) (w w' : World) : Prop where
  size : w.heap.size ≤ w'.heap.size
  cell : ∀ p v, w.cell? p = some v → p.block ≠ r → w'.cell? p = some v
  froz : ∀ p v, w.cell? p = some v → w.frozen? p = false → w'.frozen? p = false
theorem cellOk.but {r : Nat} (h : But r w w') {own : Bool} {p : Addr} {v : Value} (hc : cellOk w own p v) (hp : p.block ≠ r) : cellOk w' own p v := ⟨h.cell _ _ hc.1 hp, fun ho => h.froz _ _ hc.1 (hc.2 ho)⟩
theorem place.but {r : Nat} (h : But r w w') {own : Bool} {b : BI} {p : Addr} (hp : place w W own b p) (hr : p.block ≠ r) : place w' W own b p := by
  obtain ⟨h1, h2, h3⟩ := hp
  refine ⟨Nat.lt_of_lt_of_le h1 h.size, fun ho => ?_, h3⟩
  obtain ⟨a, c, d⟩ := h2 ho
  refine ⟨a, c, fun j hj => ?_⟩
  obtain ⟨v, e, f⟩ := d j hj
  exact ⟨v, h.cell _ _ e hr, h.froz _ _ e f⟩
theorem EOk.but {r : Nat} (h : But r w w') (hW : W r) {b : BI} {e : HE} (ho : b.own ≠ some r) (he : EOk ρ β W w b e) : EOk ρ β W w' b e := by
  have hpl : ∀ own p, place w W own b p → p.block ≠ r := fun own p hp hr => by
    cases own with
    | true => exact ho (by rw [(hp.2.1 rfl).2.1, hr])
    | false => exact hp.2.2 rfl (by rw [hr]; exact hW)
  unfold EOk at *
  intro hgt
  replace he := he hgt
  split
  · trivial
  · rename_i l hl
    simp only [hl] at he
    obtain ⟨p, h1, h2, h3⟩ := he
    refine ⟨p, h1, h2.but h (hpl _ _ h2), fun j c hj => ?_⟩
    obtain ⟨v, h4, h5⟩ := h3 j c hj
    exact ⟨v, h4.but h (by rw [add_block]; exact hpl _ _ h2), h5⟩
  · rename_i sh a n hl
    simp only [hl] at he
    obtain ⟨h0, h00, hs, h1⟩ := he
    refine ⟨h0, h00, hs, ?_⟩
    rcases h1 with h1 | h1 | ⟨p, h1, h2, h3, h4⟩
    · exact .inl h1
    · exact .inr (.inl h1)
    · exact .inr (.inr ⟨p, h1, h2.but h (hpl _ _ h2), h3, fun i f k a1 a2 a3 => (h4 i f k a1 a2 a3).but h (by rw [add_block]; exact hpl _ _ h2)⟩)
  · rename_i sh m n hl
    simp only [hl] at he
    obtain ⟨h0, h00, h1⟩ := he
    refine ⟨h0, h00, ?_⟩
    rcases h1 with h1 | ⟨p, h1, h2, h3⟩
    · exact .inl h1
    · refine .inr ⟨p, h1, h2.but h (hpl _ _ h2), fun i a1 a2 => ?_⟩
      obtain ⟨b1, b2, b3, b4, b5, b6⟩ := h3 i a1 a2
      refine ⟨b1, b2, b3, b4, h.cell _ _ b5 (by rw [add_block]; exact hpl _ _ h2), ?_⟩
      rcases b6 with b6 | ⟨q, c1, c2, c3, c4⟩
      · exact .inl b6
      · exact .inr ⟨q, c1, Nat.lt_of_lt_of_le c2 h.size, c3, fun j f k d1 d2 d3 => h.cell _ _ (c4 j f k d1 d2 d3) (by rw [add_block]; intro hq; rw [hq] at c3; exact c3 hW)⟩
theorem size_setCells (b : Nat) : ∀ (vs : List Value) (o : Nat) (w : World), (w.setCells b o vs).heap.size = w.heap.size
  | [], _, _ => rfl
  | v :: vs, o, w => by rw [World.setCells, size_setCells b vs]; simp [World.setCell]
theorem but_setCells (w : World) (r o : Nat) (vs : List Value) : But r w (w.setCells r o vs) :=
  ⟨by rw [size_setCells]; exact Nat.le_refl _, fun p v h hp => by rw [World.cell?_setCells_out r vs o w p (fun h' => absurd h' hp)]; exact h, fun p v h hf => by rw [World.frozen?_setCells]; exact hf⟩
theorem below_setCells (w : World) (r : Nat) {B : Nat} (hB : B ≤ r) : ∀ (vs : List Value) (o : Nat) (w : World), Below B w (w.setCells r o vs)
  | [], _, w => Below.refl _ _
  | v :: vs, o, w => by rw [World.setCells]; exact ((Below.refl _ _).setCell (p := ⟨r, o, none⟩) hB v).trans (below_setCells w r hB vs (o + 1) _)
theorem one_of_rel {c : Sc} {v : Value} (h : c.rel ρ β v) : v.oneCell' = true := by
  cases c with
  | c s => cases s <;> simp only [Sc.rel, Sc0.rel] at h <;> first | (subst h; rfl) | (obtain ⟨p, c, _, _, rfl⟩ := h; rfl) | (obtain ⟨p, c, q, r, _, rfl, _⟩ := h; rfl)
  | fn f a b => obtain ⟨vs, ws, rfl, _⟩ := h; rfl
  | nilf => simp only [Sc.rel] at h; subst h; rfl
theorem all_one {cs : List Sc} {vs : List Value} (h : RelL (Sc.rel ρ β) cs vs) : ∀ v ∈ vs, v.oneCell' = true := by
  intro v hv
  obtain ⟨j, hj, rfl⟩ := List.getElem_of_mem hv
  obtain ⟨y, hy, hr⟩ := h.get j (cs[j]'(by rw [h.length]; exact hj)) (List.getElem?_eq_getElem _)
  obtain rfl := Option.some.inj (hy.symm.trans (List.getElem?_eq_getElem hj))
  exact one_of_rel hr
theorem mergeSc_rel {e : X} {v c r : Sc} (h : mergeSc e v c = some r) {u : Value} : (e.B ρ = true → v.rel ρ β u → r.rel ρ β u) ∧ (e.B ρ = false → c.rel ρ β u → r.rel ρ β u) := by
  unfold mergeSc at h
  split at h
  · rename_i hvc
    obtain rfl := Option.some.inj h
    exact ⟨fun _ hr => by rw [← hvc]; exact hr, fun _ hr => hr⟩
  · split at h
    · split at h
      · rename_i k x k' y hk
        subst hk
        obtain rfl := Option.some.inj h
        refine ⟨fun he hr => ?_, fun he hr => ?_⟩
        · show u = _
          rw [xite, he, if_pos rfl]; exact hr
        · show u = _
          rw [xite, he, if_neg (by simp)]; exact hr
      · cases h
    · rename_i x y
      obtain rfl := Option.some.inj h
      refine ⟨fun he hr => ?_, fun he hr => ?_⟩
      · show u = _
        rw [xitb, he, if_pos rfl]; exact hr
      · show u = _
        rw [xitb, he, if_neg (by simp)]; exact hr
    · cases h
/-- a store into literal cells -/
theorem store_cells {bi : BI} {l l' : List Sc} {c : Nat} (he : EOk ρ β W w bi (ent true (.cells l))) {p : Addr} (hp : bi.v.addr = some p) {vs : List Value} (hle : c + vs.length ≤ l.length)
    (hin0 : ∀ j cc u, l'[j]? = some cc → c ≤ j → vs[j - c]? = some u → cc.rel ρ β u) (hout : ∀ j cc, l'[j]? = some cc → ¬ (c ≤ j ∧ j < c + vs.length) → ∃ c0, l[j]? = some c0 ∧ ∀ u, c0.rel ρ β u → cc.rel ρ β u) :
    p = ⟨p.block, 0, none⟩ ∧ bi.own = some p.block ∧ (∀ j, j < vs.length → (w.cell? ⟨p.block, c + j, none⟩).isSome = true) ∧ (∀ j, j < vs.length → w.frozen? ⟨p.block, c + j, none⟩ = false) ∧
      EOk ρ β W (w.setCells p.block c vs) bi (ent true (.cells l')) := by
  have he := he rfl
  obtain ⟨q, h1, h2, h3⟩ := he
  obtain rfl : p = q := by rw [hp] at h1; exact Option.some.inj h1
  obtain ⟨hpe, hown, hroom⟩ := h2.2.1 rfl
  have hcell : ∀ j, j < l.length → ∃ v, w.cell? ⟨p.block, j, none⟩ = some v ∧ w.frozen? ⟨p.block, j, none⟩ = false := fun j hj => by
    obtain ⟨v, h4, _⟩ := h3 j _ (List.getElem?_eq_getElem hj)
    rw [hpe, add0] at h4
    exact ⟨v, h4.1, h4.2 rfl⟩
  have hin : ∀ j, j < vs.length → (w.cell? ⟨p.block, c + j, none⟩).isSome = true := fun j hj => by
    obtain ⟨v, hv, _⟩ := hcell (c + j) (by omega)
    rw [hv]; rfl
  refine ⟨hpe, hown, hin, fun j hj => by obtain ⟨v, _, hv⟩ := hcell (c + j) (by omega); exact hv, fun _ => ?_⟩
  refine ⟨p, hp, ⟨by rw [size_setCells]; exact h2.1, fun _ => ⟨hpe, hown, fun j hj => ?_⟩, fun hh => by cases hh⟩, fun j cc hj => ?_⟩
  · obtain ⟨v, hv1, hv2⟩ := hroom j hj
    rw [World.frozen?_setCells]
    by_cases hb : c ≤ j ∧ j < c + vs.length
    · have := World.cell?_setCells_in p.block vs c w hin (j - c) (by omega)
      rw [show c + (j - c) = j by omega] at this
      exact ⟨_, this, hv2⟩
    · rw [World.cell?_setCells_out p.block vs c w _ (fun _ _ => by simp; omega)]
      exact ⟨v, hv1, hv2⟩
  · rw [hpe, add0]
    by_cases hb : c ≤ j ∧ j < c + vs.length
    · have hin' := World.cell?_setCells_in p.block vs c w hin (j - c) (by omega)
      rw [show c + (j - c) = j by omega] at hin'
      refine ⟨_, ⟨hin', fun _ => ?_⟩, hin0 j cc _ hj hb.1 (List.getElem?_eq_getElem _)⟩
      rw [World.frozen?_setCells]
      obtain ⟨v, _, hv⟩ := hcell j (by omega)
      exact hv
    · obtain ⟨c0, hlj, himp⟩ := hout j cc hj hb
      obtain ⟨v, h4, h5⟩ := h3 j c0 hlj
      rw [hpe, add0] at h4
      refine ⟨v, ⟨?_, fun _ => ?_⟩, himp v h5⟩
      · rw [World.cell?_setCells_out p.block vs c w _ (fun _ _ => by simp; omega)]; exact h4.1
      · rw [World.frozen?_setCells]; exact h4.2 rfl
/-- the entry behind a store: where it lies, what was there, what is there -/
theorem store_body {bi : BI} {bd bd' : Body} {sz : Nat} {i : X} {f : Nat} {cs : List Sc} {nd : List X} (h : bd.store sz i f cs = some (nd, bd')) (hnd : ∀ x ∈ nd, x.B ρ = true) (he : EOk ρ β W w bi (ent true bd)) {p : Addr} (hp : bi.v.addr = some p) (hi : 0 ≤ i.I ρ)
    {vs : List Value} (hvs : RelL (Sc.rel ρ β) cs vs) (hne : vs ≠ []) :
    p = ⟨p.block, 0, none⟩ ∧ bi.own = some p.block ∧ (∀ j, j < vs.length → (w.cell? ⟨p.block, (i.I ρ).toNat * sz + f + j, none⟩).isSome = true) ∧ (∀ j, j < vs.length → w.frozen? ⟨p.block, (i.I ρ).toNat * sz + f + j, none⟩ = false) ∧
      EOk ρ β W (w.setCells p.block ((i.I ρ).toNat * sz + f) vs) bi (ent true bd') := by
  have he0 := he
  have he := he rfl
  have hlen := hvs.length
  cases bd with
  | cells l =>
    simp only [Body.store] at h
    split at h
    · rename_i c hc
      split at h
      · rename_i hle
        obtain ⟨rfl, rfl⟩ := Prod.mk.inj (Option.some.inj h)
        obtain ⟨hcI, _⟩ := constOff_I (ρ := ρ) hc
        obtain ⟨q, h1, h2, h3⟩ := he
        obtain rfl : p = q := by rw [hp] at h1; exact Option.some.inj h1
        obtain ⟨hpe, hown, hroom⟩ := h2.2.1 rfl
        have hcell : ∀ j, j < l.length → ∃ v, w.cell? ⟨p.block, j, none⟩ = some v ∧ w.frozen? ⟨p.block, j, none⟩ = false ∧ (l[j]?).all (fun c => True) := fun j hj => by
          obtain ⟨v, h4, _⟩ := h3 j _ (List.getElem?_eq_getElem hj)
          rw [hpe, add0] at h4
          exact ⟨v, h4.1, h4.2 rfl, by simp⟩
        rw [← hcI]
        have hin : ∀ j, j < vs.length → (w.cell? ⟨p.block, c + j, none⟩).isSome = true := fun j hj => by
          obtain ⟨v, hv, _⟩ := hcell (c + j) (by omega)
          rw [hv]; rfl
        refine ⟨hpe, hown, hin, fun j hj => by obtain ⟨v, _, hv, _⟩ := hcell (c + j) (by omega); exact hv, fun _ => ?_⟩
        refine ⟨p, hp, ⟨by rw [size_setCells]; exact h2.1, fun _ => ⟨hpe, hown, fun j hj => ?_⟩, fun hh => by cases hh⟩, fun j cc hj => ?_⟩
        · obtain ⟨v, hv1, hv2⟩ := hroom j hj
          rw [World.frozen?_setCells]
          by_cases hb : c ≤ j ∧ j < c + vs.length
          · have := World.cell?_setCells_in p.block vs c w hin (j - c) (by omega)
            rw [show c + (j - c) = j by omega] at this
            exact ⟨_, this, hv2⟩
          · rw [World.cell?_setCells_out p.block vs c w _ (fun _ _ => by simp; omega)]
            exact ⟨v, hv1, hv2⟩
        · unfold setCells at hj
          rw [hpe, add0]
          by_cases hb : c ≤ j ∧ j < c + vs.length
          · have hin' := World.cell?_setCells_in p.block vs c w hin (j - c) (by omega)
            rw [show c + (j - c) = j by omega] at hin'
            have hcs : cs[j - c]? = some cc := by
              rw [List.append_assoc, List.getElem?_append_right (by simp; omega), List.getElem?_append_left (by simp; omega)] at hj
              rw [← hj]; congr 1; simp; omega
            obtain ⟨u, hu, hr⟩ := hvs.get _ _ hcs
            have : vs[j - c]'(by omega) = u := by rw [List.getElem?_eq_getElem (by omega)] at hu; exact Option.some.inj hu
            refine ⟨u, ⟨by rw [hin', this], fun _ => ?_⟩, hr⟩
            rw [World.frozen?_setCells]
            obtain ⟨v, _, hv, _⟩ := hcell j (by omega)
            exact hv
          · have hlj : l[j]? = some cc := by
              by_cases hb1 : j < c
              · rw [List.append_assoc, List.getElem?_append_left (by simp; omega), List.getElem?_take, if_pos hb1] at hj
                exact hj
              · rw [List.getElem?_append_right (by simp; omega), List.getElem?_drop] at hj
                rw [← hj]; congr 1; simp; omega
            obtain ⟨v, h4, h5⟩ := h3 j cc hlj
            rw [hpe, add0] at h4
            refine ⟨v, ⟨?_, fun _ => ?_⟩, h5⟩
            · rw [World.cell?_setCells_out p.block vs c w _ (fun _ _ => by simp; omega)]; exact h4.1
            · rw [World.frozen?_setCells]; exact h4.2 rfl
      · cases h
    · split at h
      · rename_i hc
        obtain ⟨c1, c2, c3⟩ := hc
        simp only [Option.map_eq_some_iff] at h
        obtain ⟨l', hl', h2⟩ := h
        obtain ⟨rfl, rfl⟩ := Prod.mk.inj h2
        have n2 := lt_of (hnd (xb .lt i (.lit ((l.length - f - cs.length) / sz + 1 : Nat))) (by simp))
        rw [lit_I] at n2
        obtain ⟨m, hm⟩ := Int.eq_ofNat_of_zero_le hi
        have hmt : (i.I ρ).toNat = m := by omega
        rw [hmt]
        have hms : m * sz ≤ l.length - f - cs.length := by
          have h1 : m ≤ (l.length - f - cs.length) / sz := by omega
          exact Nat.le_trans (Nat.mul_le_mul_right sz h1) (Nat.div_mul_le_self _ _)
        have hget := mapOpt_get hl'
        have key : ∀ j cc, l'[j]? = some cc → ∃ c0, l[j]? = some c0 ∧ putSel sz f i cs (c0, j) = some cc := fun j cc hj => by
          have hjl : j < l.length := by
            have := (List.getElem?_eq_some_iff.1 hj).1
            rw [hget.1] at this; simpa using this
          obtain ⟨y, hy1, hy2⟩ := hget.2 j (l[j], j) (by simp [hjl])
          obtain rfl := Option.some.inj (hy1.symm.trans hj)
          exact ⟨l[j], List.getElem?_eq_getElem hjl, hy2⟩
        refine store_cells he0 hp (by omega) (fun j cc u hj hcj hu => ?_) (fun j cc hj hb => ?_)
        · obtain ⟨c0, hc0, hput⟩ := key j cc hj
          have hjv : j - (m * sz + f) < vs.length := (List.getElem?_eq_some_iff.1 hu).1
          have hdm : (j - f) % sz = j - (m * sz + f) ∧ (j - f) / sz = m := by
            have : j - f = (j - (m * sz + f)) + sz * m := by rw [Nat.mul_comm sz m]; omega
            rw [this, Nat.add_mul_mod_self_left, Nat.add_mul_div_left _ _ (by omega), Nat.mod_eq_of_lt (by omega), Nat.div_eq_of_lt (by omega)]
            exact ⟨rfl, by omega⟩
          simp only [putSel] at hput
          rw [if_pos (by omega), hdm.1, hdm.2] at hput
          obtain ⟨u', hu', hr⟩ := hvs.get (j - (m * sz + f)) (cs[j - (m * sz + f)]'(by omega)) (List.getElem?_eq_getElem _)
          obtain rfl := Option.some.inj (hu'.symm.trans hu)
          rw [List.getElem?_eq_getElem (by omega)] at hput
          exact (mergeSc_rel hput).1 (by rw [xeq, lit_I, hm]; simp) hr
        · obtain ⟨c0, hc0, hput⟩ := key j cc hj
          refine ⟨c0, hc0, fun u hr => ?_⟩
          simp only [putSel] at hput
          split at hput
          · rename_i hfj
            split at hput
            · rename_i v hv
              refine (mergeSc_rel hput).2 ?_ hr
              have hjv : (j - f) % sz < cs.length := (List.getElem?_eq_some_iff.1 hv).1
              rw [xeq, lit_I, hm]
              simp only [decide_eq_false_iff_not]
              intro hh
              have hh : m = (j - f) / sz := by exact_mod_cast hh
              have hd := Nat.div_add_mod (j - f) sz
              rw [← hh, Nat.mul_comm] at hd
              omega
            · obtain rfl := Option.some.inj hput
              exact hr
          · obtain rfl := Option.some.inj hput
            exact hr
      · cases h
  | arr sh a m =>
    simp only [Body.store] at h
    split at h
    · rename_i hc
      obtain ⟨rfl, hfl⟩ := hc
      simp only [Option.map_eq_some_iff] at h
      obtain ⟨a', ha, h2⟩ := h
      obtain ⟨rfl, rfl⟩ := Prod.mk.inj h2
      have n2 := lt_of (hnd (xb .lt i m) (by simp))
      obtain ⟨h0, h00, hs, h1⟩ := he
      obtain ⟨s1, s2⟩ := setAll_sound (ρ := ρ) (β := β) ha
      rcases h1 with ⟨h1, _⟩ | ⟨h1, _⟩ | ⟨q, h1, h2, h3, h4⟩
      · omega
      · omega
      · obtain rfl : p = q := by rw [hp] at h1; exact Option.some.inj h1
        obtain ⟨hpe, hown, hroom⟩ := h2.2.1 rfl
        have hpos : 0 < vs.length := List.length_pos_iff.2 hne
        have hidx : (i.I ρ).toNat * sh.length + f + vs.length ≤ bi.v.cap * bi.v.sz := by
          rw [hs]
          have : (i.I ρ).toNat + 1 ≤ bi.v.cap := by omega
          have := Nat.mul_le_mul_right sh.length this
          rw [Nat.add_mul] at this
          omega
        have hin : ∀ j, j < vs.length → (w.cell? ⟨p.block, (i.I ρ).toNat * sh.length + f + j, none⟩).isSome = true := fun j hj => by
          obtain ⟨v, hv, _⟩ := hroom _ (show (i.I ρ).toNat * sh.length + f + j < bi.v.cap * bi.v.sz by omega)
          rw [hv]; rfl
        refine ⟨hpe, hown, hin, fun j hj => by obtain ⟨v, _, hv⟩ := hroom _ (show (i.I ρ).toNat * sh.length + f + j < bi.v.cap * bi.v.sz by omega); exact hv, fun _ => ⟨h0, h00, hs, .inr (.inr ⟨p, hp, ⟨by rw [size_setCells]; exact h2.1, fun _ => ⟨hpe, hown, fun j hj => ?_⟩, fun hh => by cases hh⟩, h3, fun r g k r0 r1 hk => ?_⟩)⟩⟩
        · obtain ⟨v, hv1, hv2⟩ := hroom j hj
          rw [World.frozen?_setCells]
          by_cases hb : (i.I ρ).toNat * sh.length + f ≤ j ∧ j < (i.I ρ).toNat * sh.length + f + vs.length
          · have := World.cell?_setCells_in p.block vs _ w hin (j - ((i.I ρ).toNat * sh.length + f)) (by omega)
            rw [show (i.I ρ).toNat * sh.length + f + (j - ((i.I ρ).toNat * sh.length + f)) = j by omega] at this
            exact ⟨_, this, hv2⟩
          · rw [World.cell?_setCells_out p.block vs _ w _ (fun _ _ => by simp; omega)]
            exact ⟨v, hv1, hv2⟩
        · have hgl : g < sh.length := (List.getElem?_eq_some_iff.1 hk).1
          have hold := h4 r g k r0 r1 hk
          rw [hpe, add0] at hold ⊢
          by_cases hb : r = i.I ρ ∧ f ≤ g ∧ g < f + cs.length
          · obtain ⟨rfl, hb1, hb2⟩ := hb
            have hin' := World.cell?_setCells_in p.block vs _ w hin (g - f) (by omega)
            rw [show (i.I ρ).toNat * sh.length + f + (g - f) = (i.I ρ).toNat * sh.length + g by omega] at hin'
            obtain ⟨k', hk', hv'⟩ := s2 (g - f) cs[g - f] (List.getElem?_eq_getElem (by omega))
            rw [show f + (g - f) = g by omega] at hk' hv'
            obtain rfl := Option.some.inj (hk'.symm.trans hk)
            obtain ⟨u, hu, hr⟩ := hvs.get _ _ (List.getElem?_eq_getElem (show g - f < cs.length by omega))
            have : vs[g - f]'(by omega) = u := by rw [List.getElem?_eq_getElem (by omega)] at hu; exact Option.some.inj hu
            refine ⟨by rw [hin', this, hv' u hr], fun _ => ?_⟩
            rw [World.frozen?_setCells]; exact hold.2 rfl
          · rw [s1 r g hb]
            refine ⟨?_, fun _ => by rw [World.frozen?_setCells]; exact hold.2 rfl⟩
            rw [World.cell?_setCells_out p.block vs _ w _ (fun _ _ => ?_)]
            · exact hold.1
            · simp only
              by_cases hri : r = i.I ρ
              · subst hri
                by_cases hgf : g < f
                · left; omega
                · right; have : ¬ g < f + cs.length := fun hh => hb ⟨rfl, by omega, hh⟩; omega
              · rcases Int.lt_or_gt_of_ne hri with hlt | hgt
                · left
                  have : r.toNat + 1 ≤ (i.I ρ).toNat := by omega
                  have := Nat.mul_le_mul_right sh.length this
                  rw [Nat.add_mul] at this
                  omega
                · right
                  have : (i.I ρ).toNat + 1 ≤ r.toNat := by omega
                  have := Nat.mul_le_mul_right sh.length this
                  rw [Nat.add_mul] at this
                  omega
    · cases h
  | _ => simp [Body.store] at h
end
end Go.Proofs.Ytiiabaklipmbbaa.Vc
