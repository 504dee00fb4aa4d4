/- The symbolic executor: reading memory. -/
import Derived.Test.YtiiabaklipmbbaaVr
namespace Go.Proofs.Ytiiabaklipmbbaa.Vc
noncomputable section
open Go Go.RowKit
variable {ρ : List AV} {β β' : Mp} {W W' : Nat → Prop} {w w' : World} {P : Program}

theorem add_add (p : Addr) (i j : Nat) : (p.add i).add j = p.add (i + j) := by
  unfold Addr.add
  by_cases hi : i = 0
  · subst hi; simp
  · by_cases hj : j = 0
    · subst hj; simp
    · rw [if_neg hi, if_neg hj, if_neg (by omega)]; simp; omega
theorem add_block (p : Addr) (i : Nat) : (p.add i).block = p.block := by unfold Addr.add; split <;> rfl
theorem mapOpt_get {α γ : Type} {f : α → Option γ} : ∀ {l : List α} {m : List γ}, mapOpt f l = some m → m.length = l.length ∧ ∀ (j : Nat) (x : α), l[j]? = some x → ∃ y, m[j]? = some y ∧ f x = some y
  | [], m, h => by simp [mapOpt] at h; subst h; simp
  | x :: l, m, h => by
    simp only [mapOpt] at h
    split at h
    · rename_i y m' h1 h2
      obtain rfl := Option.some.inj h
      obtain ⟨h3, h4⟩ := mapOpt_get h2
      refine ⟨by simp [h3], fun j z hz => ?_⟩
      cases j with
      | zero => simp at hz; subst hz; exact ⟨y, rfl, h1⟩
      | succ j => simp at hz; obtain ⟨u, h5, h6⟩ := h4 j z hz; exact ⟨u, by simpa using h5, h6⟩
    · cases h
theorem every_get (sz : Nat) : ∀ (cnt f : Nat) (l : List Sc) (t : Nat), t < (every sz f cnt l).length → (every sz f cnt l)[t]? = l[f + t * sz]?
  | 0, _, _, _, h => by simp [every] at h
  | cnt + 1, f, l, t, h => by
    cases hc : l[f]? with
    | none => simp [every, hc] at h
    | some c =>
      simp only [every, hc] at h ⊢
      cases t with
      | zero => simp [hc]
      | succ t =>
        simp at h
        rw [List.getElem?_cons_succ, every_get sz cnt f (l.drop sz) t h, List.getElem?_drop]
        congr 1
        rw [Nat.add_mul]; omega
theorem sel_rel {i : X} : ∀ (l : List Sc) (j : Nat) (c : Sc), sel i j l = some c → ∀ (t : Nat) (x : Sc) (v : Value), l[t]? = some x → i.I ρ = ((j + t : Nat) : Int) → x.rel ρ β v → c.rel ρ β v
  | [], _, _, h, _, _, _, _, _, _ => by simp [sel] at h
  | [c0], j, c, h, t, x, v, hx, hi, hr => by
    have h0 : c0 = c := by cases c0 <;> simp [sel] at h <;> try exact h
    cases t with
    | zero => simp at hx; subst hx; rw [← h0]; exact hr
    | succ t => simp at hx
  | c0 :: c1 :: l, j, c, h, t, x, v, hx, hi, hr => by
    have rest : ∀ c', sel i (j + 1) (c1 :: l) = some c' → ∀ (t : Nat), (c1 :: l)[t]? = some x → i.I ρ = ((j + 1 + t : Nat) : Int) → c'.rel ρ β v := fun c' h' t ht hi' => sel_rel (c1 :: l) (j + 1) c' h' t x v ht hi' hr
    cases c0 with
    | fn _ _ _ => simp [sel] at h
    | nilf => simp [sel] at h
    | c s =>
      cases s with
      | int k e =>
        simp only [sel] at h
        split at h
        · rename_i k' e' h'
          split at h
          · rename_i hk
            subst hk
            obtain rfl := Option.some.inj h
            show v = _
            rw [xite, xeq, lit_I]
            cases t with
            | zero =>
              simp at hx; subst hx
              rw [if_pos (by simp [hi])]
              exact hr
            | succ t =>
              rw [if_neg (by simp [hi]; omega)]
              exact rest _ h' t (by simpa using hx) (by rw [hi]; congr 1; omega)
          · cases h
        · cases h
      | bool e =>
        simp only [sel] at h
        split at h
        · rename_i e' h'
          obtain rfl := Option.some.inj h
          show v = _
          rw [xitb, xeq, lit_I]
          cases t with
          | zero =>
            simp at hx; subst hx
            rw [if_pos (by simp [hi])]
            exact hr
          | succ t =>
            rw [if_neg (by simp [hi]; omega)]
            exact rest _ h' t (by simpa using hx) (by rw [hi]; congr 1; omega)
        · cases h
      | ptr _ _ _ _ => simp [sel] at h
      | nilp => simp [sel] at h
      | slc _ _ _ _ _ => simp [sel] at h
      | nils => simp [sel] at h
theorem mkGet_I : ∀ (a i : X) (f : Nat), (mkGet a i f).I ρ = (a.den ρ).fn (i.I ρ) f := by
  intro a
  induction a with
  | set b j g e hb hj he =>
    intro i f
    have hd : ((X.set b j g e).den ρ).fn (i.I ρ) f = if i.I ρ = j.I ρ ∧ f = g then e.I ρ else (b.den ρ).fn (i.I ρ) f := rfl
    rw [hd]
    unfold mkGet
    split
    · rename_i hfg
      split
      · rename_i hij; rw [hij, if_pos ⟨rfl, hfg⟩]
      · split
        · rename_i x y
          split
          · rename_i hxy; rw [← hd]; rfl
          · rename_i hxy
            rw [hb, if_neg (fun h => hxy (by have := h.1; rw [lit_I, lit_I] at this; exact this))]
        · rw [← hd]; rfl
    · rename_i hfg
      rw [hb, if_neg (fun h => hfg h.2)]
  | app b n c hb hn hc =>
    intro i f
    have hd : ((X.app b n c).den ρ).fn (i.I ρ) f = if i.I ρ < n.I ρ then (b.den ρ).fn (i.I ρ) f else (c.den ρ).fn (i.I ρ - n.I ρ) f := rfl
    rw [hd]
    unfold mkGet
    split
    · rename_i x m
      rw [lit_I, lit_I]
      split
      · rename_i h; rw [hb, lit_I]
      · rename_i h; rw [hc, lit_I]
    · rw [← hd]; rfl
  | shift b j hb hj =>
    intro i f
    have hd : ((X.shift b j).den ρ).fn (i.I ρ) f = (b.den ρ).fn (i.I ρ + j.I ρ) f := rfl
    rw [hd]
    unfold mkGet
    split
    · rename_i x y
      rw [hb, lit_I, lit_I, lit_I]
    · rw [← hd]; rfl
  | zeros => intro i f; unfold mkGet; rw [lit_I]; rfl
  | _ => intro i f; rfl
theorem FK.get_rel (k : FK) (a i : X) (f : Nat) : (k.get a i f).rel ρ β (k.val ((a.den ρ).fn (i.I ρ) f)) := by
  cases k with
  | int k =>
    show Value.int _ _ = Value.int _ _
    rw [mkGet_I]
  | bool =>
    show Value.bool _ = Value.bool _
    rw [xnot, xeq, lit_I, mkGet_I]
    exact congrArg Value.bool decide_not
theorem fkCells_get {sh : List FK} {a i : X} {f n : Nat} {cs : List Sc} (h : fkCells sh a i f n = some cs) : f + n ≤ sh.length ∧ cs.length = n ∧ ∀ j, j < n → ∃ k, sh[f + j]? = some k ∧ cs[j]? = some (k.get a i (f + j)) := by
  unfold fkCells at h
  split at h
  · rename_i hle
    obtain rfl := Option.some.inj h
    refine ⟨hle, by simp; omega, fun j hj => ?_⟩
    have h1 : f + j < sh.length := by omega
    refine ⟨sh[f + j], by simp [h1], ?_⟩
    rw [List.getElem?_map, List.getElem?_zipIdx, List.getElem?_take, if_pos hj, List.getElem?_drop]
    simp [h1]
  · cases h
/-- n cells from p on hold vs -/
def Lies (w : World) (p : Addr) (vs : List Value) : Prop := ∀ (j : Nat) (v : Value), vs[j]? = some v → w.cell? (p.add j) = some v
theorem exists_list {α : Type} {n : Nat} {p : Nat → α → Prop} (h : ∀ j, j < n → ∃ x, p j x) : ∃ l : List α, l.length = n ∧ ∀ (j : Nat) (x : α), l[j]? = some x → p j x := by
  induction n with
  | zero => exact ⟨[], rfl, fun j x hx => by simp at hx⟩
  | succ n ih =>
    obtain ⟨l, h1, h2⟩ := ih fun j hj => h j (by omega)
    obtain ⟨x, hx⟩ := h n (by omega)
    refine ⟨l ++ [x], by simp [h1], fun j y hy => ?_⟩
    rw [List.getElem?_append] at hy
    split at hy
    · exact h2 j y hy
    · rename_i hj
      rcases Nat.lt_or_ge l.length j with hlt | hge
      · rw [List.getElem?_eq_none (by simp; omega)] at hy; cases hy
      · have : j = n := by omega
        subst this
        simp [h1] at hy; subst hy; exact hx
theorem Lies.relL {p : Addr} {cs : List Sc} {n : Nat} (hl : cs.length = n) (h : ∀ (j : Nat) (c : Sc), cs[j]? = some c → ∃ v, w.cell? (p.add j) = some v ∧ c.rel ρ β v) : ∃ vs, vs.length = n ∧ Lies w p vs ∧ RelL (Sc.rel ρ β) cs vs := by
  obtain ⟨vs, h1, h2⟩ := exists_list (n := n) (p := fun j v => w.cell? (p.add j) = some v ∧ ∀ c, cs[j]? = some c → c.rel ρ β v) fun j hj => by
    obtain ⟨v, h3, h4⟩ := h j cs[j] (by simp [show j < cs.length by omega])
    exact ⟨v, h3, fun c hc => by simp [show j < cs.length by omega] at hc; rw [← hc]; exact h4⟩
  exact ⟨vs, h1, fun j v hj => (h2 j v hj).1, RelL.of_get (by omega) fun j c v hc hv => (h2 j v hv).2 c hc⟩
theorem constOff_I {sz f c : Nat} {i : X} (h : constOff sz i f = some c) : c = (i.I ρ).toNat * sz + f ∧ 0 ≤ i.I ρ := by
  unfold constOff at h
  split at h
  · split at h
    · obtain rfl := Option.some.inj h; rename_i h0; exact ⟨rfl, h0⟩
    · cases h
  · cases h
theorem needs2 {a b : X} (h : ∀ x ∈ [a, b], x.B ρ = true) : a.B ρ = true ∧ b.B ρ = true := ⟨h a (by simp), h b (by simp)⟩
theorem le_of {x y : X} (h : (xb .le x y).B ρ = true) : x.I ρ ≤ y.I ρ := by rw [xle] at h; simpa using h
theorem lt_of {x y : X} (h : (xb .lt x y).B ρ = true) : x.I ρ < y.I ρ := by rw [xlt] at h; simpa using h

theorem body_sound {s : S} {g : X} {k : Nat} {e : HE} (hf : s.factsOk ρ) (hg : g.B ρ = true) (h : s.body g k = some e) : s.heap[k]? = some e ∧ e.g.B ρ = true := by
  unfold S.body at h
  rw [getF_eq] at h
  split at h
  · rename_i e' he
    split at h
    · rename_i hh
      obtain rfl := Option.some.inj h
      exact ⟨he, S.holds_B hf hg hh⟩
    · cases h
  · cases h
theorem loadAt_sound {s : S} {g : X} {b : SB} {sz : Nat} {i : X} {f n : Nat} {nd : List X} {cs : List Sc} (hf : s.factsOk ρ) (hg : g.B ρ = true) (h : s.loadAt g b sz i f n = some (nd, cs)) (hnd : ∀ x ∈ nd, x.B ρ = true)
    (hh : ∀ k e bi, s.heap[k]? = some e → β k = some bi → EOk ρ β W w bi e) {p : Addr} {c : Nat} (hat : b.at ρ β = some (some p, c)) (hi : 0 ≤ i.I ρ) :
    ∃ vs, vs.length = n ∧ Lies w (p.add ((i.I ρ).toNat * sz + f)) vs ∧ RelL (Sc.rel ρ β) cs vs := by
  cases b with
  | row k r =>
    simp only [S.loadAt] at h
    split at h
    · rename_i own sh x m eg hk
      obtain ⟨hk, hgt⟩ := body_sound hf hg hk
      split at h
      · rename_i hsz
        simp only [Option.map_eq_some_iff] at h
        obtain ⟨cs', hcs, he⟩ := h
        obtain ⟨rfl, rfl⟩ := Prod.mk.inj he
        simp only [SB.at, Option.map_eq_some_iff] at hat
        obtain ⟨bi, hb, he⟩ := hat
        obtain ⟨hr, _⟩ := Prod.mk.inj he
        have hE := hh k _ bi hk hb hgt
        simp only at hE
        obtain ⟨h0, _, h1⟩ := hE
        have n1 := le_of (hnd (xb .le (.lit 0) r) (by simp))
        have n2 := lt_of (hnd (xb .lt r m) (by simp))
        have n3 := lt_of (hnd (xb .lt i (.mlen x r)) (by simp))
        rw [lit_I] at n1
        rcases h1 with h1 | ⟨q, _, _, h3⟩
        · omega
        · obtain ⟨_, _, _, _, _, h4⟩ := h3 (r.I ρ) n1 n2
          have n3' : i.I ρ < (x.den ρ).mlen (r.I ρ) := n3
          rcases h4 with h4 | ⟨q', hq', _, _, h5⟩
          · omega
          · obtain rfl : p = q' := by rw [hr] at hq'; exact Option.some.inj hq'
            obtain ⟨hfn, hlen, hget⟩ := fkCells_get hcs
            refine Lies.relL hlen fun j c hj => ?_
            have hjn : j < n := by
              rcases Nat.lt_or_ge j n with h | h
              · exact h
              · rw [List.getElem?_eq_none (by omega)] at hj; cases hj
            obtain ⟨kk, hk1, hk2⟩ := hget j hjn
            obtain rfl := Option.some.inj (hk2.symm.trans hj)
            refine ⟨_, ?_, FK.get_rel kk _ _ _⟩
            have := h5 (i.I ρ) (f + j) kk hi n3' hk1
            rw [add_add, hsz, Nat.add_assoc]
            exact this
      · cases h
    · cases h
  | blk k =>
    simp only [S.loadAt] at h
    split at h
    · rename_i e hk
      obtain ⟨hk, hgt⟩ := body_sound hf hg hk
      simp only [SB.at, Option.map_eq_some_iff] at hat
      obtain ⟨bi, hb, he⟩ := hat
      obtain ⟨hr, _⟩ := Prod.mk.inj he
      have hE := hh k e bi hk hb hgt
      unfold Body.load at h
      split at h
      · -- cells
        rename_i l hl
        rw [hl] at hE
        obtain ⟨q, h1, h2, h3⟩ := hE
        obtain rfl : p = q := by rw [hr] at h1; exact Option.some.inj h1
        split at h
        · rename_i cc hc
          split at h
          · rename_i hle
            rw [dropF_eq] at h
            obtain ⟨rfl, rfl⟩ := Prod.mk.inj (Option.some.inj h)
            obtain ⟨hcc, _⟩ := constOff_I (ρ := ρ) hc
            refine Lies.relL (by simp; omega) fun j c hj => ?_
            rw [List.getElem?_take] at hj
            split at hj
            · rw [List.getElem?_drop] at hj
              obtain ⟨v, h4, h5⟩ := h3 _ _ hj
              exact ⟨v, by rw [add_add, ← hcc]; exact h4.1, h5⟩
            · cases hj
          · cases h
        · split at h
          · rename_i hnn
            simp only [Option.map_eq_some_iff] at h
            obtain ⟨cs', hcs, he⟩ := h
            obtain ⟨rfl, rfl⟩ := Prod.mk.inj he
            obtain ⟨hlen, hget⟩ := mapOpt_get hcs
            have n1 := lt_of (hnd _ (List.mem_cons_of_mem _ (List.mem_singleton.2 rfl)))
            rw [lit_I] at n1
            simp at hlen
            refine Lies.relL hlen fun j c hj => ?_
            have hjn : j < n := by
              rcases Nat.lt_or_ge j n with h | h
              · exact h
              · rw [List.getElem?_eq_none (by omega)] at hj; cases hj
            obtain ⟨y, hy1, hy2⟩ := hget j j (by simp [hjn])
            obtain rfl := Option.some.inj (hy1.symm.trans hj)
            split at hy2
            · rename_i hev
              have ht : (i.I ρ).toNat < (every sz (f + j) ((l.length - f - n) / sz + 1) l).length := by rw [hev]; omega
              have hg := every_get sz _ _ _ _ ht
              obtain ⟨x, hx⟩ : ∃ x, (every sz (f + j) ((l.length - f - n) / sz + 1) l)[(i.I ρ).toNat]? = some x := ⟨_, List.getElem?_eq_getElem ht⟩
              rw [hx] at hg
              obtain ⟨v, h4, h5⟩ := h3 _ _ hg.symm
              refine ⟨v, ?_, sel_rel _ 0 _ hy2 _ x v hx (by simp; omega) h5⟩
              rw [add_add]
              have := h4.1
              rw [show (i.I ρ).toNat * sz + f + j = f + j + (i.I ρ).toNat * sz by omega]
              exact this
            · cases hy2
          · cases h
      · -- arr
        rename_i sh a m hl
        rw [hl] at hE
        split at h
        · rename_i hsz
          simp only [Option.map_eq_some_iff] at h
          obtain ⟨cs', hcs, he⟩ := h
          obtain ⟨rfl, rfl⟩ := Prod.mk.inj he
          have n2 := lt_of (hnd (xb .lt i m) (by simp))
          obtain ⟨h0, h00, hs, h1⟩ := hE
          rcases h1 with ⟨h1, _⟩ | ⟨h1, _⟩ | ⟨q, h1, h2, h3, h4⟩
          · omega
          · omega
          · obtain rfl : p = q := by rw [hr] at h1; exact Option.some.inj h1
            obtain ⟨hfn, hlen, hget⟩ := fkCells_get hcs
            refine Lies.relL hlen fun j c hj => ?_
            have hjn : j < n := by
              rcases Nat.lt_or_ge j n with h | h
              · exact h
              · rw [List.getElem?_eq_none (by omega)] at hj; cases hj
            obtain ⟨kk, hk1, hk2⟩ := hget j hjn
            obtain rfl := Option.some.inj (hk2.symm.trans hj)
            refine ⟨_, ?_, FK.get_rel kk _ _ _⟩
            have := (h4 (i.I ρ) (f + j) kk hi n2 hk1).1
            rw [add_add, hsz, Nat.add_assoc]
            exact this
        · cases h
      · -- mat
        rename_i sh x m hl
        rw [hl] at hE
        split at h
        · rename_i hc
          obtain ⟨rfl, rfl, rfl⟩ := hc
          obtain ⟨rfl, rfl⟩ := Prod.mk.inj (Option.some.inj h)
          have n2 := lt_of (hnd (xb .lt i m) (by simp))
          obtain ⟨h0, h00, h1⟩ := hE
          rcases h1 with h1 | ⟨q, h1, h2, h3⟩
          · omega
          · obtain rfl : p = q := by rw [hr] at h1; exact Option.some.inj h1
            obtain ⟨a1, a2, a3, a4, a5, a6⟩ := h3 (i.I ρ) hi n2
            refine Lies.relL rfl fun j c hj => ?_
            cases j with
            | succ j => simp at hj
            | zero =>
              simp at hj
              subst hj
              refine ⟨_, by simpa [Addr.add] using a5, ?_⟩
              refine ⟨bi.v.rows (i.I ρ), bi.v.caps (i.I ρ), bi.v.rows (i.I ρ), bi.v.caps (i.I ρ), by simp [SB.at, hb], rfl, by simp [X.I, X.den, AV.int], a1, a2, a3, a4, .inr ?_, by simp [X.I, X.den, AV.int], by simp, by simp [X.I, X.den, AV.int]⟩
              simp [X.I, X.den, AV.int, Addr.add]
        · cases h
      · cases h
    · cases h
end
end Go.Proofs.Ytiiabaklipmbbaa.Vc
