/- The symbolic executor: when a symbolic value stands for a value, and a symbolic state for a frame and a world. -/
import Derived.Test.YtiiabaklipmbbaaVb
namespace Go.Proofs.Ytiiabaklipmbbaa.Vc
noncomputable section
open Go Go.RowKit

/-- what an entry of the symbolic memory stands for -/
structure BV where
  addr : Option Addr
  cap : Nat
  sz : Nat
  rows : Int → Option Addr
  caps : Int → Nat
structure BI where
  v : BV
  own : Option Nat
abbrev Mp := Nat → Option BI
/-- base address, capacity and cells an element -/
def SB.at (ρ : List AV) (β : Mp) : SB → Option (Option Addr × Nat)
  | .blk k => (β k).map fun b => (b.v.addr, b.v.cap)
  | .row k i => (β k).map fun b => (b.v.rows (i.I ρ), b.v.caps (i.I ρ))
def Sc0.rel (ρ : List AV) (β : Mp) : Sc0 → Value → Prop
  | .int k e, v => v = .int k (e.I ρ)
  | .bool e, v => v = .bool (e.B ρ)
  | .ptr b sz i f, v => ∃ p c, b.at ρ β = some (some p, c) ∧ 0 ≤ i.I ρ ∧ v = .pointer (some (p.add ((i.I ρ).toNat * sz + f)))
  | .nilp, v => v = .pointer none
  | .slc b sz off len cp, v => ∃ p c q r, b.at ρ β = some (p, c) ∧ v = .slice q (len.I ρ).toNat r ∧ 0 ≤ off.I ρ ∧ 0 ≤ len.I ρ ∧ (len.I ρ).toNat ≤ r ∧ r ≤ maxLen ∧ (p = none → c = 0) ∧
      (r = 0 ∨ q = p.map (·.add ((off.I ρ).toNat * sz))) ∧ (off.I ρ).toNat + r ≤ c ∧ (∀ e, cp = some e → (r : Int) = e.I ρ) ∧ (cp = none → (off.I ρ).toNat + r = c)
  | .nils, v => v = .slice none 0 0
/-- one list stands for another, member by member -/
def RelL {α β : Type} (r : α → β → Prop) : List α → List β → Prop
  | [], [] => True
  | x :: l, y :: m => r x y ∧ RelL r l m
  | _, _ => False
def Sc.rel (ρ : List AV) (β : Mp) : Sc → Value → Prop
  | .c s, v => s.rel ρ β v
  | .fn f first caps, v => ∃ vs ws, v = .func (.func f) (List.toArray vs) (List.toArray ws) ∧ RelL (Sc0.rel ρ β) first vs ∧ RelL (Sc0.rel ρ β) caps ws
  | .nilf, v => v = .nilFunc
def V1.rel (ρ : List AV) (β : Mp) : V1 → Value → Prop
  | .sc s, v => s.rel ρ β v
  | .agg l, v => ∃ vs, v = .agg (List.toArray vs) ∧ RelL (Sc.rel ρ β) l vs
def SV.rel (ρ : List AV) (β : Mp) : SV → Value → Prop
  | .v x, u => x.rel ρ β u
  | .tup l, u => ∃ vs, u = .tuple (List.toArray vs) ∧ RelL (V1.rel ρ β) l vs
  | .undef, u => u = Go.undef
def Slot.rel (ρ : List AV) (β : Mp) (s : Slot) (v : Value) : Prop := (s.g.B ρ = true → s.v.rel ρ β v) ∧ (s.g.B ρ = false → v = Go.undef)

theorem RelL.length {α β : Type} {r : α → β → Prop} : ∀ {l : List α} {m : List β}, RelL r l m → l.length = m.length
  | [], [], _ => rfl
  | _ :: _, _ :: _, h => by simp [RelL.length h.2]
  | [], _ :: _, h => h.elim
  | _ :: _, [], h => h.elim
theorem RelL.get {α β : Type} {r : α → β → Prop} : ∀ {l : List α} {m : List β} (j : Nat) (x : α), RelL r l m → l[j]? = some x → ∃ y, m[j]? = some y ∧ r x y
  | [], [], _, _, _, h => by simp at h
  | a :: l, b :: m, 0, x, hr, h => by simp at h; subst h; exact ⟨b, rfl, hr.1⟩
  | a :: l, b :: m, j + 1, x, hr, h => by simp at h; obtain ⟨y, h1, h2⟩ := RelL.get j x hr.2 h; exact ⟨y, by simpa using h1, h2⟩
  | [], _ :: _, _, _, h, _ => h.elim
  | _ :: _, [], _, _, h, _ => h.elim
theorem RelL.of_get {α β : Type} {r : α → β → Prop} : ∀ {l : List α} {m : List β}, l.length = m.length → (∀ (j : Nat) x y, l[j]? = some x → m[j]? = some y → r x y) → RelL r l m
  | [], [], _, _ => trivial
  | a :: l, b :: m, hl, h => ⟨h 0 a b rfl rfl, RelL.of_get (by simpa using hl) fun j x y hx hy => h (j + 1) x y (by simpa using hx) (by simpa using hy)⟩
  | [], _ :: _, hl, _ => by simp at hl
  | _ :: _, [], hl, _ => by simp at hl
theorem RelL.mono {α β : Type} {r r' : α → β → Prop} (h : ∀ x y, r x y → r' x y) : ∀ {l : List α} {m : List β}, RelL r l m → RelL r' l m
  | [], [], _ => trivial
  | _ :: _, _ :: _, hr => ⟨h _ _ hr.1, RelL.mono h hr.2⟩
  | [], _ :: _, hr => hr.elim
  | _ :: _, [], hr => hr.elim
theorem RelL.append {α β : Type} {r : α → β → Prop} : ∀ {l : List α} {m : List β} {l' : List α} {m' : List β}, RelL r l m → RelL r l' m' → RelL r (l ++ l') (m ++ m')
  | [], [], _, _, _, h => h
  | _ :: _, _ :: _, _, _, hr, h => ⟨hr.1, RelL.append hr.2 h⟩
  | [], _ :: _, _, _, hr, _ => hr.elim
  | _ :: _, [], _, _, hr, _ => hr.elim
theorem RelL.take {α β : Type} {r : α → β → Prop} : ∀ {l : List α} {m : List β} (n : Nat), RelL r l m → RelL r (l.take n) (m.take n)
  | [], [], _, _ => by simp [RelL]
  | _ :: _, _ :: _, 0, _ => by simp [RelL]
  | _ :: _, _ :: _, n + 1, hr => ⟨hr.1, RelL.take n hr.2⟩
  | [], _ :: _, _, hr => hr.elim
  | _ :: _, [], _, hr => hr.elim
theorem RelL.drop {α β : Type} {r : α → β → Prop} : ∀ {l : List α} {m : List β} (n : Nat), RelL r l m → RelL r (l.drop n) (m.drop n)
  | [], [], _, _ => by simp [RelL]
  | _ :: _, _ :: _, 0, h => h
  | _ :: _, _ :: _, n + 1, hr => RelL.drop n hr.2
  | [], _ :: _, _, hr => hr.elim
  | _ :: _, [], _, hr => hr.elim

/-- what an entry stood for it still stands for -/
def Ext (β β' : Mp) : Prop := ∀ k b, β k = some b → ∃ b', β' k = some b' ∧ b'.v = b.v
theorem Ext.refl (β : Mp) : Ext β β := fun _ b h => ⟨b, h, rfl⟩
theorem Ext.trans {a b c : Mp} (h : Ext a b) (k : Ext b c) : Ext a c := fun i x hx => by
  obtain ⟨y, hy, e⟩ := h i x hx
  obtain ⟨z, hz, e'⟩ := k i y hy
  exact ⟨z, hz, e'.trans e⟩
variable {ρ : List AV} {β β' : Mp}
theorem SB.at_ext (h : Ext β β') {b : SB} {x : Option Addr × Nat} (hx : b.at ρ β = some x) : b.at ρ β' = some x := by
  cases b with
  | blk k =>
    simp only [SB.at, Option.map_eq_some_iff] at hx ⊢
    obtain ⟨y, hy, e⟩ := hx
    obtain ⟨z, hz, ez⟩ := h k y hy
    exact ⟨z, hz, by rw [ez]; exact e⟩
  | row k i =>
    simp only [SB.at, Option.map_eq_some_iff] at hx ⊢
    obtain ⟨y, hy, e⟩ := hx
    obtain ⟨z, hz, ez⟩ := h k y hy
    exact ⟨z, hz, by rw [ez]; exact e⟩
theorem Sc0.rel_ext (h : Ext β β') {s : Sc0} {v : Value} (hr : s.rel ρ β v) : s.rel ρ β' v := by
  cases s with
  | ptr b sz i f => obtain ⟨p, c, h1, h2⟩ := hr; exact ⟨p, c, SB.at_ext h h1, h2⟩
  | slc b sz off len cp => obtain ⟨p, c, q, r, h1, h2⟩ := hr; exact ⟨p, c, q, r, SB.at_ext h h1, h2⟩
  | _ => exact hr
theorem Sc.rel_ext (h : Ext β β') {s : Sc} {v : Value} (hr : s.rel ρ β v) : s.rel ρ β' v := by
  cases s with
  | c s => exact Sc0.rel_ext h hr
  | fn f a b => obtain ⟨vs, ws, h1, h2, h3⟩ := hr; exact ⟨vs, ws, h1, h2.mono fun _ _ => Sc0.rel_ext h, h3.mono fun _ _ => Sc0.rel_ext h⟩
  | nilf => exact hr
theorem V1.rel_ext (h : Ext β β') {s : V1} {v : Value} (hr : s.rel ρ β v) : s.rel ρ β' v := by
  cases s with
  | sc s => exact Sc.rel_ext h hr
  | agg l => obtain ⟨vs, h1, h2⟩ := hr; exact ⟨vs, h1, h2.mono fun _ _ => Sc.rel_ext h⟩
theorem SV.rel_ext (h : Ext β β') {s : SV} {v : Value} (hr : s.rel ρ β v) : s.rel ρ β' v := by
  cases s with
  | v s => exact V1.rel_ext h hr
  | tup l => obtain ⟨vs, h1, h2⟩ := hr; exact ⟨vs, h1, h2.mono fun _ _ => V1.rel_ext h⟩
  | undef => exact hr
theorem Slot.rel_ext (h : Ext β β') {s : Slot} {v : Value} (hr : s.rel ρ β v) : s.rel ρ β' v := ⟨fun hg => SV.rel_ext h (hr.1 hg), hr.2⟩

def FK.val : FK → Int → Value
  | .int k, z => .int k z
  | .bool, z => .bool (decide (z ≠ 0))
/-- the entry's cells lie in the world as it says. W: the blocks that are ours to write -/
def cellOk (w : World) (own : Bool) (p : Addr) (v : Value) : Prop := w.cell? p = some v ∧ (own = true → w.frozen? p = false)
def place (w : World) (W : Nat → Prop) (own : Bool) (b : BI) (p : Addr) : Prop :=
  p.block < w.heap.size ∧ (own = true → p = ⟨p.block, 0, none⟩ ∧ b.own = some p.block ∧ ∀ j, j < b.v.cap * b.v.sz → ∃ v, w.cell? ⟨p.block, j, none⟩ = some v ∧ w.frozen? ⟨p.block, j, none⟩ = false) ∧ (own = false → ¬ W p.block)
def EOk (ρ : List AV) (β : Mp) (W : Nat → Prop) (w : World) (b : BI) (e : HE) : Prop := e.g.B ρ = true →
  match e.body with
  | .gone => True
  | .cells l => ∃ p, b.v.addr = some p ∧ place w W e.own b p ∧ ∀ j c, l[j]? = some c → ∃ v, cellOk w e.own (p.add j) v ∧ c.rel ρ β v
  | .arr sh a n => 0 ≤ n.I ρ ∧ (b.v.addr = none → b.v.cap = 0) ∧ b.v.sz = sh.length ∧ ((n.I ρ = 0 ∧ b.v.cap = 0 ∧ b.own = none) ∨ (n.I ρ = 0 ∧ e.own = false) ∨
      ∃ p, b.v.addr = some p ∧ place w W e.own b p ∧ (n.I ρ).toNat ≤ b.v.cap ∧ ∀ i f k, 0 ≤ i → i < n.I ρ → sh[f]? = some k → cellOk w e.own (p.add (i.toNat * sh.length + f)) (k.val ((a.den ρ).fn i f)))
  | .mat sh m n => 0 ≤ n.I ρ ∧ (b.v.addr = none → b.v.cap = 0) ∧ (n.I ρ = 0 ∨ ∃ p, b.v.addr = some p ∧ place w W false b p ∧ ∀ i, 0 ≤ i → i < n.I ρ →
      0 ≤ (m.den ρ).mlen i ∧ ((m.den ρ).mlen i).toNat ≤ b.v.caps i ∧ b.v.caps i ≤ maxLen ∧ (b.v.rows i = none → b.v.caps i = 0) ∧
      w.cell? (p.add i.toNat) = some (.slice (b.v.rows i) ((m.den ρ).mlen i).toNat (b.v.caps i)) ∧
      ((m.den ρ).mlen i = 0 ∨ ∃ q, b.v.rows i = some q ∧ q.block < w.heap.size ∧ ¬ W q.block ∧ ∀ j f k, 0 ≤ j → j < (m.den ρ).mlen i → sh[f]? = some k → w.cell? (q.add (j.toNat * sh.length + f)) = some (k.val ((m.den ρ).mfn i j f))))

/-- the entry still lies there where old blocks are as they were -/
theorem Below.cell' {w w' : World} (h : Below w.heap.size w w') {p : Addr} {v : Value} (hc : w.cell? p = some v) : w'.cell? p = some v := by
  rw [h.cell (World.block_lt_of_cell? w p hc)]; exact hc
theorem Below.frozen' {w w' : World} (h : Below w.heap.size w w') {p : Addr} {v : Value} (hc : w.cell? p = some v) (hf : w.frozen? p = false) : w'.frozen? p = false := by
  rw [h.frozen (World.block_lt_of_cell? w p hc)]; exact hf
theorem cellOk.below {w w' : World} (h : Below w.heap.size w w') {own : Bool} {p : Addr} {v : Value} (hc : cellOk w own p v) : cellOk w' own p v :=
  ⟨Below.cell' h hc.1, fun ho => Below.frozen' h hc.1 (hc.2 ho)⟩
variable {W W' : Nat → Prop}
theorem place.below {w w' : World} (h : Below w.heap.size w w') (hW : ∀ r, W' r → W r ∨ w.heap.size ≤ r) {own : Bool} {b : BI} {p : Addr} (hp : place w W own b p) : place w' W' own b p := by
  obtain ⟨h1, h2, h3⟩ := hp
  refine ⟨Nat.lt_of_lt_of_le h1 h.size, fun ho => ?_, fun ho hw => ?_⟩
  · obtain ⟨a, c, d⟩ := h2 ho
    refine ⟨a, c, fun j hj => ?_⟩
    obtain ⟨v, e, f⟩ := d j hj
    exact ⟨v, Below.cell' h e, Below.frozen' h e f⟩
  · rcases hW _ hw with h' | h'
    · exact h3 ho h'
    · omega
theorem EOk.below {w w' : World} (h : Below w.heap.size w w') (hW : ∀ r, W' r → W r ∨ w.heap.size ≤ r) (hx : Ext β β') {b : BI} {e : HE} (he : EOk ρ β W w b e) : EOk ρ β' W' w' b e := by
  unfold EOk at *
  intro hgt
  replace he := he hgt
  split
  · trivial
  · rename_i l hl
    simp only [hl] at he
    obtain ⟨p, h1, h2, h3⟩ := he
    refine ⟨p, h1, h2.below h hW, fun j c hj => ?_⟩
    obtain ⟨v, h4, h5⟩ := h3 j c hj
    exact ⟨v, h4.below h, Sc.rel_ext hx h5⟩
  · rename_i sh a n hl
    simp only [hl] at he
    obtain ⟨h0, h00, hs, h1⟩ := he
    refine ⟨h0, h00, hs, ?_⟩
    rcases h1 with h1 | h1 | ⟨p, h1, h2, h3, h4⟩
    · exact .inl h1
    · exact .inr (.inl h1)
    · exact .inr (.inr ⟨p, h1, h2.below h hW, h3, fun i f k a1 a2 a3 => (h4 i f k a1 a2 a3).below h⟩)
  · rename_i sh m n hl
    simp only [hl] at he
    obtain ⟨h0, h00, h1⟩ := he
    refine ⟨h0, h00, ?_⟩
    rcases h1 with h1 | ⟨p, h1, h2, h3⟩
    · exact .inl h1
    · refine .inr ⟨p, h1, h2.below h hW, fun i a1 a2 => ?_⟩
      obtain ⟨b1, b2, b3, b4, b5, b6⟩ := h3 i a1 a2
      refine ⟨b1, b2, b3, b4, Below.cell' h b5, ?_⟩
      rcases b6 with b6 | ⟨q, c1, c2, c3, c4⟩
      · exact .inl b6
      · refine .inr ⟨q, c1, Nat.lt_of_lt_of_le c2 h.size, fun hw => ?_, fun j f k d1 d2 d3 => Below.cell' h (c4 j f k d1 d2 d3)⟩
        rcases hW _ hw with h' | h'
        · exact c3 h'
        · omega
end
end Go.Proofs.Ytiiabaklipmbbaa.Vc
