/- The symbolic executor: contracts: what is read, what is given. -/
import Derived.Test.YtiiabaklipmbbaaVy
namespace Go.Proofs.Ytiiabaklipmbbaa.Vc
noncomputable section
open Go Go.RowKit
variable {ρ ρ' : List AV} {β β' : Mp} {W W' : Nat → Prop} {w w' : World} {P : Program} {C : Cfg} {B : Nat} {w0 : World}

theorem setAll_sound {sh : List FK} {i : X} : ∀ {l : List Sc} {f : Nat} {a a' : X}, setAll sh a i f l = some a' →
    (∀ j g, ¬ (j = i.I ρ ∧ f ≤ g ∧ g < f + l.length) → (a'.den ρ).fn j g = (a.den ρ).fn j g) ∧
    ∀ (q : Nat) c, l[q]? = some c → ∃ k, sh[f + q]? = some k ∧ ∀ v, c.rel ρ β v → v = k.val ((a'.den ρ).fn (i.I ρ) (f + q))
  | [], f, a, a', h => by simp only [setAll] at h; obtain rfl := Option.some.inj h; exact ⟨fun _ _ _ => rfl, fun q c hq => by simp at hq⟩
  | c0 :: l, f, a, a', h => by
    -- one cell set, then the others
    have key : ∀ (e : X) (k : FK), sh[f]? = some k → setAll sh (.set a i f e) i (f + 1) l = some a' → (∀ v, c0.rel ρ β v → v = k.val (e.I ρ)) →
        (∀ j g, ¬ (j = i.I ρ ∧ f ≤ g ∧ g < f + (c0 :: l).length) → (a'.den ρ).fn j g = (a.den ρ).fn j g) ∧
        ∀ (q : Nat) c, (c0 :: l)[q]? = some c → ∃ k, sh[f + q]? = some k ∧ ∀ v, c.rel ρ β v → v = k.val ((a'.den ρ).fn (i.I ρ) (f + q)) := by
      intro e k hk hs hv
      obtain ⟨h1, h2⟩ := setAll_sound hs
      refine ⟨fun j g hn => ?_, fun q c hq => ?_⟩
      · rw [h1 j g (fun hh => hn ⟨hh.1, by omega, by simp; omega⟩)]
        show (if _ then _ else _) = _
        rw [if_neg]
        exact fun hh => hn ⟨hh.1, by omega, by simp; omega⟩
      · cases q with
        | zero =>
          simp at hq
          subst hq
          refine ⟨k, hk, fun v hr => ?_⟩
          rw [hv v hr, Nat.add_zero, h1 _ _ (by omega)]
          show _ = FK.val k (if _ then _ else _)
          rw [if_pos ⟨rfl, rfl⟩]
        | succ q =>
          obtain ⟨k', hk', hv'⟩ := h2 q c (by simpa using hq)
          exact ⟨k', by rw [← hk']; congr 1; omega, fun v hr => by rw [hv' v hr]; congr 2; omega⟩
    unfold setAll at h
    split at h
    · rename_i heq; cases heq
    · rename_i k e l' heq
      obtain ⟨rfl, rfl⟩ := List.cons.inj heq
      split at h
      · rename_i k' hk'
        split at h
        · rename_i hkk
          subst hkk
          exact key e _ hk' h (fun v hr => hr)
        · cases h
      · cases h
    · rename_i e l' heq
      obtain ⟨rfl, rfl⟩ := List.cons.inj heq
      split at h
      · rename_i hk'
        refine key _ _ hk' h (fun v hr => ?_)
        have hr' : v = .bool (e.B ρ) := hr
        rw [hr', xite, lit_I, lit_I]
        cases e.B ρ <;> rfl
      · cases h
    · cases h
theorem rowsOf_sound {sh : List FK} (hsh : 0 < sh.length) : ∀ (n : Nat) {l : List Sc} {j : Nat} {a a' : X}, rowsOf sh a l j n = some a' → n * sh.length ≤ l.length →
    (∀ (r : Int) g, ¬ ((j : Int) ≤ r ∧ r < j + n) → (a'.den ρ).fn r g = (a.den ρ).fn r g) ∧
    ∀ (r f : Nat) c k, r < n → f < sh.length → l[r * sh.length + f]? = some c → sh[f]? = some k → ∀ v, c.rel ρ β v → v = k.val ((a'.den ρ).fn ((j + r : Nat) : Int) f)
  | 0, l, j, a, a', h, _ => by simp only [rowsOf] at h; obtain rfl := Option.some.inj h; exact ⟨fun _ _ _ => rfl, fun r f c k hr => by omega⟩
  | n + 1, l, j, a, a', h, hl => by
    simp only [rowsOf] at h
    split at h
    · rename_i a1 h1
      obtain ⟨s1, s2⟩ := setAll_sound (ρ := ρ) (β := β) h1
      obtain ⟨r1, r2⟩ := rowsOf_sound hsh n h (by rw [List.length_drop]; rw [Nat.add_mul] at hl; omega)
      rw [lit_I] at s1 s2
      refine ⟨fun r g hn => ?_, fun r f c k hr hf hc hk v hv => ?_⟩
      · rw [r1 r g (by omega), s1 r g (by rintro ⟨h2, _⟩; omega)]
      · cases r with
        | zero =>
          obtain ⟨k', hk', hv'⟩ := s2 f c (by rw [List.getElem?_take, if_pos hf]; simpa using hc)
          simp only [Nat.zero_add] at hk'
          obtain rfl := Option.some.inj (hk'.symm.trans hk)
          rw [hv' v hv, r1 _ _ (by omega)]
          simp
        | succ r =>
          have := r2 r f c k (by omega) hf (by rw [List.getElem?_drop]; rw [← hc]; congr 1; rw [Nat.add_mul]; omega) hk v hv
          rw [this]; congr 2; omega
    · cases h
theorem arrOf_sound {s : S} {g : X} {sh : List FK} {b : SB} {a n : X} {nd : List X} (hf : s.factsOk ρ) (hg : g.B ρ = true) (h : s.arrOf g sh b = some (a, n, nd)) (hnd : ∀ x ∈ nd, x.B ρ = true)
    (hh : ∀ k e bi, s.heap[k]? = some e → β k = some bi → EOk ρ β W w bi e) {p : Option Addr} {c : Nat} (hat : b.at ρ β = some (p, c)) :
    0 ≤ n.I ρ ∧ ∀ (i : Int) f k, 0 ≤ i → i < n.I ρ → sh[f]? = some k → ∃ q, p = some q ∧ q.block < w.heap.size ∧ w.cell? (q.add (i.toNat * sh.length + f)) = some (k.val ((a.den ρ).fn i f)) := by
  cases b with
  | blk k =>
    simp only [S.arrOf] at h
    simp only [SB.at, Option.map_eq_some_iff] at hat
    obtain ⟨bi, hb, he⟩ := hat
    obtain ⟨hr, _⟩ := Prod.mk.inj he
    split at h
    · rename_i own sh' a' n' eg hk
      obtain ⟨hk, hgt⟩ := body_sound hf hg hk
      split at h
      · rename_i hsh
        subst hsh
        obtain ⟨rfl, h2⟩ := Prod.mk.inj (Option.some.inj h)
        obtain ⟨rfl, rfl⟩ := Prod.mk.inj h2
        obtain ⟨h0, _, _, h1⟩ := hh k _ bi hk hb hgt
        refine ⟨h0, fun i f kk i0 i1 hkk => ?_⟩
        rcases h1 with ⟨h1, _⟩ | ⟨h1, _⟩ | ⟨q, h1, h2, h3, h4⟩
        · omega
        · omega
        · exact ⟨q, by rw [← hr]; exact h1, h2.1, (h4 i f kk i0 i1 hkk).1⟩
      · cases h
    · rename_i own l eg hk
      obtain ⟨hk, hgt⟩ := body_sound hf hg hk
      split at h
      · rename_i hpos
        simp only [Option.map_eq_some_iff] at h
        obtain ⟨a', ha, h2⟩ := h
        obtain ⟨rfl, h3⟩ := Prod.mk.inj h2
        obtain ⟨rfl, rfl⟩ := Prod.mk.inj h3
        obtain ⟨q, h1, h2, h3⟩ := hh k _ bi hk hb hgt
        have hle : l.length / sh.length * sh.length ≤ l.length := Nat.div_mul_le_self _ _
        obtain ⟨_, hget⟩ := rowsOf_sound (ρ := ρ) (β := β) hpos _ ha hle
        refine ⟨by rw [lit_I]; exact Int.natCast_nonneg _, fun i f kk i0 i1 hkk => ⟨q, by rw [← hr]; exact h1, h2.1, ?_⟩⟩
        rw [lit_I] at i1
        have hfl : f < sh.length := (List.getElem?_eq_some_iff.1 hkk).1
        have hidx : i.toNat * sh.length + f < l.length := by
          have : i.toNat + 1 ≤ l.length / sh.length := by omega
          have := Nat.mul_le_mul_right sh.length this
          rw [Nat.add_mul] at this
          omega
        obtain ⟨v, hv1, hv2⟩ := h3 _ _ (List.getElem?_eq_getElem hidx)
        have := hget i.toNat f _ kk (by omega) hfl (List.getElem?_eq_getElem hidx) hkk v hv2
        rw [hv1.1, this]
        congr 3
        omega
      · cases h
    · cases h
  | row k r =>
    simp only [S.arrOf] at h
    simp only [SB.at, Option.map_eq_some_iff] at hat
    obtain ⟨bi, hb, he⟩ := hat
    obtain ⟨hr, _⟩ := Prod.mk.inj he
    split at h
    · rename_i own sh' m n' eg hk
      obtain ⟨hk, hgt⟩ := body_sound hf hg hk
      split at h
      · rename_i hsh
        subst hsh
        obtain ⟨rfl, h2⟩ := Prod.mk.inj (Option.some.inj h)
        obtain ⟨rfl, rfl⟩ := Prod.mk.inj h2
        have n1 := le_of (hnd (xb .le (.lit 0) r) (by simp))
        have n2 := lt_of (hnd (xb .lt r n') (by simp))
        rw [lit_I] at n1
        obtain ⟨h0, _, h1⟩ := hh k _ bi hk hb hgt
        rcases h1 with h1 | ⟨q, _, _, h3⟩
        · omega
        · obtain ⟨a1, a2, a3, a4, a5, a6⟩ := h3 (r.I ρ) n1 n2
          refine ⟨a1, fun i f kk i0 i1 hkk => ?_⟩
          have i1' : i < (m.den ρ).mlen (r.I ρ) := i1
          rcases a6 with a6 | ⟨q', b1, b2, _, b4⟩
          · omega
          · exact ⟨q', by rw [← hr]; exact b1, b2, b4 i f kk i0 i1' hkk⟩
      · cases h
    · cases h

/-! what a contract's arguments read as -/
def RdSc (w : World) : Sh0 → Value → List AV → Prop
  | .int k, v, l => ∃ z, v = .int k z ∧ l = [.i z]
  | .bool, v, l => ∃ p, v = .bool p ∧ l = [.b p]
  | .slc sh, v, l => ∃ (q : Option Addr) (n c : Nat) (f : Int → Nat → Int), v = .slice q n c ∧ n ≤ c ∧ c ≤ maxLen ∧ (q = none → c = 0) ∧ l = [.a f, .i (n : Int)] ∧
      ∀ (i : Int) f' k, 0 ≤ i → i < n → sh[f']? = some k → ∃ p, q = some p ∧ p.block < w.heap.size ∧ w.cell? (p.add (i.toNat * sh.length + f')) = some (k.val (f i f'))
  | .mat sh, v, l => ∃ (q : Option Addr) (n c : Nat) (g : Int → Int) (f : Int → Int → Nat → Int) (rows : Int → Option Addr) (caps : Int → Nat), v = .slice q n c ∧ n ≤ c ∧ c ≤ maxLen ∧ (q = none → c = 0) ∧ l = [.m g f, .i (n : Int)] ∧
      ∀ (i : Int), 0 ≤ i → i < n → ∃ p, q = some p ∧ p.block < w.heap.size ∧ 0 ≤ g i ∧ (g i).toNat ≤ caps i ∧ caps i ≤ maxLen ∧ (rows i = none → caps i = 0) ∧
        w.cell? (p.add i.toNat) = some (.slice (rows i) (g i).toNat (caps i)) ∧
        (g i = 0 ∨ ∃ q, rows i = some q ∧ q.block < w.heap.size ∧ ∀ (j : Int) f' k, 0 ≤ j → j < g i → sh[f']? = some k → w.cell? (q.add (j.toNat * sh.length + f')) = some (k.val (f i j f')))
def RdL (w : World) : List Sh0 → List Value → List AV → Prop
  | [], [], l => l = []
  | h :: hs, v :: vs, l => ∃ a b, l = a ++ b ∧ RdSc w h v a ∧ RdL w hs vs b
  | _, _, _ => False
def RdV (w : World) (h : Sh) (v : Value) (l : List AV) : Prop :=
  if h.agg then ∃ vs : List Value, v = .agg vs.toArray ∧ RdL w h.l vs l else RdL w h.l [v] l
def RdA (w : World) : List Sh → List Value → List AV → Prop
  | [], [], l => l = []
  | h :: hs, v :: vs, l => ∃ a b, l = a ++ b ∧ RdV w h v a ∧ RdA w hs vs b
  | _, _, _ => False
theorem fixL_append : ∀ (a b : List VK) (x y : List AV), x.length = a.length → fixL (a ++ b) (x ++ y) = fixL a x ++ fixL b y
  | [], b, [], y, _ => rfl
  | k :: a, b, v :: x, y, h => by simp [fixL, fixL_append a b x y (by simpa using h)]
  | [], _, _ :: _, _, h => by simp at h
  | _ :: _, _, [], _, h => by simp at h
section
variable {s : S} {g : X}
theorem argOf_sound (hf : s.factsOk ρ) (hg : g.B ρ = true) (hh : ∀ k e bi, s.heap[k]? = some e → β k = some bi → EOk ρ β W w bi e) {h : Sh0} {c : Sc} {nd xs : List X} (ha : argOf s g h c = some (nd, xs)) (hnd : ∀ x ∈ nd, x.B ρ = true) {v : Value} (hv : c.rel ρ β v) : xs.length = h.ks.length ∧ RdSc w h v (fixL h.ks (xs.map (X.den ρ))) := by
  unfold argOf at ha
  split at ha
  · split at ha
    · rename_i hk; subst hk
      obtain ⟨rfl, rfl⟩ := Prod.mk.inj (Option.some.inj ha)
      exact ⟨rfl, _, hv, rfl⟩
    · cases ha
  · obtain ⟨rfl, rfl⟩ := Prod.mk.inj (Option.some.inj ha)
    exact ⟨rfl, _, hv, rfl⟩
  · rename_i sh b sz off len cp
    split at ha
    · rename_i hsz
      simp only [Option.map_eq_some_iff] at ha
      obtain ⟨⟨a, n, nd'⟩, h1, h2⟩ := ha
      simp only at h2
      obtain ⟨rfl, rfl⟩ := Prod.mk.inj h2
      obtain ⟨p, c, q, r, hat, hve, h3, h4, h5, h6, h7, h8, h9, _⟩ := hv
      obtain ⟨n0, hget⟩ := arrOf_sound hf hg h1 (fun x hx => hnd x (by simp [hx])) hh hat
      have hle : off.I ρ + len.I ρ ≤ n.I ρ := by
        by_cases hc : off = .lit 0 ∧ len = n
        · obtain ⟨rfl, rfl⟩ := hc; rw [lit_I]; omega
        · have := le_of (hnd (xb .le (xb .add off len) n) (by simp [hc]))
          rw [xadd] at this; exact this
      refine ⟨rfl, q, (len.I ρ).toNat, r, ((mkShift a off).den ρ).fn, hve, h5, h6, ?_, ?_, ?_⟩
      · intro hq
        rcases h8 with h8 | h8
        · exact h8
        · subst hq
          cases p with
          | none => have := h7 rfl; omega
          | some p => cases h8
      · show [AV.a _, AV.i (len.I ρ)] = _
        congr 3; omega
      · intro i f' k i0 i1 hk
        rcases h8 with h8 | h8
        · omega
        · obtain ⟨p', hp', hb, hc⟩ := hget (i + off.I ρ) f' k (by omega) (by omega) hk
          subst hp'
          refine ⟨_, h8, by rw [add_block]; exact hb, ?_⟩
          have hm : ((mkShift a off).den ρ).fn i f' = (a.den ρ).fn (i + off.I ρ) f' := by
            unfold mkShift
            split
            · rw [lit_I, Int.add_zero]
            · rfl
          rw [hm, ← hc, add_add]
          congr 2
          rw [hsz, Int.toNat_add i0 h3, Nat.add_mul]
          omega
    · cases ha
  · obtain ⟨rfl, rfl⟩ := Prod.mk.inj (Option.some.inj ha)
    exact ⟨rfl, none, 0, 0, fun _ _ => 0, hv, Nat.le_refl _, by unfold maxLen; omega, fun _ => rfl, rfl, fun i f k i0 i1 => by omega⟩
  · rename_i sh k sz len cp
    split at ha
    · rename_i own sh' m n eg hk
      obtain ⟨hk, hgt⟩ := body_sound hf hg hk
      split at ha
      · rename_i hc
        obtain ⟨rfl, rfl, rfl⟩ := hc
        obtain ⟨rfl, rfl⟩ := Prod.mk.inj (Option.some.inj ha)
        obtain ⟨p, c, q, r, hat, hve, h3, h4, h5, h6, h7, h8, h9, _⟩ := hv
        simp only [SB.at, Option.map_eq_some_iff] at hat
        obtain ⟨bi, hb, he⟩ := hat
        obtain ⟨hr, _⟩ := Prod.mk.inj he
        obtain ⟨n0, _, h1⟩ := hh k _ bi hk hb hgt
        refine ⟨rfl, q, (len.I ρ).toNat, r, (m.den ρ).mlen, (m.den ρ).mfn, bi.v.rows, bi.v.caps, hve, h5, h6, ?_, ?_, ?_⟩
        · intro hq
          rcases h8 with h8 | h8
          · exact h8
          · subst hq
            cases p with
            | none => have := h7 rfl; omega
            | some p => cases h8
        · show [AV.m _ _, AV.i (len.I ρ)] = _
          congr 3; omega
        · intro i i0 i1
          rcases h8 with h8 | h8
          · omega
          · rcases h1 with h1 | ⟨p', hp', hpl, hrow⟩
            · omega
            · obtain ⟨a1, a2, a3, a4, a5, a6⟩ := hrow i i0 (by omega)
              rw [hr] at hp'
              subst hp'
              refine ⟨p', by rw [h8, lit_I]; simp [Addr.add], hpl.1, a1, a2, a3, a4, a5, ?_⟩
              rcases a6 with a6 | ⟨q', b1, b2, _, b4⟩
              · exact .inl a6
              · exact .inr ⟨q', b1, b2, b4⟩
      · cases ha
    · cases ha
  · obtain ⟨rfl, rfl⟩ := Prod.mk.inj (Option.some.inj ha)
    exact ⟨rfl, none, 0, 0, fun _ => 0, fun _ _ _ => 0, fun _ => none, fun _ => 0, hv, Nat.le_refl _, by unfold maxLen; omega, fun _ => rfl, rfl, fun i i0 i1 => by omega⟩
  · cases ha
theorem argsOf_sound (hf : s.factsOk ρ) (hg : g.B ρ = true) (hh : ∀ k e bi, s.heap[k]? = some e → β k = some bi → EOk ρ β W w bi e) : ∀ {hs : List Sh0} {cs : List Sc} {nd xs : List X}, argsOf s g hs cs = some (nd, xs) → (∀ x ∈ nd, x.B ρ = true) → ∀ {vs : List Value}, RelL (Sc.rel ρ β) cs vs → xs.length = (shKs hs).length ∧ RdL w hs vs (fixL (shKs hs) (xs.map (X.den ρ)))
  | [], [], nd, xs, ha, _, vs, hr => by
    simp only [argsOf] at ha
    obtain ⟨rfl, rfl⟩ := Prod.mk.inj (Option.some.inj ha)
    cases vs with
    | nil => exact ⟨rfl, rfl⟩
    | cons _ _ => exact hr.elim
  | h :: hs, c :: cs, nd, xs, ha, hnd, vs, hr => by
    simp only [argsOf] at ha
    split at ha
    · rename_i a b h1 h2
      obtain ⟨rfl, rfl⟩ := Prod.mk.inj (Option.some.inj ha)
      cases vs with
      | nil => exact hr.elim
      | cons v vs =>
        obtain ⟨l1, r1⟩ := argOf_sound hf hg hh h1 (fun x hx => hnd x (by simp [hx])) hr.1
        obtain ⟨l2, r2⟩ := argsOf_sound hf hg hh h2 (fun x hx => hnd x (by simp [hx])) hr.2
        refine ⟨by simp [shKs, l1]; simpa [shKs] using l2, _, _, ?_, r1, r2⟩
        simp only [shKs, List.flatMap_cons, List.map_append]
        exact fixL_append _ _ _ _ (by simpa using l1)
    · cases ha
  | [], _ :: _, _, _, ha, _, _, _ => by simp [argsOf] at ha
  | _ :: _, [], _, _, ha, _, _, _ => by simp [argsOf] at ha
theorem argV_sound (hf : s.factsOk ρ) (hg : g.B ρ = true) (hh : ∀ k e bi, s.heap[k]? = some e → β k = some bi → EOk ρ β W w bi e) {h : Sh} {x : V1} {nd xs : List X} (ha : argV s g h x = some (nd, xs)) (hnd : ∀ x ∈ nd, x.B ρ = true) {v : Value} (hv : x.rel ρ β v) : xs.length = (shKs h.l).length ∧ RdV w h v (fixL (shKs h.l) (xs.map (X.den ρ))) := by
  unfold RdV
  cases x with
  | agg l =>
    simp only [argV] at ha
    split at ha
    · rename_i hag
      obtain ⟨vs, rfl, hr⟩ := hv
      obtain ⟨h1, h2⟩ := argsOf_sound hf hg hh ha hnd hr
      exact ⟨h1, by rw [if_pos hag]; exact ⟨vs, rfl, h2⟩⟩
    · cases ha
  | sc c =>
    simp only [argV] at ha
    split at ha
    · cases ha
    · rename_i hag
      obtain ⟨h1, h2⟩ := argsOf_sound hf hg hh ha hnd (vs := [v]) ⟨hv, trivial⟩
      exact ⟨h1, by rw [if_neg hag]; exact h2⟩
theorem argsL_sound (hf : s.factsOk ρ) (hg : g.B ρ = true) (hh : ∀ k e bi, s.heap[k]? = some e → β k = some bi → EOk ρ β W w bi e) : ∀ {hs : List Sh} {cs : List SV} {nd xs : List X}, argsL s g hs cs = some (nd, xs) → (∀ x ∈ nd, x.B ρ = true) → ∀ {vs : List Value}, RelL (SV.rel ρ β) cs vs → xs.length = (insKs hs).length ∧ RdA w hs vs (fixL (insKs hs) (xs.map (X.den ρ)))
  | [], [], nd, xs, ha, _, vs, hr => by
    simp only [argsL] at ha
    obtain ⟨rfl, rfl⟩ := Prod.mk.inj (Option.some.inj ha)
    cases vs with
    | nil => exact ⟨rfl, rfl⟩
    | cons _ _ => exact hr.elim
  | h :: hs, c :: cs, nd, xs, ha, hnd, vs, hr => by
    cases c with
    | v x =>
      simp only [argsL] at ha
      split at ha
      · rename_i a b h1 h2
        obtain ⟨rfl, rfl⟩ := Prod.mk.inj (Option.some.inj ha)
        cases vs with
        | nil => exact hr.elim
        | cons v vs =>
          obtain ⟨l1, r1⟩ := argV_sound hf hg hh h1 (fun x hx => hnd x (by simp [hx])) hr.1
          obtain ⟨l2, r2⟩ := argsL_sound hf hg hh h2 (fun x hx => hnd x (by simp [hx])) hr.2
          refine ⟨by simp [insKs, l1]; simpa [insKs] using l2, _, _, ?_, r1, r2⟩
          simp only [insKs, List.flatMap_cons, List.map_append]
          exact fixL_append _ _ _ _ (by simpa using l1)
      · cases ha
    | _ => simp [argsL] at ha
  | [], _ :: _, _, _, ha, _, _, _ => by simp [argsL] at ha
  | _ :: _, [], _, _, ha, _, _, _ => by simp [argsL] at ha
end
end
end Go.Proofs.Ytiiabaklipmbbaa.Vc
