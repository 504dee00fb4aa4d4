/- Lists in order: what sorting is. -/
import Derived.Test.YtpbpmabnmakdoaaW
set_option linter.unusedVariables false
namespace Go.Proofs.Ytpbpmabnmakdoaa
open Go Go.RowKit Go.Proofs.Ytpbpmabnmakdoaa.Vc
def cmpI (x y : Int) : Int := if x < y then -1 else if y < x then 1 else 0
theorem cmpI_lt {x y : Int} : cmpI x y < 0 ↔ x < y := by unfold cmpI; (repeat' split) <;> omega
def swpA (x : Int → Nat → Int) (a b n : Int) : Int → Nat → Int := fun i f => if a ≤ i ∧ i < a + n then x (i - a + b) f else if b ≤ i ∧ i < b + n then x (i - b + a) f else x i f
def rotA (x : Int → Nat → Int) (a m b : Int) : Int → Nat → Int := fun i f => if a ≤ i ∧ i < a + (b - m) then x (i + (m - a)) f else if a + (b - m) ≤ i ∧ i < b then x (i - (b - m)) f else x i f
/-- the order of the timers: time, then sequence -/
def Lt (x : Int → Nat → Int) (i j : Int) : Prop := x i 0 < x j 0 ∨ (x i 0 = x j 0 ∧ x i 2 < x j 2)
theorem Lt.trans {x : Int → Nat → Int} {i j k : Int} (h : Lt x i j) (g : Lt x j k) : Lt x i k := by unfold Lt at *; omega
theorem Lt.irr {x : Int → Nat → Int} {i : Int} (h : Lt x i i) : False := by unfold Lt at h; omega
theorem Lt.asym {x : Int → Nat → Int} {i j : Int} (h : Lt x i j) (g : Lt x j i) : False := (h.trans g).irr
theorem Lt.of {x y : Int → Nat → Int} {i j i' j' : Int} (h : Lt x i' j') (hi : ∀ f, f < 3 → y i f = x i' f) (hj : ∀ f, f < 3 → y j f = x j' f) : Lt y i j := by
  unfold Lt at *
  rw [hi 0 (by decide), hi 2 (by decide), hj 0 (by decide), hj 2 (by decide)]
  exact h
def Srtd (x : Int → Nat → Int) (a b : Int) : Prop := ∀ i j, a ≤ i → i < j → j < b → Lt x i j
def Prm (x y : Int → Nat → Int) (a b : Int) : Prop := ∃ σ τ : Int → Int, ∀ i, a ≤ i → i < b → (a ≤ σ i ∧ σ i < b ∧ τ (σ i) = i ∧ a ≤ τ i ∧ τ i < b ∧ σ (τ i) = i ∧ ∀ f, f < 3 → y i f = x (σ i) f)
def Outs (x y : Int → Nat → Int) (a b : Int) : Prop := ∀ i f, f < 3 → ¬ (a ≤ i ∧ i < b) → y i f = x i f
def Tot (x : Int → Nat → Int) (a b : Int) : Prop := ∀ i j, a ≤ i → i < b → a ≤ j → j < b → i ≠ j → Lt x i j ∨ Lt x j i
structure Srt (x : Int → Nat → Int) (a b : Int) (y : Int → Nat → Int) : Prop where
  prm : Prm x y a b
  outs : Outs x y a b
  srtd : Srtd y a b
noncomputable def srtA (x : Int → Nat → Int) (a b : Int) : Int → Nat → Int := by
  classical
  exact if h : ∃ y, Srt x a b y then h.choose else x
theorem Prm.refl (x : Int → Nat → Int) (a b : Int) : Prm x x a b := ⟨id, id, fun i h1 h2 => ⟨h1, h2, rfl, h1, h2, rfl, fun _ _ => rfl⟩⟩
theorem Prm.trans {x y z : Int → Nat → Int} {a b : Int} (h : Prm x y a b) (g : Prm y z a b) : Prm x z a b := by
  obtain ⟨s1, t1, h⟩ := h
  obtain ⟨s2, t2, g⟩ := g
  refine ⟨fun i => s1 (s2 i), fun i => t2 (t1 i), fun i h1 h2 => ?_⟩
  obtain ⟨a1, a2, a3, a4, a5, a6, a7⟩ := g i h1 h2
  obtain ⟨b1, b2, b3, b4, b5, b6, b7⟩ := h (s2 i) a1 a2
  obtain ⟨c1, c2, c3, c4, c5, c6, c7⟩ := h i h1 h2
  obtain ⟨d1, d2, d3, d4, d5, d6, d7⟩ := g (t1 i) c4 c5
  exact ⟨b1, b2, by simp only [b3, a3], d4, d5, by simp only [d6, c6], fun f hf => by rw [a7 f hf, b7 f hf]⟩
theorem Prm.wide {x y : Int → Nat → Int} {a b a' b' : Int} (h : Prm x y a b) (ho : Outs x y a b) (ha : a' ≤ a) (hb : b ≤ b') : Prm x y a' b' := by
  obtain ⟨s, t, h⟩ := h
  refine ⟨fun i => if a ≤ i ∧ i < b then s i else i, fun i => if a ≤ i ∧ i < b then t i else i, fun i h1 h2 => ?_⟩
  by_cases hi : a ≤ i ∧ i < b
  · obtain ⟨a1, a2, a3, a4, a5, a6, a7⟩ := h i hi.1 hi.2
    simp only [if_pos hi, if_pos (And.intro a1 a2), if_pos (And.intro a4 a5)]
    exact ⟨by omega, by omega, a3, by omega, by omega, a6, a7⟩
  · simp only [if_neg hi]
    exact ⟨h1, h2, trivial, h1, h2, trivial, fun f hf => ho i f hf hi⟩
theorem Outs.wide {x y : Int → Nat → Int} {a b a' b' : Int} (h : Outs x y a b) (ha : a' ≤ a) (hb : b ≤ b') : Outs x y a' b' := fun i f hf hi => h i f hf (by omega)
theorem Outs.trans {x y z : Int → Nat → Int} {a b : Int} (h : Outs x y a b) (g : Outs y z a b) : Outs x z a b := fun i f hf hi => by rw [g i f hf hi, h i f hf hi]
theorem Prm.congr {x y z : Int → Nat → Int} {a b : Int} (h : Prm x y a b) (e : ∀ i f, f < 3 → z i f = y i f) : Prm x z a b := by
  obtain ⟨s, t, h⟩ := h
  refine ⟨s, t, fun i h1 h2 => ?_⟩
  obtain ⟨a1, a2, a3, a4, a5, a6, a7⟩ := h i h1 h2
  exact ⟨a1, a2, a3, a4, a5, a6, fun f hf => by rw [e i f hf, a7 f hf]⟩
theorem Prm.tot {x y : Int → Nat → Int} {a b : Int} (h : Prm x y a b) (t : Tot x a b) : Tot y a b := by
  obtain ⟨s, u, h⟩ := h
  intro i j i0 i1 j0 j1 hij
  obtain ⟨a1, a2, a3, _, _, _, a7⟩ := h i i0 i1
  obtain ⟨b1, b2, b3, _, _, _, b7⟩ := h j j0 j1
  have hne : s i ≠ s j := fun hc => hij (by rw [← a3, ← b3, hc])
  rcases t (s i) (s j) a1 a2 b1 b2 hne with h | h
  · exact .inl (h.of a7 b7)
  · exact .inr (h.of b7 a7)
theorem find_split {Q : Int → Prop} {a c : Int} (h : a ≤ c) : ∃ p, a ≤ p ∧ p ≤ c ∧ (∀ i, a ≤ i → i < p → ¬ Q i) ∧ (p < c → Q p) := by
  classical
  obtain ⟨n, hn⟩ : ∃ n : Nat, c - a = n := ⟨(c - a).toNat, by omega⟩
  induction n generalizing a with
  | zero => exact ⟨a, by omega, by omega, fun i _ _ => by omega, fun _ => by omega⟩
  | succ n ih =>
    by_cases hq : Q a
    · exact ⟨a, by omega, by omega, fun i _ _ => by omega, fun _ => hq⟩
    · obtain ⟨p, h1, h2, h3, h4⟩ := ih (a := a + 1) (by omega) (by omega)
      refine ⟨p, by omega, h2, fun i i0 i1 => ?_, h4⟩
      by_cases hi : i = a
      · subst hi; exact hq
      · exact h3 i (by omega) i1
theorem srt_ex {x : Int → Nat → Int} {a b : Int} (t : Tot x a b) : ∃ y, Srt x a b y := by
  classical
  obtain ⟨n, hn⟩ : ∃ n : Nat, (b - a).toNat = n := ⟨_, rfl⟩
  induction n generalizing b with
  | zero => exact ⟨x, Prm.refl _ _ _, fun _ _ _ _ => rfl, fun i j _ _ _ => by omega⟩
  | succ n ih =>
    obtain ⟨y, ⟨s, u, hp⟩, ho, hs⟩ := ih (b := b - 1) (fun i j i0 i1 j0 j1 hij => t i j i0 (by omega) j0 (by omega) hij) (by omega)
    have hab : a < b := by omega
    have hyb : ∀ f, f < 3 → y (b - 1) f = x (b - 1) f := fun f hf => ho _ f hf (by omega)
    have hty : ∀ i, a ≤ i → i < b - 1 → Lt y i (b - 1) ∨ Lt y (b - 1) i := by
      intro i i0 i1
      obtain ⟨a1, a2, a3, _, _, _, a7⟩ := hp i i0 i1
      rcases t (s i) (b - 1) a1 (by omega) (by omega) (by omega) (by omega) with h | h
      · exact .inl (h.of a7 hyb)
      · exact .inr (h.of hyb a7)
    obtain ⟨p, p0, p1, p2, p3⟩ := find_split (Q := fun i => Lt y (b - 1) i) (a := a) (c := b - 1) (by omega)
    have lo : ∀ i, a ≤ i → i < p → Lt y i (b - 1) := fun i i0 i1 => by
      rcases hty i i0 (by omega) with h | h
      · exact h
      · exact absurd h (p2 i i0 i1)
    have hi : ∀ i, p ≤ i → i < b - 1 → Lt y (b - 1) i := fun i i0 i1 => by
      by_cases hc : i = p
      · subst hc; exact p3 i1
      · exact (p3 (by omega)).trans (hs p i p0 (by omega) i1)
    refine ⟨fun i f => if i < p then y i f else if i = p then y (b - 1) f else if i < b then y (i - 1) f else x i f, ⟨fun i => if i < p then s i else if i = p then b - 1 else s (i - 1), fun j => if j = b - 1 then p else if u j < p then u j else u j + 1, fun i i0 i1 => ?_⟩, fun i f hf hi => ?_, fun i j i0 ij j1 => ?_⟩
    · have hA : ∀ k, a ≤ k → k < b - 1 → _ := hp
      refine ⟨?_, ?_, ?_, ?_, ?_, ?_, ?_⟩
      · simp only
        split
        · have := hp i i0 (by omega); omega
        · split
          · omega
          · have := hp (i - 1) (by omega) (by omega); omega
      · simp only
        split
        · have := hp i i0 (by omega); omega
        · split
          · omega
          · have := hp (i - 1) (by omega) (by omega); omega
      · by_cases h1 : i < p
        · obtain ⟨a1, a2, a3, _⟩ := hp i i0 (by omega)
          simp only [if_pos h1]
          rw [if_neg (by omega), a3, if_pos h1]
        · by_cases h2 : i = p
          · simp only [if_neg h1, if_pos h2, if_true]; exact h2.symm
          · obtain ⟨a1, a2, a3, _⟩ := hp (i - 1) (by omega) (by omega)
            simp only [if_neg h1, if_neg h2]
            rw [if_neg (by omega), a3, if_neg (by omega)]; omega
      · simp only
        split
        · omega
        · have := hp i i0 (by omega)
          split <;> omega
      · simp only
        split
        · omega
        · have := hp i i0 (by omega)
          split <;> omega
      · by_cases h1 : i = b - 1
        · simp only [if_pos h1]
          rw [if_neg (by omega)]; simp only [if_true]; omega
        · obtain ⟨_, _, _, a4, a5, a6, _⟩ := hp i i0 (by omega)
          simp only [if_neg h1]
          by_cases h2 : u i < p
          · simp only [if_pos h2, a6]
          · simp only [if_neg h2]
            rw [if_neg (by omega), if_neg (by omega), show u i + 1 - 1 = u i by omega, a6]
      · intro f hf
        simp only
        split
        · exact (hp i i0 (by omega)).2.2.2.2.2.2 f hf
        · split
          · exact hyb f hf
          · exact (hp (i - 1) (by omega) (by omega)).2.2.2.2.2.2 f hf
    · by_cases h1 : i < p
      · simp only [if_pos h1]; exact ho i f hf (by omega)
      · simp only [if_neg h1]; rw [if_neg (by omega), if_neg (by omega)]
    · have key : ∀ k, a ≤ k → k < b → ∃ k', (∀ f, f < 3 → (if k < p then y k f else if k = p then y (b - 1) f else if k < b then y (k - 1) f else x k f) = y k' f) ∧ ((k < p ∧ k' = k) ∨ (k = p ∧ k' = b - 1) ∨ (p < k ∧ k' = k - 1)) := by
        intro k k0 k1
        by_cases h1 : k < p
        · exact ⟨k, fun f _ => by rw [if_pos h1], .inl ⟨h1, rfl⟩⟩
        · by_cases h2 : k = p
          · exact ⟨b - 1, fun f _ => by rw [if_neg h1, if_pos h2], .inr (.inl ⟨h2, rfl⟩)⟩
          · exact ⟨k - 1, fun f _ => by rw [if_neg h1, if_neg h2, if_pos k1], .inr (.inr ⟨by omega, rfl⟩)⟩
      obtain ⟨i', ei, hi'⟩ := key i i0 (by omega)
      obtain ⟨j', ej, hj'⟩ := key j (by omega) j1
      have : Lt y i' j' := by
        rcases hi' with ⟨q1, rfl⟩ | ⟨q1, rfl⟩ | ⟨q1, rfl⟩ <;> rcases hj' with ⟨r1, rfl⟩ | ⟨r1, rfl⟩ | ⟨r1, rfl⟩
        · exact hs _ _ i0 ij (by omega)
        · exact lo _ i0 q1
        · exact hs _ _ i0 (by omega) (by omega)
        · omega
        · omega
        · exact hi _ (by omega) (by omega)
        · omega
        · omega
        · exact hs _ _ (by omega) (by omega) (by omega)
      exact this.of ei ej
theorem srtA_spec {x : Int → Nat → Int} {a b : Int} (t : Tot x a b) : Srt x a b (srtA x a b) := by
  unfold srtA
  rw [dif_pos (srt_ex t)]
  exact (srt_ex t).choose_spec
theorem Srt.uniq {x y z : Int → Nat → Int} {a b : Int} (h : Srt x a b y) (g : Srt x a b z) : ∀ i f, f < 3 → y i f = z i f := by
  intro i f hf
  by_cases hi : a ≤ i ∧ i < b
  · obtain ⟨s, t, hp⟩ := h.prm
    obtain ⟨s', t', gp⟩ := g.prm
    -- the place in z of what stands in y at k
    have q : ∀ k, a ≤ k → k < b → a ≤ t' (s k) ∧ t' (s k) < b ∧ ∀ f, f < 3 → y k f = z (t' (s k)) f := by
      intro k k0 k1
      obtain ⟨a1, a2, a3, a4, a5, a6, a7⟩ := hp k k0 k1
      obtain ⟨b1, b2, b3, b4, b5, b6, b7⟩ := gp (s k) a1 a2
      refine ⟨b4, b5, fun f hf => ?_⟩
      obtain ⟨_, _, _, _, _, _, c7⟩ := gp (t' (s k)) b4 b5
      rw [a7 f hf, c7 f hf, b6]
    have mono : ∀ k l, a ≤ k → k < l → l < b → t' (s k) < t' (s l) := by
      intro k l k0 kl l1
      obtain ⟨a1, a2, a3⟩ := q k k0 (by omega)
      obtain ⟨b1, b2, b3⟩ := q l (by omega) l1
      have hlt := h.srtd k l k0 kl l1
      have hlt : Lt z (t' (s k)) (t' (s l)) := hlt.of (fun f hf => (a3 f hf).symm) (fun f hf => (b3 f hf).symm)
      rcases Int.lt_or_le (t' (s k)) (t' (s l)) with h1 | h1
      · exact h1
      · rcases Int.lt_or_eq_of_le h1 with h2 | h2
        · exact (hlt.asym (g.srtd _ _ b1 h2 a2)).elim
        · rw [h2] at hlt; exact hlt.irr.elim
    have lo : ∀ n : Nat, ∀ k, k = a + n → k < b → k ≤ t' (s k) := by
      intro n
      induction n with
      | zero => intro k hk k1; have := (q k (by omega) k1).1; omega
      | succ n ih =>
        intro k hk k1
        have h1 := ih (k - 1) (by omega) (by omega)
        have h2 := mono (k - 1) k (by omega) (by omega) k1
        omega
    have up : ∀ n : Nat, ∀ k, k = b - 1 - n → a ≤ k → t' (s k) ≤ k := by
      intro n
      induction n with
      | zero => intro k hk k0; have := (q k k0 (by omega)).2.1; omega
      | succ n ih =>
        intro k hk k0
        have h1 := ih (k + 1) (by omega) (by omega)
        have h2 := mono k (k + 1) k0 (by omega) (by omega)
        omega
    have h1 := lo (i - a).toNat i (by omega) hi.2
    have h2 := up (b - 1 - i).toNat i (by omega) hi.1
    rw [(q i hi.1 hi.2).2.2 f hf, show t' (s i) = i by omega]
  · rw [h.outs i f hf hi, g.outs i f hf hi]
theorem Srt.eq {x y : Int → Nat → Int} {a b : Int} (h : Srt x a b y) : ∀ i f, f < 3 → y i f = srtA x a b i f := by
  have hex : ∃ y, Srt x a b y := ⟨y, h⟩
  have hs : Srt x a b (srtA x a b) := by
    unfold srtA
    rw [dif_pos hex]
    exact hex.choose_spec
  exact h.uniq hs
/-- two elements change places -/
def sw6 (v : Int → Nat → Int) (p q : Int) : Int → Nat → Int := setA (setA (setA (setA (setA (setA v p 0 (v q 0)) p 1 (v q 1)) p 2 (v q 2)) q 0 (v p 0)) q 1 (v p 1)) q 2 (v p 2)
theorem sw6_get (v : Int → Nat → Int) (p q t : Int) (f : Nat) (hf : f < 3) : sw6 v p q t f = if t = q then v p f else if t = p then v q f else v t f := by
  have : f = 0 ∨ f = 1 ∨ f = 2 := by omega
  unfold sw6 setA
  rcases this with rfl | rfl | rfl <;> by_cases h1 : t = q <;> by_cases h2 : t = p <;> simp [h1, h2]
theorem sw6_out {v : Int → Nat → Int} {p q a b : Int} (h1 : a ≤ p ∧ p < b) (h2 : a ≤ q ∧ q < b) : Outs v (sw6 v p q) a b := fun i f hf hi => by
  rw [sw6_get v p q i f hf, if_neg (by rintro rfl; exact hi h2), if_neg (by rintro rfl; exact hi h1)]
theorem sw6_prm {v : Int → Nat → Int} {p q a b : Int} (h1 : a ≤ p ∧ p < b) (h2 : a ≤ q ∧ q < b) : Prm v (sw6 v p q) a b := by
  have hs : ∀ i : Int, (if (if i = q then p else if i = p then q else i) = q then p else if (if i = q then p else if i = p then q else i) = p then q else (if i = q then p else if i = p then q else i)) = i := by
    intro i
    by_cases h1 : i = q <;> by_cases h2 : i = p <;> by_cases h3 : p = q <;> simp_all
  refine ⟨fun i => if i = q then p else if i = p then q else i, fun i => if i = q then p else if i = p then q else i, fun i i0 i1 => ⟨?_, ?_, hs i, ?_, ?_, hs i, fun f hf => ?_⟩⟩
  · simp only; (repeat' split) <;> omega
  · simp only; (repeat' split) <;> omega
  · simp only; (repeat' split) <;> omega
  · simp only; (repeat' split) <;> omega
  · rw [sw6_get v p q i f hf]; simp only; split
    · rfl
    · split <;> rfl
/-- where an element of the turned list stood -/
theorem rot_pre (x : Int → Nat → Int) {s m e : Int} (h1 : s ≤ m) (h2 : m ≤ e) (i : Int) : ∃ i', (∀ f, rotA x s m e i f = x i' f) ∧ ((i < s ∧ i' = i) ∨ (s ≤ i ∧ i < s + (e - m) ∧ i' = i + (m - s)) ∨ (s + (e - m) ≤ i ∧ i < e ∧ i' = i - (e - m)) ∨ (e ≤ i ∧ i' = i)) := by
  unfold rotA
  by_cases a1 : i < s
  · exact ⟨i, fun f => by rw [if_neg (by omega), if_neg (by omega)], .inl ⟨a1, rfl⟩⟩
  · by_cases a2 : i < s + (e - m)
    · exact ⟨_, fun f => by rw [if_pos (by omega)], .inr (.inl ⟨by omega, a2, rfl⟩)⟩
    · by_cases a3 : i < e
      · exact ⟨_, fun f => by rw [if_neg (by omega), if_pos (by omega)], .inr (.inr (.inl ⟨by omega, a3, rfl⟩))⟩
      · exact ⟨i, fun f => by rw [if_neg (by omega), if_neg (by omega)], .inr (.inr (.inr ⟨by omega, rfl⟩))⟩
theorem rot_out {x : Int → Nat → Int} {s m e : Int} (h1 : s ≤ m) (h2 : m ≤ e) : Outs x (rotA x s m e) s e := fun i f hf hi => by
  unfold rotA
  rw [if_neg (by omega), if_neg (by omega)]
theorem rot_prm {x : Int → Nat → Int} {s m e : Int} (h1 : s ≤ m) (h2 : m ≤ e) : Prm x (rotA x s m e) s e := by
  refine ⟨fun i => if i < s + (e - m) then i + (m - s) else i - (e - m), fun i => if i < m then i + (e - m) else i - (m - s), fun i i0 i1 => ⟨?_, ?_, ?_, ?_, ?_, ?_, fun f hf => ?_⟩⟩
  · simp only; split <;> omega
  · simp only; split <;> omega
  · by_cases a2 : i < s + (e - m)
    · simp only [if_pos a2]; rw [if_neg (by omega)]; omega
    · simp only [if_neg a2]; rw [if_pos (by omega)]; omega
  · simp only; split <;> omega
  · simp only; split <;> omega
  · by_cases a2 : i < m
    · simp only [if_pos a2]; rw [if_neg (by omega)]; omega
    · simp only [if_neg a2]; rw [if_pos (by omega)]; omega
  · unfold rotA
    by_cases a2 : i < s + (e - m)
    · simp only [if_pos a2]; rw [if_pos (by omega)]
    · simp only [if_neg a2]; rw [if_neg (by omega), if_pos (by omega)]
structure Ins (x : Int → Nat → Int) (n a b : Int) : Prop where
  a0 : 0 ≤ a
  ab : a ≤ b
  bn : b ≤ n
  n6 : n ≤ 256
  sq : ∀ i j, a ≤ i → i < j → j < b → x i 2 < x j 2
structure Mrg (x : Int → Nat → Int) (n a m b : Int) : Prop where
  a0 : 0 ≤ a
  am : a < m
  mb : m < b
  bn : b ≤ n
  n6 : n ≤ 256
  s1 : Srtd x a m
  s2 : Srtd x m b
  sq : ∀ i j, a ≤ i → i < m → m ≤ j → j < b → x i 2 < x j 2
structure Stb (x : Int → Nat → Int) (n k : Int) : Prop where
  k0 : 0 ≤ k
  kn : k ≤ n
  n6 : n ≤ 256
  sq : ∀ i j, 0 ≤ i → i < j → j < k → x i 2 < x j 2
theorem Ins.tot {x : Int → Nat → Int} {n a b : Int} (h : Ins x n a b) : Tot x a b := by
  intro i j i0 i1 j0 j1 hij
  unfold Lt
  rcases Int.lt_or_le i j with h1 | h1
  · have := h.sq i j i0 h1 j1; omega
  · have := h.sq j i j0 (by omega) i1; omega
theorem Mrg.tot {x : Int → Nat → Int} {n a m b : Int} (h : Mrg x n a m b) : Tot x a b := by
  have key : ∀ i j, a ≤ i → i < j → j < b → Lt x i j ∨ Lt x j i := by
    intro i j i0 ij j1
    by_cases h1 : j < m
    · exact .inl (h.s1 i j i0 ij h1)
    · by_cases h2 : m ≤ i
      · exact .inl (h.s2 i j h2 ij j1)
      · have := h.sq i j i0 (by omega) (by omega) j1
        unfold Lt; omega
  intro i j i0 i1 j0 j1 hij
  rcases Int.lt_or_le i j with h1 | h1
  · exact key i j i0 h1 j1
  · exact (key j i j0 (by omega) i1).symm
theorem hf2 (x : Int) : Int.fdiv x (2 ^ (Int.toNat 1)) = x / 2 := by
  rw [show ((2 : Int) ^ (Int.toNat 1)) = 2 from rfl, Int.fdiv_eq_ediv_of_nonneg _ (by decide)]
end Go.Proofs.Ytpbpmabnmakdoaa
