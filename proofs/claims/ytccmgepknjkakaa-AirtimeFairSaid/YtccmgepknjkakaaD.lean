/- Shares of airtime in plain words: machines that go on until they are done; picking. -/
import Derived.Test.YtccmgepknjkakaaVE
namespace Go.Proofs.Ytccmgepknjkakaa
open Go Go.RowKit Go.Proofs.Ytccmgepknjkakaa.Vc
def allN : Nat → (Int → Bool) → Bool
  | 0, _ => true
  | k + 1, p => allN k p && p k
def allI (p : Int → Bool) (i : Int) : Bool := allN i.toNat p
theorem allI_zero {p : Int → Bool} : allI p 0 = true := rfl
theorem allI_succ {p : Int → Bool} {i : Int} (h : 0 ≤ i) : allI p (i + 1) = (allI p i && p i) := by
  unfold allI
  obtain ⟨k, rfl⟩ := Int.eq_ofNat_of_zero_le h
  rw [show ((k : Int) + 1).toNat = k + 1 by omega, show ((k : Int)).toNat = k by omega]
  rfl
theorem allN_at {p : Int → Bool} : ∀ {k : Nat}, allN k p = true → ∀ i : Int, 0 ≤ i → i < k → p i = true
  | 0, _, i, h0, h1 => by omega
  | k + 1, h, i, h0, h1 => by
    have h' : (allN k p && p k) = true := h
    rw [Bool.and_eq_true] at h'
    by_cases hi : i < k
    · exact allN_at h'.1 i h0 hi
    · obtain rfl : i = k := by omega
      exact h'.2
theorem allI_at {p : Int → Bool} {n i : Int} (h : allI p n = true) (h0 : 0 ≤ i) (h1 : i < n) : p i = true := allN_at h i h0 (by omega)
theorem allN_of {p : Int → Bool} : ∀ {k : Nat}, (∀ i : Int, 0 ≤ i → i < k → p i = true) → allN k p = true
  | 0, _ => rfl
  | k + 1, h => by
    show (allN k p && p k) = true
    rw [allN_of (fun i h0 h1 => h i h0 (by omega)), h k (by omega) (by omega)]; rfl
theorem allI_of {p : Int → Bool} {n : Int} (h : ∀ i : Int, 0 ≤ i → i < n → p i = true) : allI p n = true := allN_of fun i h0 h1 => h i h0 (by omega)
theorem allI_congr {p q : Int → Bool} {n : Int} (h : ∀ i, 0 ≤ i → i < n → p i = q i) : allI p n = allI q n := by
  rw [Bool.eq_iff_iff]
  exact ⟨fun hp => allI_of fun i h0 h1 => by rw [← h i h0 h1]; exact allI_at hp h0 h1, fun hq => allI_of fun i h0 h1 => by rw [h i h0 h1]; exact allI_at hq h0 h1⟩

/-! machines -/
section
variable {σ : Type} (step : σ → σ) (dn : σ → Bool)
def itM : Nat → σ → σ
  | 0, s => s
  | k + 1, s => step (itM k s)
/-- s' comes of s, and none before it is done -/
def Rch (s s' : σ) : Prop := ∃ k, itM step k s = s' ∧ ∀ j, j < k → dn (itM step j s) = false
variable {step dn}
theorem Rch.refl (s : σ) : Rch step dn s s := ⟨0, rfl, fun j h => by omega⟩
theorem Rch.tail {s s' : σ} (h : Rch step dn s s') (hd : dn s' = false) : Rch step dn s (step s') := by
  obtain ⟨k, rfl, hk⟩ := h
  refine ⟨k + 1, rfl, fun j hj => ?_⟩
  by_cases h : j = k
  · rw [h]; exact hd
  · exact hk j (by omega)
theorem itM_add (j : Nat) : ∀ (k : Nat) (s : σ), itM step (j + k) s = itM step j (itM step k s) := by
  induction j with
  | zero => intro k s; rw [Nat.zero_add]; rfl
  | succ j ih => intro k s; rw [show j + 1 + k = (j + k) + 1 by omega]; show step _ = step _; rw [ih]
theorem Rch.trans {a b c : σ} (h : Rch step dn a b) (h2 : Rch step dn b c) : Rch step dn a c := by
  obtain ⟨k, rfl, hk⟩ := h
  obtain ⟨l, rfl, hl⟩ := h2
  refine ⟨l + k, itM_add l k a, fun j hj => ?_⟩
  by_cases hjk : j < k
  · exact hk j hjk
  · have := hl (j - k) (by omega)
    rw [← itM_add, show j - k + k = j by omega] at this
    exact this
theorem Rch.uniq {s a b : σ} (h1 : Rch step dn s a) (d1 : dn a = true) (h2 : Rch step dn s b) (d2 : dn b = true) : a = b := by
  obtain ⟨k, rfl, hk⟩ := h1
  obtain ⟨l, rfl, hl⟩ := h2
  rcases Nat.lt_trichotomy k l with h | h | h
  · rw [hl k h] at d1; cases d1
  · rw [h]
  · rw [hk l h] at d2; cases d2
theorem Rch.keeps {P : σ → Prop} (hP : ∀ s, P s → dn s = false → P (step s)) {s s' : σ} (h : Rch step dn s s') (h0 : P s) : P s' := by
  obtain ⟨k, rfl, hk⟩ := h
  induction k with
  | zero => exact h0
  | succ k ih => exact hP _ (ih fun j hj => hk j (by omega)) (hk k (by omega))
theorem Rch.ends {P : σ → Prop} (μ : σ → Nat) (hP : ∀ s, P s → dn s = false → P (step s) ∧ μ (step s) < μ s) : ∀ (n : Nat) (s : σ), μ s ≤ n → P s → ∃ s', Rch step dn s s' ∧ dn s' = true
  | n, s, hn, hs => by
    cases hd : dn s with
    | true => exact ⟨s, Rch.refl s, hd⟩
    | false =>
      obtain ⟨h1, h2⟩ := hP s hs hd
      cases n with
      | zero => omega
      | succ n =>
        obtain ⟨s', h3, h4⟩ := Rch.ends μ hP n (step s) (by omega) h1
        exact ⟨s', ((Rch.refl s).tail hd).trans h3, h4⟩
variable (step dn)
/-- where it ends -/
noncomputable def fin [Nonempty σ] (s : σ) : σ := Classical.epsilon fun s' => Rch step dn s s' ∧ dn s' = true
variable {step dn}
theorem fin_eq [Nonempty σ] {s s' : σ} (h : Rch step dn s s') (hd : dn s' = true) : fin step dn s = s' := by
  have := Classical.epsilon_spec (p := fun s' => Rch step dn s s' ∧ dn s' = true) ⟨s', h, hd⟩
  exact this.1.uniq this.2 h hd
end

/-! schedulers -/
def okC (a : Int → Nat → Int) (i : Int) : Bool := decide (1 ≤ a i 0 ∧ a i 0 ≤ 16 ∧ -32767 ≤ a i 1 ∧ a i 1 ≤ 1000 * a i 0)
structure okS (a : Int → Nat → Int) (n : Int) : Prop where
  h : ∀ i, 0 ≤ i → i < n → 1 ≤ a i 0 ∧ a i 0 ≤ 16 ∧ -32767 ≤ a i 1 ∧ a i 1 ≤ 1000 * a i 0
def ckA (a : Int → Nat → Int) (n t : Int) : Int := if 1 ≤ n ∧ n ≤ 32 ∧ 0 ≤ t ∧ t < n ∧ allI (okC a) n = true then 0 else 8
theorem ckA_08 (a : Int → Nat → Int) (n t : Int) : ckA a n t = 0 ∨ ckA a n t = 8 := by unfold ckA; split <;> simp
theorem ckA_ok {a : Int → Nat → Int} {n t : Int} (h : ckA a n t = 0) : 1 ≤ n ∧ n ≤ 32 ∧ 0 ≤ t ∧ t < n ∧ okS a n := by
  unfold ckA at h
  split at h
  · rename_i hc
    refine ⟨hc.1, hc.2.1, hc.2.2.1, hc.2.2.2.1, ⟨fun i h0 h1 => ?_⟩⟩
    have := allI_at hc.2.2.2.2 h0 h1
    unfold okC at this
    exact of_decide_eq_true this
  · cases h
theorem ckA_of {a : Int → Nat → Int} {n t : Int} (h1 : 1 ≤ n) (h2 : n ≤ 32) (h3 : 0 ≤ t) (h4 : t < n) (h : okS a n) : ckA a n t = 0 := by
  unfold ckA
  rw [if_pos ⟨h1, h2, h3, h4, allI_of fun i i0 i1 => by unfold okC; exact decide_eq_true (h.h i i0 i1)⟩]
theorem ckA_congr {a b : Int → Nat → Int} {n t : Int} (h : ∀ i, 0 ≤ i → i < n → ∀ f, f < 2 → a i f = b i f) : ckA a n t = ckA b n t := by
  unfold ckA
  rw [allI_congr (p := okC a) (q := okC b) fun i h0 h1 => by unfold okC; rw [h i h0 h1 0 (by omega), h i h0 h1 1 (by omega)]]
def sm2 (a b : Int → Nat → Int) (i : Int) : Bool := decide (a i 0 = b i 0 ∧ a i 1 = b i 1)
def smA (a : Int → Nat → Int) (n t : Int) (b : Int → Nat → Int) (m u : Int) : Bool := decide (n = m ∧ t = u) && allI (sm2 a b) n
theorem smA_self {a b : Int → Nat → Int} {n t : Int} (h : ∀ i, 0 ≤ i → i < n → ∀ f, f < 2 → a i f = b i f) : smA a n t b n t = true := by
  unfold smA
  rw [Bool.and_eq_true]
  exact ⟨by simp, allI_of fun i h0 h1 => by unfold sm2; simp [h i h0 h1]⟩
theorem smA_refl {a : Int → Nat → Int} {n t : Int} : smA a n t a n t = true := smA_self fun _ _ _ _ _ => rfl
def nwA (b : Int → Nat → Int) : Int → Nat → Int := fun i f => if f = 0 then b i 0 else 0
def nwOk (b : Int → Nat → Int) (i : Int) : Bool := decide (1 ≤ b i 0 ∧ b i 0 ≤ 16)
def nwE (b : Int → Nat → Int) (n : Int) : Int := if 1 ≤ n ∧ n ≤ 32 ∧ allI (nwOk b) n = true then 0 else 2
def nwN (b : Int → Nat → Int) (n k : Int) : Int := if nwE b n = 0 then k else 0
theorem nw_ck {b : Int → Nat → Int} {n : Int} : ckA (nwA b) n 0 = 0 ↔ nwE b n = 0 := by
  have h : allI (okC (nwA b)) n = allI (nwOk b) n := allI_congr fun i h0 h1 => by
    unfold okC nwOk nwA
    rw [Bool.eq_iff_iff, decide_eq_true_eq, decide_eq_true_eq]
    simp only [if_pos]
    constructor
    · intro h; exact ⟨h.1, h.2.1⟩
    · intro h
      refine ⟨h.1, h.2, ?_, ?_⟩ <;> simp <;> omega
  unfold ckA nwE
  rw [h]
  constructor
  · intro h
    split at h
    · rename_i hc; rw [if_pos ⟨hc.1, hc.2.1, hc.2.2.2.2⟩]
    · cases h
  · intro h
    split at h
    · rename_i hc; rw [if_pos ⟨hc.1, hc.2.1, by omega, by omega, hc.2.2⟩]
    · cases h
def chE (a : Int → Nat → Int) (n t who air : Int) : Int := if ckA a n t = 0 then if 0 ≤ who ∧ who < n ∧ 1 ≤ air ∧ air ≤ 32767 then if a who 1 ≤ 0 then 20 else 0 else 2 else 8
def chA (a : Int → Nat → Int) (who air : Int) : Int → Nat → Int := setA a who 1 (a who 1 - air)
def chN (a : Int → Nat → Int) (n t who air k : Int) : Int := if chE a n t who air = 0 then k else 0

/-! picking -/
def cho (b : Bool) (a : Int → Nat → Int) (t : Int) : Bool := b && decide (0 < a t 1)
def stA (b : Bool) (a : Int → Nat → Int) (t : Int) : Int → Nat → Int := if b = true then if 0 < a t 1 then a else setA a t 1 (a t 1 + 1000 * a t 0) else setA a t 1 (min (a t 1) 0)
def stT (b : Bool) (a : Int → Nat → Int) (n t : Int) : Int := if b = true ∧ 0 < a t 1 then t else if t + 1 = n then 0 else t + 1
abbrev PS := (Int → Nat → Int) × Int
def pS (p : Int → Bool) (n : Int) (s : PS) : PS := (stA (p s.2) s.1 s.2, stT (p s.2) s.1 n s.2)
def pD (p : Int → Bool) (s : PS) : Bool := cho (p s.2) s.1 s.2
noncomputable def pk (p : Int → Bool) (n : Int) (a : Int → Nat → Int) (t : Int) : PS := fin (pS p n) (pD p) (a, t)
theorem setA_id {a : Int → Nat → Int} {t z : Int} {g : Nat} (h : a t g = z) : setA a t g z = a := by
  funext j f
  unfold setA
  by_cases hc : j = t ∧ f = g
  · rw [if_pos hc, hc.1, hc.2, h]
  · rw [if_neg hc]
theorem setA_ne {a : Int → Nat → Int} {t z j : Int} {f g : Nat} (h : j ≠ t ∨ f ≠ g) : setA a t g z j f = a j f := by
  unfold setA
  rw [if_neg (fun hc => h.elim (fun h => h hc.1) fun h => h hc.2)]
theorem setA_eq {a : Int → Nat → Int} {t z : Int} {g : Nat} : setA a t g z t g = z := by
  unfold setA
  rw [if_pos ⟨rfl, rfl⟩]
/-- what one step leaves of station i -/
theorem st_at {b : Bool} {a : Int → Nat → Int} {t i : Int} : stA b a t i 0 = a i 0 ∧ (i ≠ t → stA b a t i 1 = a i 1) ∧ stA b a t t 1 = (if b = true then (if 0 < a t 1 then a t 1 else a t 1 + 1000 * a t 0) else min (a t 1) 0) := by
  unfold stA
  cases b with
  | true =>
    simp only [if_pos]
    by_cases h : 0 < a t 1
    · simp only [if_pos h]; exact ⟨trivial, fun _ => trivial, trivial⟩
    · simp only [if_neg h]
      exact ⟨setA_ne (.inr (by omega)), fun hi => setA_ne (.inl hi), setA_eq⟩
  | false =>
    simp only [Bool.false_eq_true, if_false]
    exact ⟨setA_ne (.inr (by omega)), fun hi => setA_ne (.inl hi), setA_eq⟩
theorem st_ok {b : Bool} {a : Int → Nat → Int} {n t : Int} (h : okS a n) (h0 : 0 ≤ t) (h1 : t < n) : okS (stA b a t) n := by
  refine ⟨fun i i0 i1 => ?_⟩
  have hi := h.h i i0 i1
  obtain ⟨e0, e1, e2⟩ := @st_at b a t i
  rw [e0]
  by_cases hit : i = t
  · subst hit
    rw [e2]
    cases b with
    | true => simp only [if_pos]; split <;> omega
    | false => simp only [Bool.false_eq_true, if_false]; omega
  · rw [e1 hit]; exact hi
theorem stT_bd {b : Bool} {a : Int → Nat → Int} {n t : Int} (h0 : 0 ≤ t) (h1 : t < n) : 0 ≤ stT b a n t ∧ stT b a n t < n := by
  unfold stT
  split
  · exact ⟨h0, h1⟩
  · split <;> omega
theorem tmod_next {n t : Int} (h0 : 0 ≤ t) (h1 : t < n) : Int.tmod (t + 1) n = if t + 1 = n then 0 else t + 1 := by
  split
  · rename_i h; rw [h, Int.tmod_self]
  · exact Int.tmod_eq_of_lt (by omega) (by omega)
/-- how far picking has still to go: i0 is busy -/
def pM (n i0 : Int) (s : PS) : Nat := (1 - s.1 i0 1).toNat * 64 + (if s.2 ≤ i0 then i0 - s.2 else i0 - s.2 + n).toNat
structure PkI (p : Int → Bool) (n i0 : Int) (s : PS) : Prop where
  ok : okS s.1 n
  t0 : 0 ≤ s.2
  t1 : s.2 < n
theorem pk_step {p : Int → Bool} {n i0 : Int} (hn : n ≤ 32) (h0 : 0 ≤ i0) (h1 : i0 < n) (hb : p i0 = true) (s : PS) (h : PkI p n i0 s) (hd : pD p s = false) : PkI p n i0 (pS p n s) ∧ pM n i0 (pS p n s) < pM n i0 s := by
  obtain ⟨a, t⟩ := s
  obtain ⟨ok, t0, t1⟩ := h
  simp only at ok t0 t1
  have hc : cho (p t) a t = false := hd
  have hT : stT (p t) a n t = if t + 1 = n then 0 else t + 1 := by
    unfold stT
    rw [if_neg]
    intro h
    unfold cho at hc
    rw [h.1] at hc
    simp at hc
    omega
  refine ⟨⟨st_ok ok t0 t1, (stT_bd t0 t1).1, (stT_bd t0 t1).2⟩, ?_⟩
  obtain ⟨e0, e1, e2⟩ := @st_at (p t) a t i0
  show (1 - stA (p t) a t i0 1).toNat * 64 + (if stT (p t) a n t ≤ i0 then i0 - stT (p t) a n t else i0 - stT (p t) a n t + n).toNat < (1 - a i0 1).toNat * 64 + (if t ≤ i0 then i0 - t else i0 - t + n).toNat
  rw [hT]
  by_cases hi : i0 = t
  · subst hi
    rw [hb] at e2 hc ⊢
    unfold cho at hc
    simp at hc
    have hok := ok.h i0 h0 h1
    rw [e2, if_pos rfl, if_neg (by omega)]
    (repeat' split) <;> omega
  · rw [e1 hi]
    (repeat' split) <;> omega
theorem pk_ends {p : Int → Bool} {n i0 : Int} (hn : n ≤ 32) (h0 : 0 ≤ i0) (h1 : i0 < n) (hb : p i0 = true) {a : Int → Nat → Int} {t : Int} (h : okS a n) (t0 : 0 ≤ t) (t1 : t < n) : ∃ s', Rch (pS p n) (pD p) (a, t) s' ∧ pD p s' = true :=
  Rch.ends (P := PkI p n i0) (pM n i0) (fun s hs hd => pk_step hn h0 h1 hb s hs hd) _ _ (Nat.le_refl _) ⟨h, t0, t1⟩
/-- picking ends, and where -/
theorem pk_spec {p : Int → Bool} {n i0 : Int} (hn : n ≤ 32) (h0 : 0 ≤ i0) (h1 : i0 < n) (hb : p i0 = true) {a : Int → Nat → Int} {t : Int} (h : okS a n) (t0 : 0 ≤ t) (t1 : t < n) : Rch (pS p n) (pD p) (a, t) (pk p n a t) ∧ pD p (pk p n a t) = true := by
  obtain ⟨s', hr, hd⟩ := pk_ends hn h0 h1 hb h t0 t1
  have : pk p n a t = s' := fin_eq hr hd
  rw [this]; exact ⟨hr, hd⟩
def bzP (b : Int → Nat → Int) : Int → Bool := fun i => !(decide (b i 0 = 0))
def noB (b : Int → Nat → Int) (i : Int) : Bool := decide (b i 0 = 0)
def pcE (a : Int → Nat → Int) (n t : Int) (b : Int → Nat → Int) (m : Int) : Int := if ckA a n t = 0 then if m = n then 0 else 2 else 8
noncomputable def pcW (a : Int → Nat → Int) (n t : Int) (b : Int → Nat → Int) (m : Int) : Int := if pcE a n t b m = 0 then if allI (noB b) m = true then -1 else (pk (bzP b) n a t).2 else 0
noncomputable def pcA (a : Int → Nat → Int) (n t : Int) (b : Int → Nat → Int) (m : Int) : Int → Nat → Int := if allI (noB b) m = true then a else (pk (bzP b) n a t).1
noncomputable def pcT (a : Int → Nat → Int) (n t : Int) (b : Int → Nat → Int) (m : Int) : Int := if pcE a n t b m = 0 then if allI (noB b) m = true then t else (pk (bzP b) n a t).2 else 0
def pcN (a : Int → Nat → Int) (n t : Int) (b : Int → Nat → Int) (m k : Int) : Int := if pcE a n t b m = 0 then k else 0
end Go.Proofs.Ytccmgepknjkakaa
