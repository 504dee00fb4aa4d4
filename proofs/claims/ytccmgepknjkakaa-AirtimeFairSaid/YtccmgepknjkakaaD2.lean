/- Serving queues: the machine that Run is. -/
import Derived.Test.YtccmgepknjkakaaD
namespace Go.Proofs.Ytccmgepknjkakaa
open Go Go.RowKit Go.Proofs.Ytccmgepknjkakaa.Vc
def sumN : Nat → (Int → Int) → Int
  | 0, _ => 0
  | k + 1, g => sumN k g + g k
def sumI (g : Int → Int) (i : Int) : Int := sumN i.toNat g
theorem sumI_zero {g : Int → Int} : sumI g 0 = 0 := rfl
theorem sumI_succ {g : Int → Int} {i : Int} (h : 0 ≤ i) : sumI g (i + 1) = sumI g i + g i := by
  unfold sumI
  obtain ⟨k, rfl⟩ := Int.eq_ofNat_of_zero_le h
  rw [show ((k : Int) + 1).toNat = k + 1 by omega, show ((k : Int)).toNat = k by omega]
  rfl
theorem sumN_congr {g h : Int → Int} : ∀ {k : Nat}, (∀ i : Int, 0 ≤ i → i < k → g i = h i) → sumN k g = sumN k h
  | 0, _ => rfl
  | k + 1, hh => by
    show sumN k g + g k = sumN k h + h k
    rw [sumN_congr (fun i h0 h1 => hh i h0 (by omega)), hh k (by omega) (by omega)]
theorem sumI_congr {g h : Int → Int} {n : Int} (hh : ∀ i, 0 ≤ i → i < n → g i = h i) : sumI g n = sumI h n := sumN_congr fun i h0 h1 => hh i h0 (by omega)
theorem sumN_le {g h : Int → Int} : ∀ {k : Nat}, (∀ i : Int, 0 ≤ i → i < k → g i ≤ h i) → sumN k g ≤ sumN k h
  | 0, _ => Int.le_refl _
  | k + 1, hh => by
    show sumN k g + g k ≤ sumN k h + h k
    have := sumN_le (k := k) (fun i h0 h1 => hh i h0 (by omega))
    have := hh k (by omega) (by omega)
    omega
theorem sumI_le {g h : Int → Int} {n : Int} (hh : ∀ i, 0 ≤ i → i < n → g i ≤ h i) : sumI g n ≤ sumI h n := sumN_le fun i h0 h1 => hh i h0 (by omega)
theorem sumN_const {c : Int} : ∀ {k : Nat}, sumN k (fun _ => c) = k * c
  | 0 => by simp [sumN]
  | k + 1 => by
    show sumN k (fun _ => c) + c = _
    rw [sumN_const]; push_cast; rw [Int.add_mul]; omega
theorem sumI_bd {g : Int → Int} {c n : Int} (h0 : 0 ≤ n) (hh : ∀ i, 0 ≤ i → i < n → 0 ≤ g i ∧ g i ≤ c) : 0 ≤ sumI g n ∧ sumI g n ≤ n * c := by
  have h1 : sumI (fun _ => 0) n ≤ sumI g n := sumI_le fun i i0 i1 => (hh i i0 i1).1
  have h2 : sumI g n ≤ sumI (fun _ => c) n := sumI_le fun i i0 i1 => (hh i i0 i1).2
  have e1 : sumI (fun _ => (0:Int)) n = _ := sumN_const
  have e2 : sumI (fun _ => c) n = _ := sumN_const
  rw [e1] at h1; rw [e2] at h2
  rw [show ((n.toNat : Nat) : Int) = n by omega] at h1 h2
  omega
def upI (g : Int → Int) (i v : Int) : Int → Int := fun j => if j = i then v else g j
theorem upI_eq {g : Int → Int} {i v : Int} : upI g i v i = v := by unfold upI; rw [if_pos rfl]
theorem upI_ne {g : Int → Int} {i v j : Int} (h : j ≠ i) : upI g i v j = g j := by unfold upI; rw [if_neg h]
theorem sumN_up {g : Int → Int} {t v : Int} (h0 : 0 ≤ t) : ∀ {k : Nat}, sumN k (upI g t v) = if t < k then sumN k g - g t + v else sumN k g
  | 0 => by rw [if_neg (by omega)]; rfl
  | k + 1 => by
    show sumN k (upI g t v) + upI g t v k = if t < ((k + 1 : Nat) : Int) then sumN k g + g k - g t + v else sumN k g + g k
    rw [sumN_up h0 (k := k)]
    by_cases h : t < k
    · rw [if_pos h, if_pos (by omega), upI_ne (by omega)]; omega
    · rw [if_neg h]
      by_cases hk : t = k
      · rw [if_pos (by omega), hk, upI_eq]; omega
      · rw [if_neg (by omega), upI_ne (by omega)]
theorem sumI_up {g : Int → Int} {t v n : Int} (h0 : 0 ≤ t) (h1 : t < n) : sumI (upI g t v) n = sumI g n - g t + v := by
  unfold sumI
  rw [sumN_up h0, if_pos (by omega)]
theorem sumI_lt {g h : Int → Int} {n : Int} (hlt : sumI g n < sumI h n) : ∃ i, 0 ≤ i ∧ i < n ∧ g i < h i := by
  apply Classical.byContradiction
  intro hc
  have := sumI_le (g := h) (h := g) (n := n) fun i i0 i1 => by
    apply Classical.byContradiction
    intro hh
    exact hc ⟨i, i0, i1, by omega⟩
  omega

/-! the machine -/
def nmL (l : Int → Int) (m : Int) : Int → Int := fun i => if 0 ≤ i ∧ i < m then l i else 0
def nmF (f : Int → Int → Nat → Int) (m : Int) : Int → Int → Int := fun i j => if 0 ≤ i ∧ i < m then f i j 0 else 0
theorem nmL_at {l : Int → Int} {m i : Int} (h0 : 0 ≤ i) (h1 : i < m) : nmL l m i = l i := by unfold nmL; rw [if_pos ⟨h0, h1⟩]
theorem nmF_at {f : Int → Int → Nat → Int} {m i j : Int} (h0 : 0 ≤ i) (h1 : i < m) : nmF f m i j = f i j 0 := by unfold nmF; rw [if_pos ⟨h0, h1⟩]
structure RS where
  a : Int → Nat → Int
  t : Int
  hd : Int → Int
  ord : Int → Int
  cnt : Int
def rB (l : Int → Int) (s : RS) (i : Int) : Bool := decide (s.hd i < l i)
def rV (f : Int → Int → Int) (s : RS) : RS := ⟨setA s.a s.t 1 (s.a s.t 1 - f s.t (s.hd s.t)), s.t, upI s.hd s.t (s.hd s.t + 1), upI s.ord s.cnt s.t, s.cnt + 1⟩
def rW (n : Int) (l : Int → Int) (s : RS) : RS := ⟨stA (rB l s s.t) s.a s.t, stT (rB l s s.t) s.a n s.t, s.hd, s.ord, s.cnt⟩
def rS (n : Int) (l : Int → Int) (f : Int → Int → Int) (s : RS) : RS := if cho (rB l s s.t) s.a s.t = true then rV f s else rW n l s
def rD (T : Int) (s : RS) : Bool := decide (T ≤ s.cnt)
def rs0 (a : Int → Nat → Int) (t : Int) : RS := ⟨a, t, fun _ => 0, fun _ => 0, 0⟩
instance : Nonempty RS := ⟨rs0 zA 0⟩
noncomputable def rn (a : Int → Nat → Int) (n t : Int) (l : Int → Int) (f : Int → Int → Nat → Int) (m : Int) : RS := fin (rS n (nmL l m) (nmF f m)) (rD (sumI (nmL l m) m)) (rs0 a t)
structure RI (n : Int) (l : Int → Int) (s : RS) : Prop where
  ok : okS s.a n
  t0 : 0 ≤ s.t
  t1 : s.t < n
  h : ∀ i, 0 ≤ i → i < n → 0 ≤ s.hd i ∧ s.hd i ≤ l i
  sm : sumI s.hd n = s.cnt
structure RF (n : Int) (l : Int → Int) (f : Int → Int → Int) : Prop where
  n0 : 1 ≤ n
  n1 : n ≤ 32
  fr : ∀ i j, 0 ≤ i → i < n → 0 ≤ j → j < l i → 1 ≤ f i j ∧ f i j ≤ 32767
/-- a station that is busy, if one is -/
noncomputable def fb (n : Int) (p : Int → Bool) : Int := Classical.epsilon fun i => (0 ≤ i ∧ i < n) ∧ ((∃ j, 0 ≤ j ∧ j < n ∧ p j = true) → p i = true)
theorem fb_spec {n : Int} {p : Int → Bool} (h : 1 ≤ n) : (0 ≤ fb n p ∧ fb n p < n) ∧ ((∃ j, 0 ≤ j ∧ j < n ∧ p j = true) → p (fb n p) = true) := by
  apply Classical.epsilon_spec (p := fun i => (0 ≤ i ∧ i < n) ∧ ((∃ j, 0 ≤ j ∧ j < n ∧ p j = true) → p i = true))
  by_cases hc : ∃ j, 0 ≤ j ∧ j < n ∧ p j = true
  · obtain ⟨j, j0, j1, hj⟩ := hc
    exact ⟨j, ⟨j0, j1⟩, fun _ => hj⟩
  · exact ⟨0, ⟨by omega, by omega⟩, fun h => absurd h hc⟩
noncomputable def rM (n T : Int) (l : Int → Int) (s : RS) : Nat := (T - s.cnt).toNat * 4194304 + pM n (fb n (rB l s)) (s.a, s.t)
theorem pM_lt {n i0 : Int} {s : PS} (hn : n ≤ 32) (h0 : 0 ≤ i0) (h1 : i0 < n) (ok : okS s.1 n) (t0 : 0 ≤ s.2) (t1 : s.2 < n) : pM n i0 s < 4194304 := by
  have := ok.h i0 h0 h1
  unfold pM
  split <;> omega
theorem rs_busy {n : Int} {l : Int → Int} {s : RS} (h : RI n l s) (hd : rD (sumI l n) s = false) : ∃ j, 0 ≤ j ∧ j < n ∧ rB l s j = true := by
  have : s.cnt < sumI l n := by unfold rD at hd; simpa using hd
  rw [← h.sm] at this
  obtain ⟨i, i0, i1, hi⟩ := sumI_lt this
  exact ⟨i, i0, i1, by unfold rB; simpa using hi⟩
theorem rV_ok {n : Int} {l : Int → Int} {f : Int → Int → Int} (F : RF n l f) {s : RS} (h : RI n l s) (hc : cho (rB l s s.t) s.a s.t = true) : RI n l (rV f s) := by
  unfold cho at hc
  rw [Bool.and_eq_true] at hc
  obtain ⟨hb, hcr⟩ := hc
  have hb : s.hd s.t < l s.t := of_decide_eq_true hb
  have hcr : 0 < s.a s.t 1 := of_decide_eq_true hcr
  have hh := h.h s.t h.t0 h.t1
  have hf := F.fr s.t (s.hd s.t) h.t0 h.t1 hh.1 hb
  refine ⟨⟨fun i i0 i1 => ?_⟩, h.t0, h.t1, fun i i0 i1 => ?_, ?_⟩
  · have hi := h.ok.h i i0 i1
    show 1 ≤ setA s.a s.t 1 _ i 0 ∧ setA s.a s.t 1 _ i 0 ≤ 16 ∧ _ ≤ setA s.a s.t 1 _ i 1 ∧ setA s.a s.t 1 _ i 1 ≤ 1000 * setA s.a s.t 1 _ i 0
    rw [setA_ne (.inr (by omega))]
    by_cases hit : i = s.t
    · subst hit; rw [setA_eq]; omega
    · rw [setA_ne (.inl hit)]; exact hi
  · show 0 ≤ upI s.hd s.t _ i ∧ upI s.hd s.t _ i ≤ l i
    by_cases hit : i = s.t
    · subst hit; rw [upI_eq]; omega
    · rw [upI_ne hit]; exact h.h i i0 i1
  · show sumI (upI s.hd s.t _) n = s.cnt + 1
    rw [sumI_up h.t0 h.t1, h.sm]; omega
theorem rW_ok {n : Int} {l : Int → Int} {s : RS} (h : RI n l s) : RI n l (rW n l s) :=
  ⟨st_ok h.ok h.t0 h.t1, (stT_bd h.t0 h.t1).1, (stT_bd h.t0 h.t1).2, h.h, h.sm⟩
theorem rW_lt {n : Int} {l : Int → Int} {f : Int → Int → Int} (F : RF n l f) {s : RS} (h : RI n l s) (hd : rD (sumI l n) s = false) (hc : ¬ cho (rB l s s.t) s.a s.t = true) : pM n (fb n (rB l s)) (stA (rB l s s.t) s.a s.t, stT (rB l s s.t) s.a n s.t) < pM n (fb n (rB l s)) (s.a, s.t) := by
  obtain ⟨⟨b0, b1⟩, b2⟩ := fb_spec (p := rB l s) F.n0
  exact (pk_step F.n1 b0 b1 (b2 (rs_busy h hd)) (s.a, s.t) ⟨h.ok, h.t0, h.t1⟩ (by show cho (rB l s s.t) s.a s.t = false; simpa using hc)).2
theorem rs_step {n : Int} {l : Int → Int} {f : Int → Int → Int} (F : RF n l f) (s : RS) (h : RI n l s) (hd : rD (sumI l n) s = false) : RI n l (rS n l f s) ∧ rM n (sumI l n) l (rS n l f s) < rM n (sumI l n) l s := by
  unfold rS
  by_cases hc : cho (rB l s s.t) s.a s.t = true
  · rw [if_pos hc]
    have hk := rV_ok F h hc
    refine ⟨hk, ?_⟩
    obtain ⟨⟨b0, b1⟩, _⟩ := fb_spec (p := rB l (rV f s)) F.n0
    have := pM_lt (s := ((rV f s).a, (rV f s).t)) F.n1 b0 b1 hk.ok hk.t0 hk.t1
    have hd' : s.cnt < sumI l n := by unfold rD at hd; simpa using hd
    unfold rM
    have e : (rV f s).cnt = s.cnt + 1 := rfl
    rw [e]
    have : (sumI l n - s.cnt).toNat = (sumI l n - (s.cnt + 1)).toNat + 1 := by omega
    rw [this]; omega
  · rw [if_neg hc]
    refine ⟨rW_ok h, ?_⟩
    have := rW_lt F h hd hc
    unfold rM
    exact Nat.add_lt_add_left this _
theorem rs0_ok {a : Int → Nat → Int} {n t : Int} {l : Int → Int} (h : okS a n) (t0 : 0 ≤ t) (t1 : t < n) (hl : ∀ i, 0 ≤ i → i < n → 0 ≤ l i) : RI n l (rs0 a t) := by
  refine ⟨h, t0, t1, fun i i0 i1 => ⟨Int.le_refl _, hl i i0 i1⟩, ?_⟩
  have e : sumI (fun _ => (0:Int)) n = _ := sumN_const
  show sumI (fun _ => (0:Int)) n = 0
  rw [e]; simp
theorem rs_ends {n : Int} {l : Int → Int} {f : Int → Int → Int} (F : RF n l f) {s : RS} (h : RI n l s) : ∃ s', Rch (rS n l f) (rD (sumI l n)) s s' ∧ rD (sumI l n) s' = true :=
  Rch.ends (P := RI n l) (rM n (sumI l n) l) (fun s hs hd => rs_step F s hs hd) _ _ (Nat.le_refl _) h

/-! Run -/
def rowB (f : Int → Int → Nat → Int) (i : Int) (j : Int) : Bool := decide (1 ≤ f i j 0 ∧ f i j 0 ≤ 32767)
def rowOk (l : Int → Int) (f : Int → Int → Nat → Int) (i : Int) : Bool := allI (rowB f i) (l i)
structure rwP (l : Int → Int) (m : Int) : Prop where
  h : ∀ i, 0 ≤ i → i < m → 0 ≤ l i ∧ l i ≤ 140737488351232
def ruE (a : Int → Nat → Int) (n t : Int) (l : Int → Int) (f : Int → Int → Nat → Int) (m : Int) : Int := if ckA a n t = 0 then if m = n ∧ allI (rowOk l f) m = true ∧ sumI (nmL l m) m ≤ 10000 then 0 else 2 else 8
noncomputable def ruO (a : Int → Nat → Int) (n t : Int) (l : Int → Int) (f : Int → Int → Nat → Int) (m : Int) : Int → Nat → Int := fun i _ => (rn a n t l f m).ord i
noncomputable def ruK (a : Int → Nat → Int) (n t : Int) (l : Int → Int) (f : Int → Int → Nat → Int) (m : Int) : Int := if ruE a n t l f m = 0 then (rn a n t l f m).cnt else 0
noncomputable def ruA (a : Int → Nat → Int) (n t : Int) (l : Int → Int) (f : Int → Int → Nat → Int) (m : Int) : Int → Nat → Int := (rn a n t l f m).a
def ruN (a : Int → Nat → Int) (n t : Int) (l : Int → Int) (f : Int → Int → Nat → Int) (m k : Int) : Int := if ruE a n t l f m = 0 then k else 0
noncomputable def ruT (a : Int → Nat → Int) (n t : Int) (l : Int → Int) (f : Int → Int → Nat → Int) (m : Int) : Int := if ruE a n t l f m = 0 then (rn a n t l f m).t else 0
theorem ruE_ok {a : Int → Nat → Int} {n t : Int} {l : Int → Int} {f : Int → Int → Nat → Int} {m : Int} (hl : ∀ i, 0 ≤ i → i < m → 0 ≤ l i) (h : ruE a n t l f m = 0) : ckA a n t = 0 ∧ m = n ∧ sumI (nmL l m) m ≤ 10000 ∧ RF n (nmL l m) (nmF f m) ∧ RI n (nmL l m) (rs0 a t) := by
  unfold ruE at h
  split at h
  · rename_i hc
    split at h
    · rename_i h2
      obtain ⟨c1, c2, c3, c4, c5⟩ := ckA_ok hc
      obtain ⟨rfl, h3, h4⟩ := h2
      refine ⟨hc, rfl, h4, ⟨c1, c2, fun i j i0 i1 j0 j1 => ?_⟩, rs0_ok c5 c3 c4 fun i i0 i1 => by rw [nmL_at i0 i1]; exact hl i i0 i1⟩
      rw [nmL_at i0 i1] at j1
      rw [nmF_at i0 i1]
      have h5 : rowOk l f i = true := allI_at h3 i0 i1
      exact of_decide_eq_true (allI_at (p := rowB f i) h5 j0 j1)
    · cases h
  · cases h
theorem rn_spec {a : Int → Nat → Int} {n t : Int} {l : Int → Int} {f : Int → Int → Nat → Int} {m : Int} (hl : ∀ i, 0 ≤ i → i < m → 0 ≤ l i) (h : ruE a n t l f m = 0) : Rch (rS n (nmL l m) (nmF f m)) (rD (sumI (nmL l m) m)) (rs0 a t) (rn a n t l f m) ∧ rD (sumI (nmL l m) m) (rn a n t l f m) = true ∧ RI n (nmL l m) (rn a n t l f m) := by
  obtain ⟨_, rfl, _, F, I⟩ := ruE_ok hl h
  obtain ⟨s', hr, hd⟩ := rs_ends F I
  have : rn a m t l f m = s' := fin_eq hr hd
  rw [this]
  exact ⟨hr, hd, hr.keeps (P := RI m (nmL l m)) (fun s hs hd => (rs_step F s hs hd).1) I⟩
theorem rn_cnt {a : Int → Nat → Int} {n t : Int} {l : Int → Int} {f : Int → Int → Nat → Int} {m : Int} (hl : ∀ i, 0 ≤ i → i < m → 0 ≤ l i) (h : ruE a n t l f m = 0) : (rn a n t l f m).cnt = sumI (nmL l m) m ∧ ∀ i, 0 ≤ i → i < n → (rn a n t l f m).hd i = l i := by
  obtain ⟨_, hd, I⟩ := rn_spec hl h
  obtain ⟨_, rfl, _⟩ := ruE_ok hl h
  have h1 : sumI (nmL l m) m ≤ (rn a m t l f m).cnt := by unfold rD at hd; simpa using hd
  have h2 : sumI (rn a m t l f m).hd m ≤ sumI (nmL l m) m := sumI_le fun i i0 i1 => (I.h i i0 i1).2
  rw [I.sm] at h2
  refine ⟨by omega, fun i i0 i1 => ?_⟩
  apply Classical.byContradiction
  intro hne
  have hi := I.h i i0 i1
  have hlt : (rn a m t l f m).hd i < nmL l m i := by rw [nmL_at i0 i1] at hi ⊢; omega
  have h3 : sumI (upI (rn a m t l f m).hd i (nmL l m i)) m ≤ sumI (nmL l m) m := sumI_le fun j j0 j1 => by
    by_cases hj : j = i
    · subst hj; rw [upI_eq]; exact Int.le_refl _
    · rw [upI_ne hj]; exact (I.h j j0 j1).2
  rw [sumI_up i0 i1, I.sm] at h3
  omega
theorem nm_eq {l l' : Int → Int} {f f' : Int → Int → Nat → Int} {m : Int} (hl : ∀ i, 0 ≤ i → i < m → l i = l' i) (hf : ∀ i, 0 ≤ i → i < m → ∀ j, f i j 0 = f' i j 0) : nmL l m = nmL l' m ∧ nmF f m = nmF f' m := by
  constructor
  · funext i; unfold nmL; split
    · rename_i h; exact hl i h.1 h.2
    · rfl
  · funext i j; unfold nmF; split
    · rename_i h; exact hf i h.1 h.2 j
    · rfl
theorem rn_congr {a : Int → Nat → Int} {n t : Int} {l l' : Int → Int} {f f' : Int → Int → Nat → Int} {m : Int} (hl : ∀ i, 0 ≤ i → i < m → l i = l' i) (hf : ∀ i, 0 ≤ i → i < m → ∀ j, f i j 0 = f' i j 0) : rn a n t l f m = rn a n t l' f' m ∧ ruE a n t l f m = ruE a n t l' f' m := by
  obtain ⟨e1, e2⟩ := nm_eq hl hf
  constructor
  · unfold rn; rw [e1, e2]
  · unfold ruE
    have : allI (rowOk l f) m = allI (rowOk l' f') m := allI_congr fun i i0 i1 => by
      unfold rowOk; rw [hl i i0 i1]
      exact allI_congr fun j _ _ => by unfold rowB; rw [hf i i0 i1 j]
    rw [e1, this]
def grA (l : Int → Int) (_f : Int → Int → Nat → Int) (m : Int) : Bool := decide (40 < m ∨ 300 < sumI l m)
def eq1 (a b : Int → Nat → Int) (i : Int) : Bool := decide (a i 0 = b i 0)
def siA (a : Int → Nat → Int) (n : Int) (b : Int → Nat → Int) (m : Int) : Bool := decide (n = m) && allI (eq1 a b) n
theorem siA_self {a b : Int → Nat → Int} {n : Int} (h : ∀ i, 0 ≤ i → i < n → a i 0 = b i 0) : siA a n b n = true := by
  unfold siA
  rw [Bool.and_eq_true]
  exact ⟨by simp, allI_of fun i h0 h1 => by unfold eq1; simp [h i h0 h1]⟩
end Go.Proofs.Ytccmgepknjkakaa
