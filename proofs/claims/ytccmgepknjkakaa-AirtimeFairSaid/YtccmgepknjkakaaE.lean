/- Serving queues: from one frame to the next; the order; what is fair. -/
import Derived.Test.YtccmgepknjkakaaP4
namespace Go.Proofs.Ytccmgepknjkakaa
open Go Go.RowKit Go.Proofs.Ytccmgepknjkakaa.Vc
theorem Rch.join {σ : Type} {step : σ → σ} {dn : σ → Bool} {a b c : σ} (h1 : Rch step dn a b) (h2 : Rch step dn a c) (hd : dn c = true) : Rch step dn b c := by
  obtain ⟨k, rfl, hk⟩ := h1
  obtain ⟨j, rfl, hj⟩ := h2
  have hkj : k ≤ j := by
    apply Classical.byContradiction
    intro h
    rw [hk j (by omega)] at hd; cases hd
  refine ⟨j - k, ?_, fun i hi => ?_⟩
  · rw [← itM_add]; congr 1; omega
  · rw [← itM_add]; exact hj _ (by omega)
theorem ord_kept {n T : Int} {l : Int → Int} {f : Int → Int → Int} {s s' : RS} (h : Rch (rS n l f) (rD T) s s') : s.cnt ≤ s'.cnt ∧ ∀ i, i < s.cnt → s'.ord i = s.ord i := by
  refine h.keeps (P := fun x => s.cnt ≤ x.cnt ∧ ∀ i, i < s.cnt → x.ord i = s.ord i) (fun x hx _ => ?_) ⟨Int.le_refl _, fun i _ => rfl⟩
  unfold rS
  split
  · refine ⟨by show _ ≤ x.cnt + 1; omega, fun i hi => ?_⟩
    show upI x.ord x.cnt x.t i = _
    rw [upI_ne (by omega)]; exact hx.2 i hi
  · exact hx
/-- the next station that is served -/
theorem next_serve {n : Int} {l : Int → Int} {f : Int → Int → Int} (F : RF n l f) {s0 s : RS} (hR : Rch (rS n l f) (rD (sumI l n)) s0 s) (hI : RI n l s) (hd : rD (sumI l n) s = false) {q : Int → Bool} (hq : ∀ i, 0 ≤ i → i < n → q i = rB l s i) :
    ∃ s', Rch (rS n l f) (rD (sumI l n)) s0 s' ∧ RI n l s' ∧ rD (sumI l n) s' = false ∧ (s'.a, s'.t) = pk q n s.a s.t ∧ s'.hd = s.hd ∧ s'.ord = s.ord ∧ s'.cnt = s.cnt ∧ cho (rB l s' s'.t) s'.a s'.t = true ∧ Rch (rS n l f) (rD (sumI l n)) s0 (rV f s') := by
  obtain ⟨j, j0, j1, hj⟩ := rs_busy hI hd
  obtain ⟨hr, hdn⟩ := pk_spec (p := q) F.n1 j0 j1 (by rw [hq j j0 j1]; exact hj) hI.ok hI.t0 hI.t1
  have hk := hr.keeps (P := fun z : PS => ∃ s', Rch (rS n l f) (rD (sumI l n)) s0 s' ∧ RI n l s' ∧ s'.a = z.1 ∧ s'.t = z.2 ∧ s'.hd = s.hd ∧ s'.ord = s.ord ∧ s'.cnt = s.cnt) (fun z hz hzd => by
    obtain ⟨s', r1, r2, r3, r4, r5, r6, r7⟩ := hz
    have hd' : rD (sumI l n) s' = false := by unfold rD at hd ⊢; rw [r7]; exact hd
    have hb : rB l s' s'.t = q s'.t := by rw [hq _ r2.t0 r2.t1]; unfold rB; rw [r5]
    have hc : ¬ cho (rB l s' s'.t) s'.a s'.t = true := by
      rw [hb, r3, r4]
      have : cho (q z.2) z.1 z.2 = false := hzd
      rw [this]; simp
    have hs := r1.tail hd'
    have h2 := (rs_step F s' r2 hd').1
    have e : rS n l f s' = rW n l s' := by unfold rS; rw [if_neg hc]
    rw [e] at hs h2
    refine ⟨rW n l s', hs, h2, ?_, ?_, r5, r6, r7⟩
    · show stA (rB l s' s'.t) s'.a s'.t = stA (q z.2) z.1 z.2
      rw [hb, r3, r4]
    · show stT (rB l s' s'.t) s'.a n s'.t = stT (q z.2) z.1 n z.2
      rw [hb, r3, r4]) ⟨s, hR, hI, rfl, rfl, rfl, rfl, rfl⟩
  obtain ⟨s', r1, r2, r3, r4, r5, r6, r7⟩ := hk
  have hd' : rD (sumI l n) s' = false := by unfold rD at hd ⊢; rw [r7]; exact hd
  have hb : rB l s' s'.t = q s'.t := by rw [hq _ r2.t0 r2.t1]; unfold rB; rw [r5]
  have hc : cho (rB l s' s'.t) s'.a s'.t = true := by rw [hb, r3, r4]; exact hdn
  refine ⟨s', r1, r2, hd', by rw [r3, r4], r5, r6, r7, hc, ?_⟩
  have hs := r1.tail hd'
  have e : rS n l f s' = rV f s' := by unfold rS; rw [if_pos hc]
  rw [e] at hs
  exact hs
/-- what has been used so far of a queue -/
def usI (f : Int → Int → Int) (i h : Int) : Int := sumI (f i) h
theorem us_bd {n : Int} {l : Int → Int} {f : Int → Int → Int} (F : RF n l f) {i h : Int} (i0 : 0 ≤ i) (i1 : i < n) (h0 : 0 ≤ h) (h1 : h ≤ l i) : 0 ≤ usI f i h ∧ usI f i h ≤ h * 32767 :=
  sumI_bd h0 fun j j0 j1 => by have := F.fr i j i0 i1 j0 (by omega); omega
/-- the shares: a station that has frames has had the same number of turns as the others, or one more -/
structure FI (n : Int) (l : Int → Int) (f : Int → Int → Int) (w : Int → Int) (s : RS) : Prop where
  ri : RI n l s
  hw : ∀ i, 0 ≤ i → i < n → s.a i 0 = w i
  lo : ∀ i, 0 ≤ i → i < n → -32766 ≤ s.a i 1
  fi : ∃ N : Int, ∀ i, 0 ≤ i → i < n → s.hd i < l i → usI f i (s.hd i) + s.a i 1 = 1000 * w i * (N + if i < s.t then 1 else 0)
theorem FI.step {n : Int} {l : Int → Int} {f : Int → Int → Int} (F : RF n l f) {w : Int → Int} (s : RS) (h : FI n l f w s) (hd : rD (sumI l n) s = false) : FI n l f w (rS n l f s) := by
  obtain ⟨ri, hw, lo, N, fi⟩ := h
  have h2 := (rs_step F s ri hd).1
  by_cases hc : cho (rB l s s.t) s.a s.t = true
  · have e : rS n l f s = rV f s := by unfold rS; rw [if_pos hc]
    rw [e] at h2 ⊢
    have hcc := cho_iff.1 hc
    have hb : s.hd s.t < l s.t := of_decide_eq_true hcc.1
    have hh := ri.h s.t ri.t0 ri.t1
    have hf := F.fr s.t (s.hd s.t) ri.t0 ri.t1 hh.1 hb
    refine ⟨h2, fun i i0 i1 => ?_, fun i i0 i1 => ?_, N, fun i i0 i1 => ?_⟩
    · show setA s.a s.t 1 _ i 0 = _
      rw [setA_ne (.inr (by omega))]; exact hw i i0 i1
    · show -32766 ≤ setA s.a s.t 1 _ i 1
      by_cases hi : i = s.t
      · rw [hi, setA_eq]; omega
      · rw [setA_ne (.inl hi)]; exact lo i i0 i1
    · show upI s.hd s.t _ i < l i → usI f i (upI s.hd s.t _ i) + setA s.a s.t 1 _ i 1 = 1000 * w i * (N + if i < s.t then 1 else 0)
      by_cases hi : i = s.t
      · subst hi
        rw [upI_eq, setA_eq]
        intro _
        have := fi s.t i0 i1 hb
        unfold usI at this ⊢
        rw [sumI_succ hh.1, ← this]; omega
      · rw [upI_ne hi, setA_ne (.inl hi)]
        exact fi i i0 i1
  · have e : rS n l f s = rW n l s := by unfold rS; rw [if_neg hc]
    rw [e] at h2 ⊢
    have hT : stT (rB l s s.t) s.a n s.t = if s.t + 1 = n then 0 else s.t + 1 := by
      rw [← next_st (p := rB l s) ri.t0 ri.t1 (by simpa using hc), tmod_next ri.t0 ri.t1]
    have t0 := ri.t0
    have t1 := ri.t1
    refine ⟨h2, fun i i0 i1 => ?_, fun i i0 i1 => ?_, if s.t + 1 = n then N + 1 else N, fun i i0 i1 => ?_⟩
    · show stA (rB l s s.t) s.a s.t i 0 = _
      rw [(@st_at (rB l s s.t) s.a s.t i).1]; exact hw i i0 i1
    · obtain ⟨e0, e1, e2⟩ := @st_at (rB l s s.t) s.a s.t i
      show -32766 ≤ stA (rB l s s.t) s.a s.t i 1
      have := lo i i0 i1
      have hok := ri.ok.h i i0 i1
      by_cases hi : i = s.t
      · rw [← hi] at e2 ⊢
        rw [e2]
        (repeat' split) <;> omega
      · rw [e1 hi]; exact this
    · obtain ⟨e0, e1, e2⟩ := @st_at (rB l s s.t) s.a s.t i
      show s.hd i < l i → usI f i (s.hd i) + stA (rB l s s.t) s.a s.t i 1 = 1000 * w i * ((if s.t + 1 = n then N + 1 else N) + if i < stT (rB l s s.t) s.a n s.t then 1 else 0)
      intro hb
      have h3 := fi i i0 i1 hb
      rw [hT]
      by_cases hi : i = s.t
      · have hbt : rB l s s.t = true := by unfold rB; rw [← hi]; simpa using hb
        have hcr : ¬ 0 < s.a s.t 1 := fun h => hc (cho_iff.2 ⟨hbt, h⟩)
        rw [hbt] at e2 ⊢
        subst hi
        rw [e2, if_pos rfl, if_neg hcr, hw s.t i0 i1]
        rw [if_neg (by omega)] at h3
        have e5 : 1000 * w s.t * (N + 0) + 1000 * w s.t = 1000 * w s.t * (N + 1) := by rw [Int.mul_add, Int.mul_add]; omega
        have e6 : ((if s.t + 1 = n then N + 1 else N) + if s.t < (if s.t + 1 = n then 0 else s.t + 1) then 1 else 0) = N + 1 := by
          (repeat' split) <;> omega
        rw [e6, ← e5, ← h3]; omega
      · rw [e1 hi, h3]
        congr 1
        (repeat' split) <;> omega
theorem fi_start {n : Int} {l : Int → Int} {f : Int → Int → Int} {w : Int → Int} {a : Int → Nat → Int} (hI : RI n l (rs0 a 0)) (hw : ∀ i, 0 ≤ i → i < n → a i 0 = w i) (hc : ∀ i, 0 ≤ i → i < n → a i 1 = 0) : FI n l f w (rs0 a 0) := by
  refine ⟨hI, hw, fun i i0 i1 => ?_, 0, fun i i0 i1 _ => ?_⟩
  · have := hc i i0 i1
    show -32766 ≤ a i 1
    omega
  · show usI f i 0 + a i 1 = _
    rw [hc i i0 i1]
    have : (if i < (rs0 a 0).t then (1:Int) else 0) = 0 := if_neg (by show ¬ i < 0; omega)
    rw [this]
    unfold usI
    rw [sumI_zero]; simp
theorem fair_ineq {ui uj wi wj ci cj N bi bj : Int} (hi : ui + ci = 1000 * wi * (N + bi)) (hj : uj + cj = 1000 * wj * (N + bj)) (b0 : 0 ≤ bi) (b1 : bi ≤ 1) (b2 : 0 ≤ bj) (b3 : bj ≤ 1) (w0 : 1 ≤ wi) (w1 : 1 ≤ wj) (c0 : -32766 ≤ ci) (c1 : ci ≤ 1000 * wi) (c2 : -32766 ≤ cj) (c3 : cj ≤ 1000 * wj) :
    max (ui * wj - uj * wi) (uj * wi - ui * wj) ≤ 34767 * wi * wj := by
  have e : ui * wj - uj * wi = 1000 * (wi * wj) * (bi - bj) - ci * wj + cj * wi := by
    have h1 : ui = 1000 * wi * (N + bi) - ci := by omega
    have h2 : uj = 1000 * wj * (N + bj) - cj := by omega
    rw [h1, h2]; grind
  have m1 : -32766 * wj ≤ ci * wj := Int.mul_le_mul_of_nonneg_right c0 (by omega)
  have m2 : ci * wj ≤ 1000 * wi * wj := Int.mul_le_mul_of_nonneg_right c1 (by omega)
  have m3 : -32766 * wi ≤ cj * wi := Int.mul_le_mul_of_nonneg_right c2 (by omega)
  have m4 : cj * wi ≤ 1000 * wj * wi := Int.mul_le_mul_of_nonneg_right c3 (by omega)
  have m5 : 1 * wj ≤ wi * wj := Int.mul_le_mul_of_nonneg_right w0 (by omega)
  have m6 : 1 * wi ≤ wj * wi := Int.mul_le_mul_of_nonneg_right w1 (by omega)
  rw [Int.mul_comm wj wi] at m6
  rw [Int.mul_assoc, Int.mul_comm wj wi] at m4
  rw [Int.mul_assoc] at m2
  rw [Int.mul_assoc]
  have h3 : bi - bj = 0 ∨ bi - bj = 1 ∨ bi - bj = -1 := by omega
  have e2 : uj * wi - ui * wj = -(ui * wj - uj * wi) := by omega
  rw [e2, e]
  generalize wi * wj = W at *
  generalize ci * wj = A at *
  generalize cj * wi = B at *
  rcases h3 with h | h | h <;> rw [h] <;> omega
end Go.Proofs.Ytccmgepknjkakaa
