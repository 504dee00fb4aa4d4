/- Serving queues: what is left to show of the reference's Run. -/
import Derived.Test.YtccmgepknjkakaaP4
import Derived.Test.YtccmgepknjkakaaC6
namespace Go.Proofs.Ytccmgepknjkakaa
open Go Go.RowKit Go.Proofs.Ytccmgepknjkakaa.Vc
theorem ord_serve' {s : RS} {f2 : Int → Int → Int} {O : Int → Nat → Int} {c u : Int} (hc : c = s.cnt) (hu : u = s.t) (hO : ∀ i, 0 ≤ i → i < c → O i 0 = s.ord i) : ∀ i, 0 ≤ i → i < c + 1 → appA O c (setA zA 0 0 u) i 0 = (rV f2 s).ord i := ord_serve hc hu hO
theorem vc12 : VC12 := by
  intro a n t l f m hp hn hm
  obtain ⟨hm40, hp⟩ := hp
  refine ⟨trivial, ?_⟩
  rintro e he hN hM
  have o8 := ckA_08 a n t
  refine ⟨fun h1 => ?_, fun h1 => ?_⟩
  · have h2 : ¬ ckA a n t = 0 := by omega
    exact ru_none (ruE_8 h2) (by omega)
  have hc : ckA a n t = 0 := by omega
  obtain ⟨c1, c2, c3, c4, c5⟩ := ckA_ok hc
  refine ⟨fun h2 => ru_none (ruE_2 hc fun hh => h2 hh.1) (by omega), fun h2 => ?_⟩
  obtain rfl : m = n := by omega
  have hsum : ∀ i, 0 ≤ i → i ≤ m → 0 ≤ sumI l i ∧ sumI l i ≤ i * 140737488351232 := fun i i0 i1 => sumI_bd i0 fun j j0 j1 => hp.h j j0 (by omega)
  refine ⟨fun s i => 0 ≤ i ∧ i ≤ m ∧ s = sumI l i ∧ allI (rowOk l f) i = true, fun _ i => (m - i).toNat, ⟨by omega, by omega, rfl, rfl⟩, ?_⟩
  rintro s i ⟨i0, i1, rfl, hok⟩
  have hsi := hsum i i0 i1
  refine ⟨fun h2 => ?_, fun h2 => ?_⟩
  · have hl := hp.h i i0 h2
    refine ⟨i0, fun _ => ⟨by omega, fun _ => ?_⟩⟩
    refine ⟨fun j => 0 ≤ j ∧ j ≤ l i ∧ allI (rowB f i) j = true, fun j => (l i - j).toNat, ⟨by omega, by omega, rfl⟩, ?_⟩
    rintro j ⟨j0, j1, hj⟩
    intro _ _
    refine ⟨fun h3 => ⟨j0, fun _ => ⟨fun h4 => ?_, fun h4 => ?_⟩⟩, fun h3 => ?_⟩
    · exact ru_none (ruE_2 hc fun hh => row_bad i0 h2 j0 h3 h4 hh.2.1) (by omega)
    · refine ⟨by omega, fun _ => ⟨⟨by omega, by omega, ?_⟩, by dsimp only; omega⟩⟩
      rw [allI_succ j0, hj, Bool.true_and]
      have h4' : ¬ (f i j 0 < 1 ∨ 32767 < f i j 0) := h4
      unfold rowB
      exact decide_eq_true (by omega)
    · obtain rfl : j = l i := by omega
      refine ⟨by omega, fun _ => ⟨⟨by omega, by omega, (sumI_succ i0).symm, ?_⟩, by dsimp only; omega⟩⟩
      rw [allI_succ i0, hok, Bool.true_and]
      exact hj
  obtain rfl : i = m := by omega
  have hs : sumI (nmL l i) i = sumI l i := sumI_congr fun j j0 j1 => nmL_at j0 j1
  refine ⟨fun h3 => ?_, fun h3 => ?_⟩
  · exact ru_none (ruE_2 hc fun hh => by rw [hs] at hh; omega) (by omega)
  have hE : ruE a i t l f i = 0 := ruE_0 hc ⟨rfl, hok, by omega⟩
  obtain ⟨_, _, _, F, I⟩ := ruE_ok (fun j j0 j1 => (hp.h j j0 j1).1) hE
  refine ⟨by omega, fun _ => ⟨by omega, ?_⟩⟩
  rintro a n t rfl rfl rfl hn2
  have hRI : ∀ s, Rch (rS n (nmL l n) (nmF f n)) (rD (sumI (nmL l n) n)) (rs0 a t) s → RI n (nmL l n) s := fun s h => h.keeps (P := RI n (nmL l n)) (fun s hs hd => (rs_step F s hs hd).1) I
  refine ⟨fun x k u _ O c at' => ∃ s : RS, Rch (rS n (nmL l n) (nmF f n)) (rD (sumI (nmL l n) n)) (rs0 a t) s ∧ x = s.a ∧ k = n ∧ u = s.t ∧ c = s.cnt ∧ (∀ i, 0 ≤ i → i < c → O i 0 = s.ord i) ∧ (∀ i, at' i 0 = s.hd i), fun x k u _ O c at' => (sumI (nmL l n) n - c).toNat * 4194304 + pM n (fb n fun i => decide (at' i 0 < nmL l n i)) (x, u), ⟨rs0 a t, Rch.refl _, rfl, rfl, rfl, rfl, fun i i0 i1 => by omega, fun i => rfl⟩, ?_⟩
  rintro x k u z O c at' ⟨s, hR, rfl, rfl, rfl, rfl, hO, hat⟩ _ _ hcc0 _
  have hI := hRI s hR
  have hmu : ∀ (s' : RS) (at2 : Int → Nat → Int), (∀ i, at2 i 0 = s'.hd i) → (sumI (nmL l k) k - s'.cnt).toNat * 4194304 + pM k (fb k fun i => decide (at2 i 0 < nmL l k i)) (s'.a, s'.t) = rM k (sumI (nmL l k) k) (nmL l k) s' := by
    intro s' at2 h
    unfold rM
    have : (fun i => decide (at2 i 0 < nmL l k i)) = rB (nmL l k) s' := by funext i; unfold rB; rw [h i]
    rw [this]
  refine ⟨fun hlt => ?_, fun hlt => ?_⟩
  · have hd0 : rD (sumI (nmL l k) k) s = false := by unfold rD; rw [hs]; simp; omega
    have t0 := hI.t0
    have t1 := hI.t1
    have kk := hI.ok.h s.t t0 t1
    have hh := hI.h s.t t0 t1
    rw [nmL_at t0 t1] at hh
    have hrb : rB (nmL l k) s s.t = decide (at' s.t 0 < l s.t) := by unfold rB; rw [nmL_at t0 t1, hat]
    have hll := hp.h s.t t0 t1
    have hstep := rs_step F s hI hd0
    refine ⟨t0, fun _ => ⟨t1, fun _ => ⟨⟨by omega, t0, t1, hI.ok⟩, ?_⟩⟩⟩
    rw [← hrb]
    rintro y k2 w d rfl rfl rfl rfl _ _ _ _
    refine ⟨fun h8 => ?_, fun h8 => ?_⟩
    · have h9 := cho_iff.1 h8
      have hlt2 : s.hd s.t < l s.t := by
        have := h9.1
        unfold rB at this
        rw [nmL_at t0 t1] at this
        exact of_decide_eq_true this
      have hfr := F.fr s.t (s.hd s.t) t0 t1 hh.1 (by rw [nmL_at t0 t1]; exact hlt2)
      have hG : rowA f s.t (at' s.t 0) 0 = nmF f k2 s.t (s.hd s.t) := by
        show f s.t (at' s.t 0) 0 = _
        rw [nmF_at t0 t1, hat]
      have e1 : stA (rB (nmL l k2) s s.t) s.a s.t = s.a := by unfold stA; rw [if_pos h9.1, if_pos h9.2]
      have e2 : stT (rB (nmL l k2) s s.t) s.a k2 s.t = s.t := by unfold stT; rw [if_pos h9]
      have hS : rS k2 (nmL l k2) (nmF f k2) s = rV (nmF f k2) s := by unfold rS; rw [if_pos h8]
      rw [hG, e1, e2, hat]
      have hat2 : ∀ i, setA at' s.t 0 (s.hd s.t + 1) i 0 = (rV (nmF f k2) s).hd i := fun i => by
        show setA at' s.t 0 _ i 0 = upI s.hd s.t _ i
        by_cases hi : i = s.t
        · rw [hi, setA_eq, upI_eq]
        · rw [setA_ne (.inl hi), upI_ne hi, hat]
      refine ⟨t1, fun _ => ⟨by omega, fun _ => ⟨by omega, fun _ => ⟨by omega, fun _ => ⟨by omega, fun _ => ⟨by omega, fun _ => ⟨by omega, fun _ => ⟨⟨rV (nmF f k2) s, ?_, rfl, rfl, rfl, rfl, ?_, hat2⟩, ?_⟩⟩⟩⟩⟩⟩⟩⟩
      · have := hR.tail hd0
        rw [hS] at this
        exact this
      · exact ord_serve rfl rfl hO
      · have h10 := hstep.2
        rw [hS] at h10
        have h11 := hmu (rV (nmF f k2) s) _ hat2
        have h12 := hmu s _ hat
        rw [← h11, ← h12] at h10
        exact h10
    · have hS : rS k2 (nmL l k2) (nmF f k2) s = rW k2 (nmL l k2) s := by unfold rS; rw [if_neg h8]
      refine ⟨⟨rW k2 (nmL l k2) s, ?_, rfl, rfl, rfl, rfl, hO, hat⟩, ?_⟩
      · have := hR.tail hd0
        rw [hS] at this
        exact this
      · have h10 := hstep.2
        rw [hS] at h10
        have h11 := hmu (rW k2 (nmL l k2) s) at' hat
        have h12 := hmu s _ hat
        rw [← h11, ← h12] at h10
        exact h10
  · have hd : rD (sumI (nmL l k) k) s = true := by unfold rD; rw [hs]; simp; omega
    exact ru_done hE (fin_eq hR hd) rfl rfl rfl rfl hO
end Go.Proofs.Ytccmgepknjkakaa
