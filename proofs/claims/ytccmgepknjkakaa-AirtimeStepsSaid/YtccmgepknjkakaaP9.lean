/- Shares of airtime: what is left to show of AirtimeSteps. -/
import Derived.Test.YtccmgepknjkakaaE
import Derived.Test.YtccmgepknjkakaaC9
namespace Go.Proofs.Ytccmgepknjkakaa
open Go Go.RowKit Go.Proofs.Ytccmgepknjkakaa.Vc
theorem vc9 : VC9 := by
  intro a n t l f m hp hn hm
  refine ⟨trivial, ?_⟩
  rintro al rfl hN hM
  refine ⟨fun _ => hp, ?_⟩
  rintro g hg
  refine ⟨fun _ => ⟨by simp, trivial⟩, fun hs => ?_⟩
  have hgr : ¬ (40 < m ∨ 300 < sumI l m) := by
    intro hh
    apply hs; left; right
    rw [hg]; unfold grA
    exact decide_eq_true hh
  refine ⟨⟨by omega, hp⟩, ?_⟩
  rintro O K A k2 tz e hO hK hA hk2 htz he _ _ _ _
  refine ⟨fun h => ⟨?_, trivial⟩, fun h => ?_⟩
  · have : K = 0 := by rw [hK]; unfold ruK; rw [if_neg (by rw [← he]; exact h)]
    simp [this]
  have hE : ruE a n t l f m = 0 := by omega
  have hpos : ∀ i, 0 ≤ i → i < m → 0 ≤ l i := fun i i0 i1 => (hp.h i i0 i1).1
  obtain ⟨hc, hmn, _, F, I⟩ := ruE_ok hpos hE
  subst hmn
  obtain ⟨hRn, hdn, _⟩ := rn_spec hpos hE
  obtain ⟨hcnt, _⟩ := rn_cnt hpos hE
  have hK' : K = sumI (nmL l m) m := by rw [hK]; unfold ruK; rw [if_pos hE, hcnt]
  have hA' : A = (rn a m t l f m).a := hA
  have hk2' : k2 = m := by rw [hk2]; unfold ruN; rw [if_pos hE]
  have htz' : tz = (rn a m t l f m).t := by rw [htz]; unfold ruT; rw [if_pos hE]
  have hO' : ∀ i, O i 0 = (rn a m t l f m).ord i := fun i => by rw [hO]; rfl
  clear hO hK hA hk2 htz
  have hRI : ∀ s, Rch (rS m (nmL l m) (nmF f m)) (rD (sumI (nmL l m) m)) (rs0 a t) s → RI m (nmL l m) s := fun s h => h.keeps (P := RI m (nmL l m)) (fun s hs hd => (rs_step F s hs hd).1) I
  have hsum : sumI (nmL l m) m ≤ 300 := by
    have : sumI (nmL l m) m = sumI l m := sumI_congr fun i i0 i1 => nmL_at i0 i1
    omega
  refine ⟨by omega, fun _ => ?_⟩
  refine ⟨fun x k u c at' => ∃ s, Rch (rS m (nmL l m) (nmF f m)) (rD (sumI (nmL l m) m)) (rs0 a t) s ∧ x = s.a ∧ k = m ∧ u = s.t ∧ c = s.cnt ∧ 0 ≤ c ∧ ∀ i, at' i 0 = s.hd i, fun _ _ _ c _ => (K - c).toNat, ⟨rs0 a t, Rch.refl _, rfl, rfl, rfl, rfl, by omega, fun i => rfl⟩, ?_⟩
  rintro x k u c at' ⟨s, hR, rfl, rfl, rfl, rfl, hc0, hat⟩ _ _
  have hI := hRI s hR
  refine ⟨fun hlt => ?_, fun hlt => ?_⟩
  · have hd : rD (sumI (nmL l k) k) s = false := by unfold rD; simp; omega
    refine ⟨fun y k' j => 0 ≤ j ∧ j ≤ k ∧ k' = j ∧ ∀ i, 0 ≤ i → i < j → y i 0 = if decide (at' i 0 < l i) = true then 1 else 0, fun _ _ j => (k - j).toNat, ⟨by omega, by omega, rfl, fun i i0 i1 => by omega⟩, ?_⟩
    rintro y k' j ⟨j0, j1, rfl, hy⟩ _ _
    refine ⟨fun h3 => ?_, fun h3 => ?_⟩
    · refine ⟨j0, fun _ => ⟨by omega, fun _ => ⟨by omega, fun _ => fun _ _ _ => ⟨by omega, fun _ => ⟨⟨by omega, by omega, rfl, fun i i0 i1 => ?_⟩, by dsimp only; omega⟩⟩⟩⟩⟩
      unfold appA
      split
      · exact hy i i0 (by omega)
      · obtain rfl : i = k' := by omega
        rw [Int.sub_self, setA_eq]
    obtain rfl : k' = k := by omega
    have hq : ∀ i, 0 ≤ i → i < k' → bzP y i = rB (nmL l k') s i := fun i i0 i1 => by
      unfold bzP rB
      rw [hy i i0 i1, nmL_at i0 i1, hat]
      by_cases h : s.hd i < l i <;> simp [h]
    obtain ⟨s', r1, r2, r3, r4, r5, r6, r7, r8, r9⟩ := next_serve F hR hI hd hq
    obtain ⟨j1', j10, j11, hj1⟩ := rs_busy hI hd
    have hno : ¬ allI (noB y) k' = true := fun h => by
      have h5 := no_all.1 h j1' j10 j11
      have h6 := hq j1' j10 j11
      rw [hj1] at h6
      exact bz_iff.1 h6 h5
    have g1 : pcE s.a k' s.t y k' = 0 := by
      show (if _ then _ else _) = _
      rw [if_pos (ckA_of F.n0 F.n1 hI.t0 hI.t1 hI.ok), if_pos rfl]
    have hpa : (pk (bzP y) k' s.a s.t).1 = s'.a := by rw [← r4]
    have hpt : (pk (bzP y) k' s.a s.t).2 = s'.t := by rw [← r4]
    refine ⟨trivial, ?_⟩
    rintro v21 v22 v23 v24 v25 e1 e2 e3 e4 e5 _
    have e1' : v21 = s'.t := by rw [e1]; unfold pcW; rw [if_pos g1, if_neg hno, hpt]
    have e2' : v22 = s'.a := by rw [e2]; unfold pcA; rw [if_neg hno, hpa]
    have e3' : v23 = k' := by rw [e3]; unfold pcN; rw [if_pos g1]
    have e4' : v24 = s'.t := by rw [e4]; unfold pcT; rw [if_pos g1, if_neg hno, hpt]
    rw [g1] at e5
    clear e1 e2 e3 e4
    subst e1' e2' e3' e4' e5
    have t0 := r2.t0
    have t1 := r2.t1
    have hcc := cho_iff.1 r8
    have hb : s'.hd s'.t < l s'.t := by
      have := hcc.1
      unfold rB at this
      rw [nmL_at t0 t1] at this
      exact of_decide_eq_true this
    have hh := r2.h s'.t t0 t1
    rw [nmL_at t0 t1] at hh
    have hfr := F.fr s'.t (s'.hd s'.t) t0 t1 hh.1 (by rw [nmL_at t0 t1]; exact hb)
    have hatt : at' s'.t 0 = s'.hd s'.t := by rw [hat, r5]
    have hll := hp.h s'.t t0 t1
    have hord : O s.cnt 0 = s'.t := by
      rw [hO', (ord_kept (Rch.join r9 hRn hdn)).2 s.cnt (by show _ < s'.cnt + 1; omega)]
      show upI s'.ord s'.cnt s'.t s.cnt = _
      rw [r7, upI_eq]
    refine ⟨.inr hc0, fun _ => ⟨.inr hc0, fun _ => ⟨.inr t0, fun _ => ⟨.inr t1, fun _ => ⟨.inr t0, fun _ => ⟨.inr t1, fun _ => ⟨.inr t0, fun _ => ⟨.inr t1, fun _ => ⟨.inr t0, fun _ => ⟨.inr t1, fun _ => fun _ => ⟨fun h5 => ?_, fun _ => ?_⟩⟩⟩⟩⟩⟩⟩⟩⟩⟩⟩
    · exfalso
      rw [hord, hatt] at h5
      omega
    · have hair : rowA f s'.t (at' s'.t 0) 0 = nmF f v23 s'.t (s'.hd s'.t) := by
        show f s'.t (at' s'.t 0) 0 = _
        rw [nmF_at t0 t1, hatt]
      rw [hair, hatt]
      refine ⟨t0, fun _ => ⟨t1, fun _ => ⟨by omega, fun _ => ⟨hb, fun _ => ⟨trivial, ?_⟩⟩⟩⟩⟩
      have g2 : chE s'.a v23 s'.t s'.t (nmF f v23 s'.t (s'.hd s'.t)) = 0 := by
        unfold chE
        rw [if_pos (ckA_of F.n0 F.n1 t0 t1 r2.ok), if_pos ⟨t0, t1, hfr.1, hfr.2⟩, if_neg (by omega)]
      rintro v26 v27 v28 v29 f1 f2 f3 f4 _ _ _ _
      have f2' : v27 = v23 := by rw [f2]; unfold chN; rw [if_pos g2]
      have f3' : v28 = s'.t := by rw [f3]; unfold chN; rw [if_pos g2]
      rw [g2] at f4
      clear f2 f3
      subst f2' f3' f4
      refine ⟨fun h => absurd rfl h, fun _ => ⟨by omega, fun _ => ⟨by omega, fun _ => ⟨⟨rV (nmF f v27) s', r9, f1, rfl, rfl, ?_, by omega, fun i => ?_⟩, by dsimp only; omega⟩⟩⟩⟩
      · show _ = s'.cnt + 1; omega
      · show setA at' s'.t 0 _ i 0 = upI s'.hd s'.t _ i
        by_cases hi : i = s'.t
        · rw [hi, setA_eq, upI_eq]
        · rw [setA_ne (.inl hi), upI_ne hi, hat, r5]
  · have hd : rD (sumI (nmL l k) k) s = true := by unfold rD; simp; omega
    have hs : s = rn a k t l f k := hR.uniq hd hRn hdn
    refine ⟨fun _ => trivial, ?_⟩
    rintro v18 rfl
    rw [hs, hA', hk2', htz', smA_refl]; simp
end Go.Proofs.Ytccmgepknjkakaa
