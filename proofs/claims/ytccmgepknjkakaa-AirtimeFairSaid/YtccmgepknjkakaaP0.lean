/- Shares of airtime: what is left to show of AirtimeFair. -/
import Derived.Test.YtccmgepknjkakaaE
import Derived.Test.YtccmgepknjkakaaC0
namespace Go.Proofs.Ytccmgepknjkakaa
open Go Go.RowKit Go.Proofs.Ytccmgepknjkakaa.Vc
theorem vc17 : VC17 := by
  intro a n k hp hn
  refine ⟨fun s i => 0 ≤ i ∧ i ≤ n ∧ s = sumI (fun j => a j 0) i ∧ (i ≤ k ∨ i = 0), fun _ i => (n - i).toNat, ⟨by omega, by omega, rfl, .inr rfl⟩, ?_⟩
  rintro s i ⟨i0, i1, rfl, hk⟩ _
  have hb := sumI_bd (g := fun j => a j 0) (c := 32767) i0 (fun j j0 j1 => hp.h j j0 (by omega))
  have h0 := hp.n0
  refine ⟨fun h => ?_, fun h => ⟨?_, trivial⟩⟩
  · have h1 := hp.h i i0 h.2
    refine ⟨i0, fun _ => ⟨by omega, fun _ => ⟨by omega, fun _ => ⟨⟨by omega, by omega, (sumI_succ i0).symm, .inl (by omega)⟩, by dsimp only; omega⟩⟩⟩⟩
  · unfold ttA
    congr 1
    unfold clm
    (repeat' split) <;> omega
theorem prod_bd {u w : Int} (u0 : 0 ≤ u) (u1 : u ≤ 9830100) (w0 : 1 ≤ w) (w1 : w ≤ 16) : 0 ≤ u * w ∧ u * w ≤ 157281600 := by
  have h1 : 0 * w ≤ u * w := Int.mul_le_mul_of_nonneg_right u0 (by omega)
  have h2 : u * w ≤ u * 16 := Int.mul_le_mul_of_nonneg_left w1 u0
  omega
theorem prod_bd2 {v w : Int} (v0 : 1 ≤ v) (v1 : v ≤ 16) (w0 : 1 ≤ w) (w1 : w ≤ 16) : 0 ≤ 34767 * v * w ∧ 34767 * v * w ≤ 157281600 := prod_bd (by omega) (by omega) w0 w1
theorem vc4 : VC4 := by
  intro w n l f m hp hn hm
  refine ⟨trivial, ?_⟩
  rintro al rfl hN hM
  refine ⟨fun _ => hp, ?_⟩
  rintro g hg
  refine ⟨fun _ => ⟨by simp, trivial⟩, fun hs => ?_⟩
  have hgr : ¬ (40 < m ∨ 300 < sumI l m) := by
    intro hh
    apply hs; left; right
    rw [hg]; unfold grA
    exact decide_eq_true hh
  refine ⟨by omega, ?_⟩
  rintro x k u e1 rfl hk rfl he1 _
  refine ⟨⟨by omega, hp⟩, ?_⟩
  rintro O K A k2 tz e2 hO hK _ _ _ he2 _ _ _ _ _
  refine ⟨fun h => ⟨?_, trivial⟩, fun h => ?_⟩
  · have : K = 0 := by
      rw [hK]
      unfold ruK
      by_cases h2 : ruE (nwA w) k 0 l f m = 0
      · exfalso
        have h3 : ¬ e1 = 0 := by omega
        have h4 : k = 0 := by rw [hk]; unfold nwN; rw [if_neg (by rw [← he1]; exact h3)]
        obtain ⟨hc, _⟩ := ruE_ok (fun i i0 i1 => (hp.h i i0 i1).1) h2
        have := (ckA_ok hc).1
        omega
      · rw [if_neg h2]
    simp [this]
  have hE1 : nwE w n = 0 := by omega
  have hkn : k = n := by rw [hk]; unfold nwN; rw [if_pos hE1]
  have hE : ruE (nwA w) k 0 l f m = 0 := by omega
  clear he1 he2 hk
  subst hkn
  have hpos : ∀ i, 0 ≤ i → i < m → 0 ≤ l i := fun i i0 i1 => (hp.h i i0 i1).1
  obtain ⟨hc, hmn, _, F, I⟩ := ruE_ok hpos hE
  subst hmn
  obtain ⟨c1, c2, c3, c4, c5⟩ := ckA_ok hc
  refine ⟨fun h => absurd rfl h, fun _ => ?_⟩
  obtain ⟨hRn, hdn, _⟩ := rn_spec hpos hE
  obtain ⟨hcnt, hfull⟩ := rn_cnt hpos hE
  have hK' : K = sumI (nmL l m) m := by rw [hK]; unfold ruK; rw [if_pos hE, hcnt]
  have hO' : ∀ i, O i 0 = (rn (nwA w) m 0 l f m).ord i := fun i => by rw [hO]; rfl
  clear hO hK
  have hsl : sumI (nmL l m) m = sumI l m := sumI_congr fun i i0 i1 => nmL_at i0 i1
  have hl3 : ∀ i, 0 ≤ i → i < m → l i ≤ 300 := fun i i0 i1 => by
    have h1 := sumI_le (g := upI (fun _ => 0) i (l i)) (h := l) (n := m) fun j j0 j1 => by
      by_cases hj : j = i
      · subst hj; rw [upI_eq]; exact Int.le_refl _
      · rw [upI_ne hj]; exact hpos j j0 j1
    rw [sumI_up i0 i1] at h1
    have e : sumI (fun _ => (0:Int)) m = _ := sumN_const
    rw [e] at h1
    simp at h1
    omega
  have hFI : ∀ s, Rch (rS m (nmL l m) (nmF f m)) (rD (sumI (nmL l m) m)) (rs0 (nwA w) 0) s → FI m (nmL l m) (nmF f m) (fun i => w i 0) s := fun s h =>
    h.keeps (P := FI m (nmL l m) (nmF f m) (fun i => w i 0)) (fun s hs hd => FI.step F s hs hd) (fi_start I (fun i _ _ => by unfold nwA; rw [if_pos rfl]) (fun i _ _ => by unfold nwA; rw [if_neg (by omega)]))
  have hw : ∀ i, 0 ≤ i → i < m → 1 ≤ w i 0 ∧ w i 0 ≤ 16 := fun i i0 i1 => by
    have := c5.h i i0 i1
    unfold nwA at this
    rw [if_pos rfl] at this
    exact ⟨this.1, this.2.1⟩
  have htt : ∀ i h, 0 ≤ i → i < m → 0 ≤ h → h ≤ l i → ttA (rowA f i) (l i) h = usI (nmF f m) i h := fun i h i0 i1 h0 h1 => by
    unfold ttA usI
    have : clm h (l i) = h := by unfold clm; (repeat' split) <;> omega
    rw [this]
    exact sumI_congr fun j j0 j1 => by
      show f i j 0 = nmF f m i j
      rw [nmF_at i0 i1]
  have hpt : ∀ i, 0 ≤ i → i < m → ttP (rowA f i) (l i) := fun i i0 i1 => ⟨hl3 i i0 i1, fun j j0 j1 => by
    have := F.fr i j i0 i1 j0 (by rw [nmL_at i0 i1]; exact j1)
    rw [nmF_at i0 i1] at this
    show 0 ≤ f i j 0 ∧ f i j 0 ≤ 32767
    omega⟩
  refine ⟨by omega, fun _ => ?_⟩
  refine ⟨fun sv c => ∃ s, Rch (rS m (nmL l m) (nmF f m)) (rD (sumI (nmL l m) m)) (rs0 (nwA w) 0) s ∧ c = s.cnt ∧ 0 ≤ c ∧ ∀ i, sv i 0 = s.hd i, fun _ c => (K - c).toNat, ⟨rs0 (nwA w) 0, Rch.refl _, rfl, by omega, fun i => rfl⟩, ?_⟩
  rintro sv c ⟨s, hR, rfl, hc0, hsv⟩
  have hI := (hFI s hR).ri
  refine ⟨fun hlt => ⟨hc0, fun _ => ?_⟩, fun hlt => ?_⟩
  · have hd : rD (sumI (nmL l m) m) s = false := by unfold rD; simp; omega
    obtain ⟨s', r1, r2, r3, r4, r5, r6, r7, r8, r9⟩ := next_serve F hR hI hd (q := rB (nmL l m) s) (fun _ _ _ => rfl)
    have hord : O s.cnt 0 = s'.t := by
      rw [hO', (ord_kept (Rch.join r9 hRn hdn)).2 s.cnt (by show _ < s'.cnt + 1; omega)]
      show upI s'.ord s'.cnt s'.t s.cnt = _
      rw [r7, upI_eq]
    rw [hord]
    have t0 := r2.t0
    have t1 := r2.t1
    have hh := r2.h s'.t t0 t1
    rw [nmL_at t0 t1] at hh
    have h300 := hl3 s'.t t0 t1
    have hsvt : sv s'.t 0 = s'.hd s'.t := by rw [hsv, r5]
    have hsv2 : ∀ i, setA sv s'.t 0 (sv s'.t 0 + 1) i 0 = (rV (nmF f m) s').hd i := fun i => by
      show setA sv s'.t 0 _ i 0 = upI s'.hd s'.t _ i
      by_cases hi : i = s'.t
      · rw [hi, setA_eq, upI_eq, hsvt]
      · rw [setA_ne (.inl hi), upI_ne hi, hsv, r5]
    have hF2 := hFI _ r9
    have hcn : (rV (nmF f m) s').cnt = s.cnt + 1 := by show s'.cnt + 1 = _; omega
    refine ⟨fun h => by omega, fun _ => ⟨t0, fun _ => ⟨t1, fun _ => ⟨by omega, fun _ => ?_⟩⟩⟩⟩
    generalize setA sv s'.t 0 (sv s'.t 0 + 1) = sv2 at hsv2 ⊢
    generalize rV (nmF f m) s' = s2 at hF2 hsv2 r9 hcn
    refine ⟨fun i => 0 ≤ i ∧ i ≤ m, fun i => (m - i).toNat, ⟨by omega, by omega⟩, ?_⟩
    rintro i ⟨i0, i1⟩
    refine ⟨fun h3 => ?_, fun _ => ⟨by omega, fun _ => ⟨⟨s2, r9, by omega, by omega, hsv2⟩, by dsimp only; omega⟩⟩⟩
    refine ⟨fun j => 0 ≤ j ∧ j ≤ i, fun j => (i - j).toNat, ⟨by omega, by omega⟩, ?_⟩
    rintro j ⟨j0, j1⟩
    refine ⟨fun h4 => ?_, fun _ => ⟨by omega, fun _ => ⟨⟨by omega, by omega⟩, by dsimp only; omega⟩⟩⟩
    have j2 : j < m := by omega
    refine ⟨i0, fun _ => ⟨h3, fun _ => ⟨.inr j0, fun _ => ⟨.inr j2, fun _ => ⟨.inr j0, fun _ => ⟨.inr j2, fun _ => ⟨.inr j0, fun _ => ⟨.inr j2, fun _ => ⟨.inr j0, fun _ => ⟨.inr j2, fun _ => fun _ _ => ⟨fun _ => ⟨by omega, fun _ => ⟨⟨by omega, by omega⟩, by dsimp only; omega⟩⟩, fun h5 => ?_⟩⟩⟩⟩⟩⟩⟩⟩⟩⟩⟩
    have b1 : s2.hd i < l i := by rw [← hsv2]; omega
    have b2 : s2.hd j < l j := by rw [← hsv2]; omega
    have k1 := hF2.ri.h i i0 h3
    have k2 := hF2.ri.h j j0 j2
    rw [nmL_at i0 h3] at k1
    rw [nmL_at j0 j2] at k2
    have w1 := hw i i0 h3
    have w2 := hw j j0 j2
    refine ⟨hpt i i0 h3, ?_⟩
    rintro ui hui
    rw [hsv2, htt i _ i0 h3 k1.1 k1.2] at hui
    refine ⟨j0, fun _ => ⟨j2, fun _ => ?_⟩⟩
    have u1 := us_bd F i0 h3 k1.1 (by rw [nmL_at i0 h3]; exact k1.2)
    have u2 := us_bd F j0 j2 k2.1 (by rw [nmL_at j0 j2]; exact k2.2)
    have l1 := hl3 i i0 h3
    have l2 := hl3 j j0 j2
    rw [← hui] at u1
    have p1 := prod_bd (u := ui) (w := w j 0) (by omega) (by omega) w2.1 w2.2
    refine ⟨by omega, fun _ => ⟨j2, fun _ => ⟨hpt j j0 j2, ?_⟩⟩⟩
    rintro uj huj
    rw [hsv2, htt j _ j0 j2 k2.1 k2.2] at huj
    rw [← huj] at u2
    have p2 := prod_bd (u := uj) (w := w i 0) (by omega) (by omega) w1.1 w1.2
    have p3 := prod_bd2 w1.1 w1.2 w2.1 w2.2
    obtain ⟨N, hN⟩ := hF2.fi
    have f1 := hN i i0 h3 (by rw [nmL_at i0 h3]; exact b1)
    have f2 := hN j j0 j2 (by rw [nmL_at j0 j2]; exact b2)
    rw [← hui] at f1
    rw [← huj] at f2
    have o1 := hF2.ri.ok.h i i0 h3
    have o2 := hF2.ri.ok.h j j0 j2
    rw [hF2.hw i i0 h3] at o1
    rw [hF2.hw j j0 j2] at o2
    have hfin := fair_ineq f1 f2 (by split <;> omega) (by split <;> omega) (by split <;> omega) (by split <;> omega) w1.1 w2.1 (hF2.lo i i0 h3) o1.2.2.2 (hF2.lo j j0 j2) o2.2.2.2
    refine ⟨by omega, fun _ _ _ => ⟨by omega, fun _ => ⟨by omega, fun _ => ⟨by omega, fun _ => ⟨by omega, fun _ => ⟨fun h => ?_, fun _ => ⟨by omega, fun _ => ⟨⟨by omega, by omega⟩, by dsimp only; omega⟩⟩⟩⟩⟩⟩⟩⟩
    exfalso
    omega
  · have hd : rD (sumI (nmL l m) m) s = true := by unfold rD; simp; omega
    have hs2 : s = rn (nwA w) m 0 l f m := hR.uniq hd hRn hdn
    refine ⟨fun i => 0 ≤ i ∧ i ≤ m, fun i => (m - i).toNat, ⟨by omega, by omega⟩, ?_⟩
    rintro i ⟨i0, i1⟩
    refine ⟨fun h3 => ⟨i0, fun _ => ⟨h3, fun _ _ _ => ⟨fun h4 => ?_, fun _ => ⟨by omega, fun _ => ⟨⟨by omega, by omega⟩, by dsimp only; omega⟩⟩⟩⟩⟩, fun _ => ⟨by simp, trivial⟩⟩
    exfalso
    apply h4
    rw [hsv, hs2]
    exact hfull i i0 h3
end Go.Proofs.Ytccmgepknjkakaa
