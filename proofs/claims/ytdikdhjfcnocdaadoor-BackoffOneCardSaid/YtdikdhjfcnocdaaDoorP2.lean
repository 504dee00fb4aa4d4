/- What is left to show of many events. -/
import Derived.Test.YtdikdhjfcnocdaaDoorC
namespace Go.Proofs.YtdikdhjfcnocdaaDoor
open Go Go.RowKit Go.Proofs.YtdikdhjfcnocdaaDoor.Vc
theorem vc22 : VC22 := by
  unfold VC22
  intro c w n t ev ne dr nd h hne hnd
  refine ⟨h, fun e he _ _ => ⟨fun hb => by grind [rnC, rnW, rnN, rnT, rnM, rnE, chkE], fun hok => ?_⟩⟩
  refine ⟨fun off len c1 w1 n1 t1 i m e => 0 ≤ i ∧ i ≤ ne ∧ 0 ≤ c1 ∧ c1 ≤ 255 ∧ 0 ≤ m ∧ m ≤ i ∧ 0 ≤ (rsI c w n t ev dr nd i).k ∧ off = min (rsI c w n t ev dr nd i).k nd ∧ len = nd - off ∧ (rsI c w n t ev dr nd i).c = c1 ∧ (rsI c w n t ev dr nd i).w = w1 ∧ (rsI c w n t ev dr nd i).n = n1 ∧ (rsI c w n t ev dr nd i).t = t1 ∧ (rsI c w n t ev dr nd i).m = m ∧ (rsI c w n t ev dr nd i).e = 0,
    fun _ _ _ _ _ _ i _ _ => (ne - i).toNat, ?_, fun off len c1 w1 n1 t1 i m e0 hI => ?_⟩
  · simp only [rsI_zero]
    grind
  · obtain ⟨i0, i1, c0, c255, m0, mi, k0, ho, hl, r1, r2, r3, r4, r5, r6⟩ := hI
    have hg := rsI_good c w n t ev dr nd i i0 r6
    have hb := rsI_fail c w n t ev dr nd i ne i0 r6
    rw [r1, r2, r3, r4, r5] at hg
    rw [r1, r2, r3, r4] at hb
    generalize (rsI c w n t ev dr nd i).k = k at *
    have hd : dw dr nd k (ev i 0) = if ev i 0 = 2 ∨ ev i 0 = 3 then (if k < nd then dr k 0 else 0) else 0 := rfl
    have g0 := hg 0
    have b0 := hb 0
    have g1 := hg (dr off 0)
    have b1 := hb (dr off 0)
    clear hg hb
    have hce : chkE c w n t = 0 := by omega
    simp only [rnC, rnW, rnN, rnT, rnM, rnE, hce, if_true]
    generalize rsI c w n t ev dr nd (i + 1) = R at *
    generalize hR : rsI c w n t ev dr nd ne = RN at *
    have hend : i = ne → (rsI c w n t ev dr nd i) = RN := fun h => by rw [h, hR]
    refine fun _ _ _ => ⟨fun hlt => ⟨i0, fun _ => ⟨fun hx => ⟨fun hz => ?_, fun hz => ?_⟩, fun hx => ?_⟩⟩, fun hge => ?_⟩
    · have hdd : (0 : Int) = dw dr nd k (ev i 0) := by grind
      have g := g0 hdd
      have b := b0 hdd hlt
      clear g0 b0 g1 b1 hd hdd
      (repeat' (first | exact True.intro | apply And.intro | intro _)) <;> (try (subst_vars; grind [SC]))
    · have hdd : dr off 0 = dw dr nd k (ev i 0) := by grind
      have g := g1 hdd
      have b := b1 hdd hlt
      clear g0 b0 g1 b1 hd hdd
      (repeat' (first | exact True.intro | apply And.intro | intro _)) <;> (try (subst_vars; grind [SC]))
    · have hdd : (0 : Int) = dw dr nd k (ev i 0) := by grind
      have g := g0 hdd
      have b := b0 hdd hlt
      clear g0 b0 g1 b1 hd hdd
      (repeat' (first | exact True.intro | apply And.intro | intro _)) <;> (try (subst_vars; grind [SC]))
    · have := hend (by omega)
      clear g0 b0 g1 b1
      grind
theorem vc23 : VC23 := by
  unfold VC23
  intro c w n t ev ne dr nd h hne hnd
  refine ⟨⟨h.1, h.2.1⟩, fun e he _ _ => ⟨fun hb => by grind [rnC, rnW, rnN, rnT, rnM, rnE, chkE], fun hok => ?_⟩⟩
  refine ⟨fun c1 w1 n1 t1 m i k => 0 ≤ i ∧ i ≤ ne ∧ 0 ≤ c1 ∧ c1 ≤ 255 ∧ 0 ≤ m ∧ m ≤ i ∧ 0 ≤ k ∧ k ≤ i ∧ (rsI c w n t ev dr nd i).k = k ∧ (rsI c w n t ev dr nd i).c = c1 ∧ (rsI c w n t ev dr nd i).w = w1 ∧ (rsI c w n t ev dr nd i).n = n1 ∧ (rsI c w n t ev dr nd i).t = t1 ∧ (rsI c w n t ev dr nd i).m = m ∧ (rsI c w n t ev dr nd i).e = 0,
    fun _ _ _ _ _ i _ => (ne - i).toNat, ?_, fun c1 w1 n1 t1 m i k hI => ?_⟩
  · simp only [rsI_zero]
    grind
  · obtain ⟨i0, i1, c0, c255, m0, mi, k0, ki, r0, r1, r2, r3, r4, r5, r6⟩ := hI
    have hg := rsI_good c w n t ev dr nd i i0 r6
    have hb := rsI_fail c w n t ev dr nd i ne i0 r6
    rw [r0, r1, r2, r3, r4, r5] at hg
    rw [r0, r1, r2, r3, r4] at hb
    have hd : dw dr nd k (ev i 0) = if ev i 0 = 2 ∨ ev i 0 = 3 then drA dr nd k else 0 := rfl
    have he := h.2.2 i i0
    have g0 := hg 0
    have b0 := hb 0
    have g1 := hg (drA dr nd k)
    have b1 := hb (drA dr nd k)
    clear hg hb
    have hce : chkE c w n t = 0 := by omega
    simp only [rnC, rnW, rnN, rnT, rnM, rnE, hce, if_true]
    generalize rsI c w n t ev dr nd (i + 1) = R at *
    generalize hR : rsI c w n t ev dr nd ne = RN at *
    have hend : i = ne → (rsI c w n t ev dr nd i) = RN := fun h => by rw [h, hR]
    refine ⟨fun hlt => ⟨i0, fun _ => ⟨fun hx => ?_, fun hx => ?_⟩⟩, fun hge => ?_⟩
    · have hdd : drA dr nd k = dw dr nd k (ev i 0) := by grind
      have g := g1 hdd
      have b := b1 hdd hlt
      clear g0 b0 g1 b1 hd hdd
      (repeat' (first | exact True.intro | apply And.intro | intro _)) <;> (try (subst_vars; grind [SC]))
    · have hdd : (0 : Int) = dw dr nd k (ev i 0) := by grind
      have g := g0 hdd
      have b := b0 hdd hlt
      clear g0 b0 g1 b1 hd hdd
      (repeat' (first | exact True.intro | apply And.intro | intro _)) <;> (try (subst_vars; grind [SC]))
    · have := hend (by omega)
      clear g0 b0 g1 b1
      grind
theorem vc8 : VC8 := by
  unfold VC8
  intro c w n t ev ne dr nd h hne hnd _ _
  refine ⟨by simp, fun hs => ⟨by omega, fun _ => ⟨by omega, fun _ => ⟨⟨h.1, h.2.1⟩, ?_⟩⟩⟩⟩
  intro v8 v9 v10 v11 v12 v13 h8 h9 h10 h11 h12 h13
  refine ⟨h, ?_⟩
  intro v14 v15 v16 v17 v18 v19 h14 h15 h16 h17 h18 h19
  refine ⟨fun hf => by exfalso; clear h; grind, fun _ => ⟨fun i => 0 ≤ i ∧ i ≤ nd, fun i => (nd - i).toNat, by omega, fun i hi => ?_⟩⟩
  clear h h8 h9 h10 h11 h12 h13 h14 h15 h16 h17 h18 h19
  (repeat' (first | exact True.intro | apply And.intro | intro _)) <;> (try (subst_vars; grind []))
theorem vc9 : VC9 := by
  unfold VC9
  intro c w n t bz nb h hnb
  refine ⟨trivial, fun v6 h6 _ => ⟨fun _ => h, fun e he => ⟨fun hx => by simp [h6], fun hx => ?_⟩⟩⟩
  have hce : chkE c w n t = 0 := by grind
  have hn : 0 ≤ n ∧ n ≤ 1023 := by
    have := aft_bd c t
    unfold chkE at hce
    grind
  refine ⟨fun a m id i => 0 ≤ i ∧ i ≤ nb ∧ m = i ∧ 0 ≤ id ∧ id ≤ i ∧ id = idA bz i ∧ ∀ j, 0 ≤ j → j < i → a j 0 = (if bz j 0 = 0 then 0 else 1), fun _ _ _ i => (nb - i).toNat, ?_, fun a m id i hI => ?_⟩
  · refine ⟨by omega, by omega, rfl, by omega, by omega, rfl, fun j h0 h1 => by omega⟩
  · obtain ⟨i0, i1, rfl, d0, d1, hid, ha⟩ := hI
    have hs := idA_succ bz m i0
    refine fun _ _ => ⟨fun hlt => ⟨i0, fun _ => ⟨fun hb => ?_, fun hb => ?_⟩⟩, fun hge => ?_⟩
    · have hA : ∀ j, 0 ≤ j → j < m + 1 → appA a m (setA zA 0 0 1) j 0 = (if bz j 0 = 0 then 0 else 1) := fun j j0 j1 => by
        have := ha j j0
        unfold appA setA
        grind
      clear ha
      (repeat' (first | exact True.intro | apply And.intro | intro _)) <;> (try (subst_vars; grind []))
    · have hA : ∀ j, 0 ≤ j → j < m + 1 → appA a m (setA zA 0 0 0) j 0 = (if bz j 0 = 0 then 0 else 1) := fun j j0 j1 => by
        have := ha j j0
        unfold appA setA
        grind
      clear ha
      (repeat' (first | exact True.intro | apply And.intro | intro _)) <;> (try (subst_vars; grind []))
    · have hm : m = nb := by omega
      subst hm
      have hw := rsI_wait c w n t a zA 0 hce m (fun j j0 j1 => by have := ha j j0 j1; grind) (idA bz) rfl (fun j j0 j1 => by
        have := ha j j0 j1
        rw [idA_succ bz j j0, this]
        grind) m.toNat (by omega)
      rw [Int.toNat_of_nonneg i0] at hw
      obtain ⟨_, w1, w2, w3, w4, w5, w6⟩ := hw
      simp only [rnC, rnW, rnN, rnT, rnM, rnE, hce, if_true, w1, w2, w3, w4, w5, w6]
      clear ha hs
      (repeat' (first | exact True.intro | apply And.intro | intro _)) <;> (try (subst_vars; grind []))
end Go.Proofs.YtdikdhjfcnocdaaDoor
