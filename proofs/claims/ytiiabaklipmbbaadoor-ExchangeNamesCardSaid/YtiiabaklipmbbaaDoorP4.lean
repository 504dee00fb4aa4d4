/- What is left to show of Plan. -/
import Derived.Test.YtiiabaklipmbbaaDoorC4
namespace Go.Proofs.YtiiabaklipmbbaaDoor
open Go Go.RowKit Go.Proofs.YtiiabaklipmbbaaDoor.Vc
theorem pl_bad {x : Xc} (h : exV x = false) : plE x = 2 ∧ plL x = 0 := by
  have : plE x = 2 := by unfold plE; rw [h]; simp
  exact ⟨this, by unfold plL; rw [if_neg (by omega)]⟩
theorem pl_bad_out {x : Xc} (h : exV x = false) : (0 : Int) = plL x ∧ (∀ (i : Int) (f : Nat), 0 ≤ i → i < plL x → f < 6 → zA i f = exRow x (plN x) i f) ∧ (2 : Int) = plE x ∧ True := by
  obtain ⟨h1, h2⟩ := pl_bad h
  exact ⟨h2.symm, fun i f i0 i1 => by omega, h1.symm, trivial⟩
theorem pl_many {x : Xc} (h : exV x = true) {n : Int} (hn : n = plN x) (hd : 32767 < exRow x n 0 5) : (0 : Int) = plL x ∧ (∀ (i : Int) (f : Nat), 0 ≤ i → i < plL x → f < 6 → zA i f = exRow x (plN x) i f) ∧ (4 : Int) = plE x ∧ True := by
  subst hn
  have h1 : plE x = 4 := by unfold plE; rw [if_pos h, if_pos hd]
  have h2 : plL x = 0 := by unfold plL; rw [if_neg (by omega)]
  exact ⟨h2.symm, fun i f i0 i1 => by omega, h1.symm, trivial⟩
theorem pl_good {x : Xc} (h : exV x = true) {n : Int} (hn : n = plN x) (hd : ¬ 32767 < exRow x n 0 5) : exL x n = plL x ∧ (∀ (i : Int) (f : Nat), 0 ≤ i → i < plL x → f < 6 → exRow x n i f = exRow x (plN x) i f) ∧ (0 : Int) = plE x ∧ True := by
  subst hn
  have h1 : plE x = 0 := by unfold plE; rw [if_pos h, if_neg hd]
  have h2 : plL x = exL x (plN x) := by unfold plL; rw [if_pos h1]
  exact ⟨h2.symm, fun i f _ _ _ => rfl, h1.symm, trivial⟩
theorem exV_ok {x : Xc} (h : exV x = true) : exOk x ∧ 1 ≤ x.m := by
  simp only [exV, decide_eq_true_eq] at h
  obtain ⟨⟨a1, a2⟩, a3, a4, a5, a6, a7, a8, a9, a10⟩ := h
  exact ⟨⟨a4, a1, a2, a3, a5, a6, a7, a8, a9, a10⟩, a4.1⟩
set_option maxHeartbeats 4000000 in
theorem vc6 : VC6 := by
  unfold VC6
  intro p q lim d m rts cts ack bar back _ hm _
  generalize hxx : Xc.mk p q lim d m rts cts ack bar back = x
  have xp : x.p = p := by rw [← hxx]
  have xq : x.q = q := by rw [← hxx]
  have xl : x.lim = lim := by rw [← hxx]
  have xd : x.d = d := by rw [← hxx]
  have xm : x.m = m := by rw [← hxx]
  have xrts : x.rts = rts := by rw [← hxx]
  have xcts : x.cts = cts := by rw [← hxx]
  have xack : x.ack = ack := by rw [← hxx]
  have xbar : x.bar = bar := by rw [← hxx]
  have xback : x.back = back := by rw [← hxx]
  clear hxx
  subst xp xq xl xd xm xrts xcts xack xbar xback
  refine ⟨fun hb => pl_bad_out ?_, fun hg => ?_⟩
  · unfold exV
    rw [decide_eq_false_iff_not]
    rintro ⟨⟨a1, a2⟩, a3, a4, _⟩
    omega
  · refine ⟨fun k => 0 ≤ k ∧ k ≤ x.m ∧ ∀ i, 0 ≤ i → i < k → 1 ≤ x.d i 0 ∧ x.d i 0 ≤ 32767, fun k => (x.m - k).toNat, ⟨by omega, by omega, fun i i0 i1 => by omega⟩, fun k hI => ?_⟩
    obtain ⟨k0, k1, hk⟩ := hI
    refine ⟨fun hlt => ⟨k0, fun _ => ⟨trivial, fun b hb => ⟨fun ht => pl_bad_out ?_, fun hf => ?_⟩⟩⟩, fun hge => ?_⟩
    · unfold exV
      rw [decide_eq_false_iff_not]
      rintro ⟨_, _, _, _, _, _, _, _, a10⟩
      have := a10 k k0 hlt
      subst hb
      simp only [decide_eq_true_eq] at ht
      omega
    · subst hb
      simp only [decide_eq_true_eq] at hf
      refine ⟨by omega, fun _ => ⟨⟨by omega, by omega, fun i i0 i1 => ?_⟩, by dsimp only; omega⟩⟩
      by_cases h : i < k
      · exact hk i i0 h
      · rw [show i = k by omega]; omega
    · have hkm : k = x.m := by omega
      subst hkm
      refine ⟨fun j => 0 ≤ j ∧ j ≤ 5 ∧ (0 < j → 1 ≤ x.rts ∧ x.rts ≤ 32767) ∧ (1 < j → 1 ≤ x.cts ∧ x.cts ≤ 32767) ∧ (2 < j → 1 ≤ x.ack ∧ x.ack ≤ 32767) ∧ (3 < j → 1 ≤ x.bar ∧ x.bar ≤ 32767) ∧ (4 < j → 1 ≤ x.back ∧ x.back ≤ 32767), fun j => (5 - j).toNat, by dsimp only; omega, fun j hJ => ?_⟩
      obtain ⟨j0, j1, c0, c1, c2, c3, c4⟩ := hJ
      refine ⟨fun hlt => ⟨j0, fun _ => ⟨trivial, fun b hb => ⟨fun ht => pl_bad_out ?_, fun hf => ?_⟩⟩⟩, fun hge => ?_⟩
      · unfold exV
        rw [decide_eq_false_iff_not]
        rintro ⟨_, _, _, a5, a6, a7, a8, a9, _⟩
        subst hb
        have : j = 0 ∨ j = 1 ∨ j = 2 ∨ j = 3 ∨ j = 4 := by omega
        rcases this with rfl | rfl | rfl | rfl | rfl <;> simp at ht <;> omega
      · subst hb
        have : j = 0 ∨ j = 1 ∨ j = 2 ∨ j = 3 ∨ j = 4 := by omega
        rcases this with rfl | rfl | rfl | rfl | rfl <;> simp at hf <;> (dsimp only; omega)
      · have hV : exV x = true := by
          simp only [exV, decide_eq_true_eq]
          exact ⟨by omega, by omega, by omega, by omega, by omega, by omega, by omega, by omega, hk⟩
        obtain ⟨hx, hm1⟩ := exV_ok hV
        have hm16 := hx.1.2
        clear hk c0 c1 c2 c3 c4
        refine ⟨fun n => 1 ≤ n ∧ n ≤ x.m ∧ plN x = plF x n (17 - n).toNat, fun n => (x.m - n).toNat, ⟨by omega, by omega, rfl⟩, fun n hN => ?_⟩
        obtain ⟨n1, nm, hN⟩ := hN
        refine ⟨by omega, fun _ => ⟨fun _ => ⟨hx, by omega, by omega⟩, ?_⟩⟩
        rintro _ _ rfl rfl
        refine ⟨fun hlt => ln_pre x hx (n + 1) (by omega) (by omega), ?_⟩
        rintro _ rfl
        have hfu : (17 - n).toNat = (17 - (n + 1)).toNat + 1 := by omega
        rw [hfu] at hN
        simp only [plF] at hN
        refine ⟨fun hc => ?_, fun hc => ?_⟩
        · rw [ln_len x hx (n + 1) (by omega) (by omega)] at hc
          rw [if_pos hc] at hN
          exact ⟨by omega, fun _ => ⟨⟨by omega, by omega, hN⟩, by dsimp only; omega⟩⟩
        · have hc2 : ¬ (n < x.m ∧ exE x (n + 1) ≤ x.lim) := fun h => hc ⟨h.1, by rw [ln_len x hx (n + 1) (by omega) (by omega)]; exact h.2⟩
          rw [if_neg hc2] at hN
          refine ⟨⟨hx, n1, nm⟩, ?_⟩
          rintro _ _ rfl rfl
          have hl := exL_bd x hx n n1 nm
          exact fun _ _ => ⟨by omega, fun _ => ⟨fun hd => pl_many hV hN.symm hd, fun hd => pl_good hV hN.symm hd⟩⟩
end Go.Proofs.YtiiabaklipmbbaaDoor
