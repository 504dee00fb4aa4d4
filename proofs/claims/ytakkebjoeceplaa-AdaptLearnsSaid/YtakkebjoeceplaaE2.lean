/- Rate control in plain words: what the chain's rates are; what a round keeps. -/
import Derived.Test.YtakkebjoeceplaaE
namespace Go.Proofs.Ytakkebjoeceplaa
open Go Go.RowKit Go.Proofs.Ytakkebjoeceplaa.Vc
theorem gt_false {p : Prop} [Decidable p] (h : decide p = false) : ¬ p := of_decide_eq_false h
theorem ch0_spec {a : Int → Nat → Int} {n r : Int} (h : ckA a n r = 0) : 0 ≤ ch0 a n r ∧ ch0 a n r < n ∧ ∀ i : Int, 0 ≤ i → i < n → vlR a i ≤ vlR a (ch0 a n r) ∧ (vlR a i = vlR a (ch0 a n r) → a (ch0 a n r) 0 ≤ a i 0) := by
  have hn := ck_n h
  unfold ch0
  rw [if_pos h]
  have h1 := @fsI_lt (gtV a) (-1) n (by omega)
  have h2 := @fsI_nn (gtV a) n (by omega)
  refine ⟨h2, h1.1, fun i i0 i1 => ?_⟩
  rcases @fsI_spec (gtV a) (-1) n (gtV_irr a) (gtV_tr a) (by omega) with h3 | h3
  · omega
  · have h4 := gt_false (h3.2.2 i i0 i1 (by omega))
    omega
theorem ch1_spec {a : Int → Nat → Int} {n r : Int} (h : ckA a n r = 0) : 0 ≤ ch1 a n r ∧ ch1 a n r < n ∧ (1 < n → ch0 a n r ≠ ch1 a n r) ∧ ∀ i : Int, 0 ≤ i → i < n → i ≠ ch0 a n r → vlR a i ≤ vlR a (ch1 a n r) := by
  have hn := ck_n h
  obtain ⟨g1, g2, _⟩ := ch0_spec h
  unfold ch1
  rw [if_pos h]
  generalize ch0 a n r = c at *
  have h1 := @fsI_lt (gtV a) c n (by omega)
  rcases @fsI_spec (gtV a) c n (gtV_irr a) (gtV_tr a) (by omega) with h3 | h3
  · rw [if_pos (by omega)]
    refine ⟨g1, g2, fun h4 => ?_, fun i i0 i1 i2 => absurd (h3.2 i i0 i1) i2⟩
    have h5 := h3.2 0 (by omega) (by omega)
    have h6 := h3.2 1 (by omega) (by omega)
    omega
  · rw [if_neg (by omega)]
    refine ⟨h3.1, h1.1, fun _ => fun hc => h3.2.1 hc.symm, fun i i0 i1 i2 => ?_⟩
    have h4 := gt_false (h3.2.2 i i0 i1 i2)
    omega
theorem ch2_spec {a : Int → Nat → Int} {n r : Int} (h : ckA a n r = 0) : 0 ≤ ch2 a n r ∧ ch2 a n r < n ∧ ∀ i : Int, 0 ≤ i → i < n → a i 3 ≤ a (ch2 a n r) 3 := by
  have hn := ck_n h
  unfold ch2
  rw [if_pos h]
  have h1 := @fsI_lt (gtC a) (-1) n (by omega)
  have h2 := @fsI_nn (gtC a) n (by omega)
  refine ⟨h2, h1.1, fun i i0 i1 => ?_⟩
  rcases @fsI_spec (gtC a) (-1) n (gtC_irr a) (gtC_tr a) (by omega) with h3 | h3
  · omega
  · have h4 := gt_false (h3.2.2 i i0 i1 (by omega))
    omega
theorem ch3_spec {a : Int → Nat → Int} {n r : Int} (h : ckA a n r = 0) : 0 ≤ ch3 a n r ∧ ch3 a n r < n ∧ ∀ i : Int, 0 ≤ i → i < n → a i 0 ≤ a (ch3 a n r) 0 := by
  have hn := ck_n h
  unfold ch3
  rw [if_pos h]
  have h1 := @fsI_lt (gtL a) (-1) n (by omega)
  have h2 := @fsI_nn (gtL a) n (by omega)
  refine ⟨h2, h1.1, fun i i0 i1 => ?_⟩
  rcases @fsI_spec (gtL a) (-1) n (gtL_irr a) (gtL_tr a) (by omega) with h3 | h3
  · omega
  · have h4 := gt_false (h3.2.2 i i0 i1 (by omega))
    omega
theorem pr_bd {tr go : Int} (h0 : 0 < tr) (h1 : 0 ≤ go) (h2 : go ≤ tr) : 0 ≤ Int.tdiv (1000 * go) tr ∧ Int.tdiv (1000 * go) tr ≤ 1000 := by
  obtain ⟨a1, a2, a3, a4⟩ := tdiv_bd (a := 1000 * go) (b := tr) h0 (by omega)
  refine ⟨a1, ?_⟩
  apply Classical.byContradiction
  intro h
  have : 1001 * tr ≤ Int.tdiv (1000 * go) tr * tr := Int.mul_le_mul_of_nonneg_right (by omega) (by omega)
  omega
theorem rd_mid {tr go ch : Int} {kn : Bool} (h0 : 0 < tr) (h1 : 0 ≤ go) (h2 : go ≤ tr) (h3 : 0 ≤ ch) :
    (kn = false → rdC tr go ch kn = Int.tdiv (1000 * go) tr) ∧ (kn = true → min ch (Int.tdiv (1000 * go) tr) ≤ rdC tr go ch kn ∧ rdC tr go ch kn ≤ max ch (Int.tdiv (1000 * go) tr)) ∧ 0 ≤ Int.tdiv (1000 * go) tr ∧ Int.tdiv (1000 * go) tr ≤ 1000 := by
  have hb := pr_bd h0 h1 h2
  unfold rdC
  rw [if_neg (by omega)]
  refine ⟨fun hk => by rw [hk]; rfl, fun hk => ?_, hb⟩
  rw [if_pos hk]
  have hd := tdiv_bd (a := 3 * ch + Int.tdiv (1000 * go) tr) (b := 4) (by omega) (by omega)
  omega
theorem ck_round {a : Int → Nat → Int} {n r : Int} (h : ckA a n r = 0) (hr : r < 1099511627776) : ckA (rdP a) n (r + 1) = 0 := by
  obtain ⟨p1, p2, p3, p4, p5⟩ := ck_ok.1 h
  refine ck_ok.2 ⟨p1, p2, by omega, by omega, fun i i0 i1 => ?_⟩
  have h1 := okZ_iff.1 (p5 i i0 i1)
  have h2 := ck_row h i i0 i1
  unfold okR
  rw [okZ_iff]
  have e0 : rdP a i 0 = a i 0 := rfl
  have e1 : rdP a i 1 = 0 := rfl
  have e2 : rdP a i 2 = 0 := rfl
  have e3 : rdP a i 3 = rdC (a i 1) (a i 2) (a i 3) (knB a i) := rfl
  have e4 : knB (rdP a) i = rdK (a i 1) (knB a i) := by
    unfold knB; simp [rdP]; cases hk : rdK (a i 1) (!decide (a i 4 = 0)) <;> simp [hk, knB]
  rw [e0, e1, e2, e3, e4]
  refine ⟨by omega, by omega, by omega, by omega, by omega, by omega, ?_⟩
  by_cases ht : a i 1 = 0
  · have : rdC (a i 1) (a i 2) (a i 3) (knB a i) = a i 3 := by unfold rdC; rw [if_pos ht]
    rw [this]
    refine ⟨by omega, by omega, ?_⟩
    unfold rdK
    rcases h1.2.2.2.2.2.2.2.2 with h3 | h3
    · left; simp [ht, h3]
    · right; exact h3
  · have h3 := @rd_mid (a i 1) (a i 2) (a i 3) (knB a i) (by omega) (by omega) (by omega) (by omega)
    refine ⟨?_, ?_, .inl (by unfold rdK; simp [ht])⟩
    · cases hk : knB a i
      · rw [hk] at h3; rw [h3.1 rfl]; omega
      · rw [hk] at h3; have := h3.2.1 rfl; omega
    · cases hk : knB a i
      · rw [hk] at h3; rw [h3.1 rfl]; omega
      · rw [hk] at h3; have := h3.2.1 rfl; omega
end Go.Proofs.Ytakkebjoeceplaa
