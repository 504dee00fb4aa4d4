/- What is left to show of the law of limits. -/
import Derived.Test.YtiiabaklipmbbaaC8
import Derived.Test.YtiiabaklipmbbaaP7
import Derived.Test.YtiiabaklipmbbaaP9
namespace Go.Proofs.Ytiiabaklipmbbaa
open Go Go.RowKit Go.Proofs.Ytiiabaklipmbbaa.Vc
theorem exE_next (x : Xc) (hx : exOk x) (n : Int) (h1 : 1 ≤ n) (hn : n + 1 ≤ x.m) : exE x (n + 1) = exE x n + 16 + x.d n 0 + (if x.q = 0 then 16 + x.ack else 0) := by
  have hB := exB_bd x
  have hQ : exQ x = 1 ∨ exQ x = 2 := by unfold exQ; split <;> simp
  have Q2 : exQ x = 2 → x.q = 0 := fun h => by unfold exQ at h; split at h <;> omega
  have hk0 : 0 ≤ exB x + n * exQ x := by rcases hQ with h | h <;> rw [h] <;> omega
  have hS := exS_pre x n (n + 1) (by omega) (by omega) (exB x + n * exQ x).toNat (by omega)
  rw [Int.toNat_of_nonneg hk0] at hS
  obtain ⟨d1, d2, d3, d4⟩ := ex_data x (n + 1) n (by omega) (by omega)
  have hd := hx.2.2.2.2.2.2.2.2.2 n (by omega) (by omega)
  have s1 := exS_succ x (n + 1) (exB x + n * exQ x) hk0
  rw [← d4, hS] at s1
  have hmul : (n + 1) * exQ x = n * exQ x + exQ x := by rw [Int.add_mul, Int.one_mul]
  rcases hQ with h | h
  · by_cases hq : x.q = 2
    · obtain ⟨⟨_, _, _, t4⟩, _, _, _, t8⟩ := ex_tail x n hq h1
      obtain ⟨⟨_, _, _, u4⟩, _, _, _, u8⟩ := ex_tail x (n + 1) hq (by omega)
      have L1 : exL x n = exB x + n * exQ x + 1 + 1 := by unfold exL exT; rw [if_pos hq]; omega
      have L2 : exL x (n + 1) = exB x + (n + 1) * exQ x + 1 + 1 := by unfold exL exT; rw [if_pos hq]; omega
      have a1 := exS_succ x n (exB x + n * exQ x) hk0
      have a2 := exS_succ x n (exB x + n * exQ x + 1) (by omega)
      have a3 := exS_succ x (n + 1) (exB x + (n + 1) * exQ x) (by omega)
      have a4 := exS_succ x (n + 1) (exB x + (n + 1) * exQ x + 1) (by omega)
      rw [← t4] at a1
      rw [← t8] at a2
      rw [← u4] at a3
      rw [← u8] at a4
      unfold exE
      rw [L1, L2, a2, a1, a4, a3, if_neg (show ¬ x.q = 0 by omega)]
      rw [show exB x + (n + 1) * exQ x = exB x + n * exQ x + 1 by omega, s1]
      omega
    · have L1 : exL x n = exB x + n * exQ x := by unfold exL exT; rw [if_neg hq]; omega
      have L2 : exL x (n + 1) = exB x + n * exQ x + 1 := by unfold exL exT; rw [if_neg hq]; omega
      unfold exE
      have hq0 : ¬ x.q = 0 := fun h0 => by unfold exQ at h; rw [if_pos h0] at h; omega
      rw [L1, L2, s1, if_neg hq0]
      omega
  · have hq := Q2 h
    have L1 : exL x n = exB x + n * exQ x := by unfold exL exT; rw [if_neg (by omega)]; omega
    have L2 : exL x (n + 1) = exB x + n * exQ x + 1 + 1 := by unfold exL exT; rw [if_neg (by omega)]; omega
    obtain ⟨_, _, _, c4⟩ := ex_ack x (n + 1) n hq (by omega) (by omega)
    have s2 := exS_succ x (n + 1) (exB x + n * exQ x + 1) (by omega)
    rw [← c4, s1] at s2
    have hack := hx.2.2.2.2.2.2.1
    unfold exE
    rw [L1, L2, s2, if_pos hq]
    omega
/-- what a plan's row is -/
theorem row_is (x : Xc) (hx : exOk x) (n : Int) (h1 : 1 ≤ n) (hn : n ≤ x.m) (i : Int) (i0 : 0 ≤ i) (i1 : i < exL x n) : 0 ≤ exRow x n i 2 ∧ exRow x n i 2 < x.m ∧ (exRow x n i 1 = 0 ↔ ¬ (exRow x n i 0 = 2 ∨ exRow x n i 0 = 5 ∨ exRow x n i 0 = 7)) ∧ (exRow x n i 0 = 4 → exRow x n i 4 = x.d (exRow x n i 2) 0) := by
  have r0 : exRow x n i 0 = exK x n i := rfl
  have r1 : exRow x n i 1 = exP x n i := rfl
  have r2 : exRow x n i 2 = exX x n i := rfl
  have r4 : exRow x n i 4 = exA x n i := rfl
  have hI : exK x n i = 4 ∨ exK x n i = 5 → 0 ≤ exI x i ∧ exI x i < n := by
    have hB := exB_bd x
    unfold exK exI exQ
    unfold exL exQ at i1
    generalize exB x = b at *
    intro hh
    by_cases hq : x.q = 0
    · simp only [hq, if_true, true_and] at hh ⊢
      grind
    · simp only [hq, if_false, false_and] at hh ⊢
      grind
  rw [r0, r1, r2, r4]
  refine ⟨?_, ?_, ?_, fun h4 => ?_⟩
  · unfold exX; split
    · rename_i h; exact (hI h).1
    · omega
  · unfold exX; split
    · rename_i h; have := (hI h).2; omega
    · omega
  · unfold exP; split <;> simp_all
  · unfold exA exX; rw [h4]; simp
set_option maxHeartbeats 40000000 in
theorem vc5 : VC5 := by
  unfold VC5
  intro p q lim d m rts cts ack bar back _ _
  refine ⟨trivial, ?_⟩
  rintro _ rfl _
  refine ⟨fun _ => ⟨by simp, trivial⟩, fun _ => ⟨trivial, ?_⟩⟩
  generalize hxx : Xc.mk p q lim d m rts cts ack bar back = x
  have xp : x.p = p := by rw [← hxx]
  have xq : x.q = q := by rw [← hxx]
  have xl : x.lim = lim := by rw [← hxx]
  have xd : x.d = d := by rw [← hxx]
  have xm : x.m = m := by rw [← hxx]
  have xa : x.ack = ack := by rw [← hxx]
  clear hxx
  rintro _ _ _ rfl rfl rfl _ _
  refine ⟨fun he => ?_, fun he => ?_⟩
  · have : plE x = 2 ∨ plE x = 4 := by
      unfold plE at he ⊢
      split
      · rename_i hv
        rw [if_pos hv] at he
        split
        · exact .inr rfl
        · rename_i hd; rw [if_neg hd] at he; omega
      · exact .inl rfl
    exact ⟨by simp [this], trivial⟩
  · have he0 : plE x = 0 := by omega
    obtain ⟨hx, n1, n2, g⟩ := pg_of (x := x) he0
    have hL : plL x = exL x (plN x) := by unfold plL; rw [if_pos he0]
    have hm16 := hx.1.2
    obtain ⟨s1, s2, s3, s4⟩ := plF_spec x 16 1 (by omega) (by omega)
    have hP : plF x 1 16 = plN x := rfl
    rw [hP] at s3 s4
    clear hP s1 s2
    rw [hL]
    clear hL g he he0
    generalize plN x = n at *
    have hl := exL_bd x hx n n1 n2
    obtain ⟨k1, k2, k3, k4, k5, k6, k7, k8⟩ := ct_all x n n1 (by omega)
    have hrow := row_is x hx n n1 n2
    have hln := ln_len x hx n n1 n2
    have hpre := ln_pre x hx n n1 n2
    have hE0 := exE_pos x hx n n1 n2
    have hE1 := exS_bd x hx n n2 (exL x n).toNat (by omega)
    rw [Int.toNat_of_nonneg (by omega)] at hE1
    have hE2 : exE x n = exS x n (exL x n) - 16 := rfl
    have hnext : n < m → exE x (n + 1) = exE x n + 16 + d n 0 + (if x.q = 0 then 16 + ack else 0) := fun h => by
      rw [← xd, ← xa]; exact exE_next x hx n n1 (by omega)
    have hd : n < m → 1 ≤ d n 0 ∧ d n 0 ≤ 32767 := fun h => by
      rw [← xd]; exact hx.2.2.2.2.2.2.2.2.2 n (by omega) (by omega)
    have hack : 1 ≤ ack ∧ ack ≤ 32767 := by rw [← xa]; exact hx.2.2.2.2.2.2.1
    have hlim : 1 < n → exE x n ≤ lim := fun h => by rw [← xl]; exact s4 n h (by omega)
    have hmore : n < m → lim < exE x (n + 1) := fun h => by rw [← xl]; exact s3 (by omega)
    rw [xp, xq] at *
    rw [xm] at *
    rw [xd] at hrow
    have hE3 : exE x n ≤ 2000000 := by omega
    clear hE1 hE2 s3 s4 hx xp xq xl xd xm xa
    rw [k4] at *
    generalize exE x (n + 1) = E' at *
    generalize hEE : exE x n = E at *
    clear hEE
    generalize exL x n = L at *
    generalize exRow x n = a at *
    generalize ctA a L 1 = c1 at *
    generalize ctA a L 2 = c2 at *
    generalize ctA a L 3 = c3 at *
    generalize ctA a L 5 = c5 at *
    generalize ctA a L 6 = c6 at *
    generalize ctA a L 7 = c7 at *
    clear k4
    refine ⟨trivial, ?_⟩
    intro n9 h9
    subst h9
    refine ⟨fun _ => hpre, ?_⟩
    rw [hln]
    intro E9 h9
    subst h9
    clear hln
    refine ⟨fun hh => by omega, fun _ => ?_⟩
    have k9 : L - (n9 + 2 * (if p = 2 then 1 else 0) + (if p = 1 then 1 else 0) + (if q = 0 then n9 else 0) + 2 * (if q = 2 then 1 else 0)) = 0 := by omega
    clear k8
    repeat' (first | exact True.intro | exact hpre | apply And.intro | intro _)
    all_goals first
      | omega
      | (refine ⟨fun i => 0 ≤ i ∧ i ≤ L, fun i => (L - i).toNat, ⟨by omega, by omega⟩, fun i hi => ?_⟩
         have hr := hrow i
         clear hrow hpre
         generalize a i 0 = b0 at *
         generalize a i 1 = b1 at *
         generalize a i 2 = b2 at *
         generalize a i 4 = b4 at *
         simp only at hi
         (repeat' (first | exact True.intro | apply And.intro | intro _)) <;> (try (subst_vars; grind [])))
      | (subst_vars; grind)
end Go.Proofs.Ytiiabaklipmbbaa
