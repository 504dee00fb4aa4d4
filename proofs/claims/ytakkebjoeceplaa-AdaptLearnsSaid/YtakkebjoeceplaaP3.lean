/- Rate control: what is left to show of the laws of the chain and of rounds. -/
import Derived.Test.YtakkebjoeceplaaP2
import Derived.Test.YtakkebjoeceplaaE2
namespace Go.Proofs.Ytakkebjoeceplaa
open Go Go.RowKit Go.Proofs.Ytakkebjoeceplaa.Vc
theorem vc26 : VC26 := by
  intro _
  repeat' (first | exact True.intro | apply And.intro | (intro h; subst h) | intro _)
  all_goals first | omega | decide +kernel
set_option maxHeartbeats 1000000 in
theorem vc5 : VC5 := by
  intro a n r
  have s0 := @ch0_spec a n r
  have s1 := @ch1_spec a n r
  have s2 := @ch2_spec a n r
  have s3 := @ch3_spec a n r
  have hk := @ck_n a n r
  have hz : ckA a n r ≠ 0 → ch0 a n r = 0 ∧ ch1 a n r = 0 ∧ ch2 a n r = 0 ∧ ch3 a n r = 0 := fun h => by simp [ch0, ch1, ch2, ch3, h]
  have hv : ∀ i, ckA a n r = 0 → 0 ≤ i → i < n → vuE a n r i = 0 ∧ vuV a n r i = vlR a i := fun i h h0 h1 => by
    have : vuE a n r i = 0 := by simp [vuE, h, h0, h1]
    exact ⟨this, by simp [vuV, this]⟩
  have hv0 := hv (ch0 a n r)
  have hv1 := hv (ch1 a n r)
  repeat' (first | exact True.intro | apply And.intro | intro _)
  all_goals (try (clear hv; subst_vars; grind))
  refine ⟨fun i => 0 ≤ i ∧ i ≤ 4, fun i => (4 - i).toNat, by omega, ?_⟩
  intro i hi
  have e : i = 0 ∨ i = 1 ∨ i = 2 ∨ i = 3 ∨ 4 ≤ i := by omega
  have s0' := fun h => (s0 h).1
  have s0'' := fun h => (s0 h).2.1
  have s1' := fun h => (s1 h).1
  have s1'' := fun h => (s1 h).2.1
  have s1n := fun h => (s1 h).2.2.1
  have s2' := fun h => (s2 h).1
  have s2'' := fun h => (s2 h).2.1
  have s3' := fun h => (s3 h).1
  have s3'' := fun h => (s3 h).2.1
  repeat' (first | exact True.intro | apply And.intro | intro _)
  all_goals (try (clear hv s0 s1 s2 s3; subst_vars; grind))
  refine ⟨fun j => 0 ≤ j ∧ j ≤ n, fun j => (n - j).toNat, by omega, ?_⟩
  intro j hj
  have t0 := fun h => (s0 h).2.2 j
  have t1 := fun h => (s1 h).2.2.2 j
  have t2 := fun h => (s2 h).2.2 j
  have t3 := fun h => (s3 h).2.2 j
  have tv := hv j
  clear hv s0 s1 s2 s3
  (repeat' (first | exact True.intro | apply And.intro | intro _)) <;> (try (subst_vars; grind []))
set_option maxHeartbeats 1000000 in
theorem vc7 : VC7 := by
  intro a n r
  have hk := @ck_n a n r
  have h8 := ck_01 a n r
  have h1 := @rd_e8 a n r
  have h2 := @rd_e22 a n r
  have h3 := @rd_e0 a n r
  have h4 := @ck_round a n r
  have h5 : ∀ b, smA b 0 0 zA 0 0 = true := fun b => rfl
  have h5 := h5 (rdP a)
  (repeat' (first | exact True.intro | apply And.intro | intro _)) <;> (try (subst_vars; grind []))
  refine ⟨fun i => 0 ≤ i ∧ i ≤ n, fun i => (n - i).toNat, by grind, ?_⟩
  intro i hi
  have g1 := fun h => @ck_row a n r h i
  have g2 := @rd_mid (a i 1) (a i 2) (a i 3) (knB a i)
  have e0 : rdP a i 0 = a i 0 := rfl
  have e1 : rdP a i 1 = 0 := rfl
  have e2 : rdP a i 2 = 0 := rfl
  have e3 : rdP a i 3 = rdC (a i 1) (a i 2) (a i 3) (knB a i) := rfl
  have e4 : rdP a i 4 = if rdK (a i 1) (knB a i) = true then 1 else 0 := rfl
  have e5 : knB a i = !(decide (a i 4 = 0)) := rfl
  have e6 : a i 1 = 0 → rdC (a i 1) (a i 2) (a i 3) (knB a i) = a i 3 := fun h => by unfold rdC; rw [if_pos h]
  have e7 : rdK (a i 1) (knB a i) = (!(decide (a i 1 = 0)) || knB a i) := rfl
  (repeat' (first | exact True.intro | apply And.intro | intro _)) <;> (try (subst_vars; grind []))
end Go.Proofs.Ytakkebjoeceplaa
