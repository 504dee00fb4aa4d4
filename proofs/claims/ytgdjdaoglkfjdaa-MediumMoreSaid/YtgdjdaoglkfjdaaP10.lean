/- Receiving: what is left to show of MediumOnce. -/
import Derived.Test.YtgdjdaoglkfjdaaE5
import Derived.Test.YtgdjdaoglkfjdaaC7
namespace Go.Proofs.Ytgdjdaoglkfjdaa
open Go Go.RowKit Go.Proofs.Ytgdjdaoglkfjdaa.Vc
theorem lvE_all {a : Int → Nat → Int} {n : Int} {l : Int → Int} {f : Int → Int → Nat → Int} {m i j : Int} (hw : ckW a n l f m = 0) (i0 : 0 ≤ i) (i1 : i < n) (j0 : 0 ≤ j) (j1 : j < n) : lvE a n l f m i j = 0 := by
  unfold lvE
  rw [if_pos hw, if_pos ⟨i0, i1, j0, j1⟩]
theorem lvV_all {a : Int → Nat → Int} {n : Int} {l : Int → Int} {f : Int → Int → Nat → Int} {m i j : Int} (hw : ckW a n l f m = 0) (i0 : 0 ≤ i) (i1 : i < n) (j0 : 0 ≤ j) (j1 : j < n) : lvV a n l f m i j = lvA a f m i j := by
  unfold lvV
  rw [if_pos (lvE_all hw i0 i1 j0 j1)]
theorem hrV_all {a : Int → Nat → Int} {n : Int} {l : Int → Int} {f : Int → Int → Nat → Int} {m i j : Int} (hw : ckW a n l f m = 0) (i0 : 0 ≤ i) (i1 : i < n) (j0 : 0 ≤ j) (j1 : j < n) : hrV a n l f m i j = hrA a f m i j := by
  unfold hrV
  rw [lvE_all hw i0 i1 j0 j1]; simp
set_option maxHeartbeats 1000000 in
theorem vc5 : VC5 := by
  intro a n l f m b k d h _ hn hm hk hh
  refine ⟨trivial, ?_⟩
  rintro al hal _ _ _ _
  refine ⟨trivial, ?_⟩
  rintro g hg
  refine ⟨fun _ => ⟨by rw [hal], trivial⟩, fun h1 => ?_⟩
  have hk80 := gr1_80 hg fun h2 => h1 (.inl (.inl h2))
  refine ⟨trivial, ?_⟩
  rintro L F N e hL hF hN he _ _
  refine ⟨fun h2 => ⟨?_, trivial⟩, fun h2 => ?_⟩
  · have : N = 0 := by rw [hN]; unfold reN; rw [if_neg (by rw [← he]; exact h2)]
    simp [hal, this]
  have hc : mcE a n l f m b k = 0 := by omega
  obtain ⟨hw, h64, hrow⟩ := mc_ok hc
  have hNk : N = k := by rw [hN]; unfold reN; rw [if_pos hc]
  subst hNk
  have hL0 := fun i => @rl_nn a n f m b N d h i hn
  refine ⟨fun h3 => absurd rfl h3, fun _ => ?_⟩
  refine ⟨fun i => 0 ≤ i ∧ i ≤ N, fun i => (N - i).toNat, ⟨by omega, by omega⟩, ?_⟩
  rintro i ⟨i0, i1⟩
  refine ⟨fun hlt => ?_, fun _ => ⟨by rw [hal], trivial⟩⟩
  refine ⟨fun q => 0 ≤ q ∧ q ≤ L i, fun q => (L i - q).toNat, ⟨by omega, by rw [hL]; exact (hL0 i).1⟩, ?_⟩
  rintro q ⟨q0, q1⟩
  refine ⟨i0, fun _ => ⟨hlt, fun _ => fun _ _ => ⟨fun h4 => ⟨q0, fun _ => ⟨trivial, ?_⟩⟩, fun h4 => ⟨by omega, fun _ => ⟨⟨by omega, by omega⟩, by dsimp only; omega⟩⟩⟩⟩⟩
  have hr := hrow i i0 hlt
  rw [hL] at h4
  obtain ⟨j0, j1, hca, hup⟩ := re_row hn q0 h4
  have ej : rowA F i q 0 = reF a n f m b N d h i q 0 := by rw [hF]; rfl
  have ej2 : rowA F i (q - 1) 0 = reF a n f m b N d h i (q - 1) 0 := by rw [hF]; rfl
  rw [ej2]
  rw [ej]
  generalize reF a n f m b N d h i q 0 = j at *
  obtain ⟨c1, c2, c3⟩ := ca_iff.1 hca
  rintro v e1 hv he1
  rw [hrV_all hw j0 j1 hr.1 hr.2.1, c1] at hv
  rw [lvE_all hw j0 j1 hr.1 hr.2.1] at he1
  refine ⟨trivial, ?_⟩
  rintro u e2 hu he2
  rw [lvV_all hw hr.1 hr.2.1 j0 j1] at hu
  rw [lvE_all hw hr.1 hr.2.1 j0 j1] at he2
  subst v e1 e2
  have hnn : L i = reL a n f m b N d h i := by rw [hL]
  have hg1 : ∀ {p : Prop}, (0 < q → p) → ¬ (¬ (((¬ ((0 : Int) = 0) ∨ ¬ ((0 : Int) = 0)) ∨ ¬ (true = true)) ∨ u < b i 3) ∧ 0 < q) ∨ p := fun {p} hp => by
    by_cases h5 : 0 < q
    · exact .inr (hp h5)
    · exact .inl fun h6 => h5 h6.2
  refine ⟨hg1 fun _ => by omega, fun _ => ⟨hg1 fun _ => by omega, fun _ => ⟨hg1 fun _ => by omega, fun _ => ⟨hg1 fun _ => by omega, fun _ => ⟨hg1 fun _ => by omega, fun _ => ⟨fun h5 => ?_, fun _ => ?_⟩⟩⟩⟩⟩⟩
  · exfalso
    rcases h5 with (((h5 | h5) | h5) | h5) | h5
    · exact h5 rfl
    · exact h5 rfl
    · exact h5 rfl
    · omega
    · have := hup h5.1
      omega
  · refine ⟨fun r => 0 ≤ r ∧ r ≤ N, fun r => (N - r).toNat, ⟨by omega, by omega⟩, ?_⟩
    rintro r ⟨r0, r1⟩
    refine ⟨fun h6 => ⟨.inr r0, fun _ => ⟨.inr r0, fun _ => ⟨fun _ => trivial, ?_⟩⟩⟩, fun h6 => ⟨by omega, fun _ => ⟨⟨by omega, by omega⟩, by dsimp only; omega⟩⟩⟩
    rintro o ho
    refine ⟨.inr r0, fun _ => ⟨.inr r0, fun _ => ⟨.inr r0, fun _ => ⟨.inr h6, fun _ => ⟨.inr r0, fun _ => ⟨.inr h6, fun _ => ⟨.inr r0, fun _ => ⟨.inr h6, fun _ => ⟨fun _ => trivial, ?_⟩⟩⟩⟩⟩⟩⟩⟩⟩
    rintro z hz
    have hha : z = true → caB a f m b N r j = true := fun hzt => by
      rw [hz, hL, hF] at hzt
      have := ((re_ha hn).1 hzt).2.2
      unfold rvQ at this
      rw [Bool.and_eq_true] at this
      exact this.1
    refine ⟨fun h7 => ?_, fun _ => ⟨by omega, fun _ => ⟨⟨by omega, by omega⟩, by dsimp only; omega⟩⟩⟩
    exfalso
    obtain ⟨⟨h8, h9⟩, h10⟩ := h7
    have := ca_once hca i0 hlt r0 h6 h8 (by rw [← ho]; exact h9)
    rcases h10 with h10 | h10
    · exact this.1 h10
    · exact this.2 (hha h10)
end Go.Proofs.Ytgdjdaoglkfjdaa
