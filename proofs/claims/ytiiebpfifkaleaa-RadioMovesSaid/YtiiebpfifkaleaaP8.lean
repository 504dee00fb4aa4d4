/- The law of moving and tuning: what is left to show. -/
import Derived.Test.YtiiebpfifkaleaaP7
import Derived.Test.YtiiebpfifkaleaaC8
namespace Go.Proofs.Ytiiebpfifkaleaa
open Go Go.RowKit Go.Proofs.Ytiiebpfifkaleaa.Vc
theorem sr_self {l : Int → Int} {k : Int} : srL l k (l k) = l := by
  funext j
  unfold srL
  by_cases h : j = k
  · rw [if_pos h, h]
  · rw [if_neg h]
theorem wipe {N M : Int} {b : Int → Nat → Int} {l : Int → Int} {f : Int → Int → Nat → Int} {R : Prop} (hN : N ≤ 9223372036854775807) (hM : M ≤ 9223372036854775807) (hR : R) :
    ∃ (I0 : (Int → Nat → Int) → (Int) → Prop) (μ0 : (Int → Nat → Int) → (Int) → Nat), I0 b (0 : Int) ∧ (∀ (v35 : Int → Nat → Int) (v36 : Int), I0 v35 v36 →
      (v36 < N →
        0 ≤ v36 ∧ (0 ≤ v36 →
        (-9223372036854775808 ≤ (v36 + 1) ∧ (v36 + 1) ≤ 9223372036854775807) ∧ ((-9223372036854775808 ≤ (v36 + 1) ∧ (v36 + 1) ≤ 9223372036854775807) →
        I0 (setA v35 v36 0 (-77777)) (v36 + 1) ∧ μ0 (setA v35 v36 0 (-77777)) (v36 + 1) < μ0 v35 v36))) ∧
      (¬ (v36 < N) →
        ∃ (I1 : (Int → Int) → (Int → Int → Nat → Int) → (Int) → Prop) (μ1 : (Int → Int) → (Int → Int → Nat → Int) → (Int) → Nat), I1 l f (0 : Int) ∧ (∀ (v37l : Int → Int) (v37f : Int → Int → Nat → Int) (v38 : Int), I1 v37l v37f v38 →
          (v38 < M →
            ∃ (I2 : (Int → Int) → (Int → Int → Nat → Int) → (Int) → Prop) (μ2 : (Int → Int) → (Int → Int → Nat → Int) → (Int) → Nat), I2 v37l v37f (0 : Int) ∧ (∀ (v39l : Int → Int) (v39f : Int → Int → Nat → Int) (v40 : Int), I2 v39l v39f v40 →
              0 ≤ v38 ∧ (0 ≤ v38 →
              (0 ≤ (v39l v38) →
              ((v39l v38) ≤ 9223372036854775807 →
              (v40 < (v39l v38) →
                0 ≤ v40 ∧ (0 ≤ v40 →
                (-9223372036854775808 ≤ (v40 + 1) ∧ (v40 + 1) ≤ 9223372036854775807) ∧ ((-9223372036854775808 ≤ (v40 + 1) ∧ (v40 + 1) ≤ 9223372036854775807) →
                I2 (srL v39l v38 (v39l v38)) (srF v39f v38 (setA (rowA v39f v38) v40 0 (-77777))) (v40 + 1) ∧ μ2 (srL v39l v38 (v39l v38)) (srF v39f v38 (setA (rowA v39f v38) v40 0 (-77777))) (v40 + 1) < μ2 v39l v39f v40))) ∧
              (¬ (v40 < (v39l v38)) →
                (-9223372036854775808 ≤ (v38 + 1) ∧ (v38 + 1) ≤ 9223372036854775807) ∧ ((-9223372036854775808 ≤ (v38 + 1) ∧ (v38 + 1) ≤ 9223372036854775807) →
                I1 v39l v39f (v38 + 1) ∧ μ1 v39l v39f (v38 + 1) < μ1 v37l v37f v38))))))) ∧
          (¬ (v38 < M) → R)))) := by
  refine ⟨fun _ k => 0 ≤ k, fun _ k => (N - k).toNat, by omega, fun b k hk => ⟨fun h => ⟨hk, fun _ => ⟨by omega, fun _ => ⟨by omega, by dsimp only; omega⟩⟩⟩, fun h => ?_⟩⟩
  refine ⟨fun l' _ k => 0 ≤ k ∧ l' = l, fun _ _ k => (M - k).toNat, ⟨by omega, rfl⟩, fun l' f' k hl => ⟨fun h => ?_, fun _ => hR⟩⟩
  obtain ⟨hk2, hl⟩ := hl
  refine ⟨fun l2 _ q => 0 ≤ q ∧ l2 = l', fun l2 _ q => (l' k - q).toNat, ⟨by omega, rfl⟩, fun l2 f2 q hq => ⟨hk2, fun _ h1 h2 => ⟨fun h3 => ?_, fun h3 => ⟨by omega, fun _ => ⟨⟨by omega, hq.2.trans hl⟩, by dsimp only; omega⟩⟩⟩⟩⟩
  obtain ⟨hq, e⟩ := hq
  subst e
  exact ⟨hq, fun _ => ⟨by omega, fun _ => ⟨⟨by omega, sr_self⟩, by dsimp only; omega⟩⟩⟩
theorem vc4 : VC4 := by
  intro a n l f m i x y c hp
  have hs := fun h => @gr_small n l m h hp
  have r1 := @smW_refl a n l f m
  have r2 := fun b n' m' => @smW_refl b n' l f m'
  clear hp
  repeat' (first | exact True.intro | apply And.intro | (intro h; (try (have h' := h.symm; subst h'))))
  all_goals (try exact hs (by assumption))
  all_goals (try (clear hs; grind))
  refine wipe (by assumption) (by assumption) (wipe (by assumption) (by assumption) ?_)
  clear hs
  repeat' (first | exact True.intro | apply And.intro | (intro h; (try (have h' := h.symm; subst h'))))
  all_goals grind
end Go.Proofs.Ytiiebpfifkaleaa
