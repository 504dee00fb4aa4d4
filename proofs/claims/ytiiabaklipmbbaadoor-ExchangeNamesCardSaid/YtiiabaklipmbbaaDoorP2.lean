/- What is left to show of sequence. -/
import Derived.Test.YtiiabaklipmbbaaDoorC2
namespace Go.Proofs.YtiiabaklipmbbaaDoor
open Go Go.RowKit Go.Proofs.YtiiabaklipmbbaaDoor.Vc
/-- the durations' loop keeps in range, and ends well -/
theorem dur_loop {x : Xc} {n L e : Int} {a0 : Int → Nat → Int} (hx : exOk x) (h1 : 1 ≤ n) (hn : n ≤ x.m) (h : PR x n L a0 e) (hL : L = exL x n) :
    ∃ (I : (Int → Nat → Int) → Int → Prop) (μ : (Int → Nat → Int) → Int → Nat), I a0 0 ∧ ∀ (a : Int → Nat → Int) (j : Int), I a j → (L ≤ 9223372036854775807 →
      (j < L → 0 ≤ j ∧ (0 ≤ j → (-9223372036854775808 ≤ (e - (a j 3)) ∧ (e - (a j 3)) ≤ 9223372036854775807) ∧ ((-9223372036854775808 ≤ (e - (a j 3)) ∧ (e - (a j 3)) ≤ 9223372036854775807) →
        (-9223372036854775808 ≤ ((e - (a j 3)) - (a j 4)) ∧ ((e - (a j 3)) - (a j 4)) ≤ 9223372036854775807) ∧ ((-9223372036854775808 ≤ ((e - (a j 3)) - (a j 4)) ∧ ((e - (a j 3)) - (a j 4)) ≤ 9223372036854775807) →
        (-9223372036854775808 ≤ (j + 1) ∧ (j + 1) ≤ 9223372036854775807) ∧ ((-9223372036854775808 ≤ (j + 1) ∧ (j + 1) ≤ 9223372036854775807) →
        I (setA a j 5 ((e - (a j 3)) - (a j 4))) (j + 1) ∧ μ (setA a j 5 ((e - (a j 3)) - (a j 4))) (j + 1) < μ a j))))) ∧
      (¬ (j < L) → L = exL x n ∧ (∀ (i : Int) (f : Nat), 0 ≤ i → i < exL x n → f < 6 → a i f = exRow x n i f) ∧ True)) := by
  have hl := exL_bd x hx n h1 hn
  obtain ⟨hs, he⟩ := DR_start h hL hl.1
  subst he
  have hE : 0 ≤ exE x n ∧ exE x n ≤ 2000000 := by
    have := exS_bd x hx n hn (exL x n).toNat (by omega)
    rw [Int.toNat_of_nonneg (by omega)] at this
    unfold exE
    omega
  refine ⟨fun a j => DR x n a j, fun _ j => (L - j).toNat, hs, fun a j hI _ => ⟨fun hlt => ⟨hI.j0, fun _ => ?_⟩, fun hge => ⟨hL, fun i f i0 i1 hf => hI.done i f i0 (by omega) hf, trivial⟩⟩⟩
  have j0 := hI.j0
  obtain ⟨_, _, _, r3, r4, _⟩ := hI.rest j (Int.le_refl _) (by omega)
  have hb := exS_bd x hx n hn j.toNat (by omega)
  rw [Int.toNat_of_nonneg j0] at hb
  have hA := exA_bd x hx n j hn j0 (by omega)
  rw [r3, r4]
  refine ⟨by omega, fun _ => ⟨by omega, fun _ => ⟨by omega, fun _ => ⟨DR_step hI (by omega) rfl, by dsimp only; omega⟩⟩⟩⟩
/-- the loop over the data, and what follows, of its start -/
def LP18 (v0 : Int) (v1 : Int) (v2 : Int) (v3 : Int → Nat → Int) (v4 : Int) (v5 : Int) (v6 : Int) (v7 : Int) (v8 : Int) (v9 : Int) (v10 : Int) (z0 : Int → Nat → Int) (z1 : Int) (z2 : Int) (z3 : Int) : Prop :=
  ∃ (I0 : (Int → Nat → Int) → (Int) → (Int) → (Int) → Prop) (μ0 : (Int → Nat → Int) → (Int) → (Int) → (Int) → Nat), I0 z0 z1 z2 z3 ∧ (∀ (v11 : Int → Nat → Int) (v12 : Int) (v13 : Int) (v14 : Int), I0 v11 v12 v13 v14 →
      (0 ≤ v12 →
      (v12 ≤ 9223372036854775807 →
      (v10 ≤ 9223372036854775807 →
      (v14 < v10 →
        0 ≤ v14 ∧ (0 ≤ v14 →
        v14 < v4 ∧ (v14 < v4 →
        (-9223372036854775808 ≤ (v13 + 16) ∧ (v13 + 16) ≤ 9223372036854775807) ∧ ((-9223372036854775808 ≤ (v13 + 16) ∧ (v13 + 16) ≤ 9223372036854775807) →
        (v12 = 0 →
          ((v12 + 1) * 40) ≤ 140737488355328 ∧ (((v12 + 1) * 40) ≤ 140737488355328 →
          (v12 + 1) ≤ 140737488355328 ∧ ((v12 + 1) ≤ 140737488355328 →
          (-9223372036854775808 ≤ (v3 v14 0) ∧ (v3 v14 0) ≤ 9223372036854775807) ∧ ((-9223372036854775808 ≤ (v3 v14 0) ∧ (v3 v14 0) ≤ 9223372036854775807) →
          ((v12 + 1) ≤ 9223372036854775807 →
          (v1 = 0 →
            (-9223372036854775808 ≤ ((v3 v14 0) + 16) ∧ ((v3 v14 0) + 16) ≤ 9223372036854775807) ∧ ((-9223372036854775808 ≤ ((v3 v14 0) + 16) ∧ ((v3 v14 0) + 16) ≤ 9223372036854775807) →
            (((v12 + 1) + 1) * 40) ≤ 140737488355328 ∧ ((((v12 + 1) + 1) * 40) ≤ 140737488355328 →
            ((v12 + 1) + 1) ≤ 140737488355328 ∧ (((v12 + 1) + 1) ≤ 140737488355328 →
            (-9223372036854775808 ≤ (((v3 v14 0) + 16) + v7) ∧ (((v3 v14 0) + 16) + v7) ≤ 9223372036854775807) ∧ ((-9223372036854775808 ≤ (((v3 v14 0) + 16) + v7) ∧ (((v3 v14 0) + 16) + v7) ≤ 9223372036854775807) →
            (-9223372036854775808 ≤ (v14 + 1) ∧ (v14 + 1) ≤ 9223372036854775807) ∧ ((-9223372036854775808 ≤ (v14 + 1) ∧ (v14 + 1) ≤ 9223372036854775807) →
            I0 (appA (appA v11 v12 (setA (setA (setA (setA (setA (setA zA 0 0 4) 0 1 0) 0 2 v14) 0 3 0) 0 4 (v3 v14 0)) 0 5 0)) (v12 + 1) (setA (setA (setA (setA (setA (setA zA 0 0 5) 0 1 1) 0 2 v14) 0 3 ((v3 v14 0) + 16)) 0 4 v7) 0 5 0)) ((v12 + 1) + 1) (((v3 v14 0) + 16) + v7) (v14 + 1) ∧ μ0 (appA (appA v11 v12 (setA (setA (setA (setA (setA (setA zA 0 0 4) 0 1 0) 0 2 v14) 0 3 0) 0 4 (v3 v14 0)) 0 5 0)) (v12 + 1) (setA (setA (setA (setA (setA (setA zA 0 0 5) 0 1 1) 0 2 v14) 0 3 ((v3 v14 0) + 16)) 0 4 v7) 0 5 0)) ((v12 + 1) + 1) (((v3 v14 0) + 16) + v7) (v14 + 1) < μ0 v11 v12 v13 v14)))))) ∧
          (¬ (v1 = 0) →
            (-9223372036854775808 ≤ (v14 + 1) ∧ (v14 + 1) ≤ 9223372036854775807) ∧ ((-9223372036854775808 ≤ (v14 + 1) ∧ (v14 + 1) ≤ 9223372036854775807) →
            I0 (appA v11 v12 (setA (setA (setA (setA (setA (setA zA 0 0 4) 0 1 0) 0 2 v14) 0 3 0) 0 4 (v3 v14 0)) 0 5 0)) (v12 + 1) (v3 v14 0) (v14 + 1) ∧ μ0 (appA v11 v12 (setA (setA (setA (setA (setA (setA zA 0 0 4) 0 1 0) 0 2 v14) 0 3 0) 0 4 (v3 v14 0)) 0 5 0)) (v12 + 1) (v3 v14 0) (v14 + 1) < μ0 v11 v12 v13 v14))))))) ∧
        (¬ (v12 = 0) →
          ((v12 + 1) * 40) ≤ 140737488355328 ∧ (((v12 + 1) * 40) ≤ 140737488355328 →
          (v12 + 1) ≤ 140737488355328 ∧ ((v12 + 1) ≤ 140737488355328 →
          (-9223372036854775808 ≤ ((v13 + 16) + (v3 v14 0)) ∧ ((v13 + 16) + (v3 v14 0)) ≤ 9223372036854775807) ∧ ((-9223372036854775808 ≤ ((v13 + 16) + (v3 v14 0)) ∧ ((v13 + 16) + (v3 v14 0)) ≤ 9223372036854775807) →
          ((v12 + 1) ≤ 9223372036854775807 →
          (v1 = 0 →
            (-9223372036854775808 ≤ (((v13 + 16) + (v3 v14 0)) + 16) ∧ (((v13 + 16) + (v3 v14 0)) + 16) ≤ 9223372036854775807) ∧ ((-9223372036854775808 ≤ (((v13 + 16) + (v3 v14 0)) + 16) ∧ (((v13 + 16) + (v3 v14 0)) + 16) ≤ 9223372036854775807) →
            (((v12 + 1) + 1) * 40) ≤ 140737488355328 ∧ ((((v12 + 1) + 1) * 40) ≤ 140737488355328 →
            ((v12 + 1) + 1) ≤ 140737488355328 ∧ (((v12 + 1) + 1) ≤ 140737488355328 →
            (-9223372036854775808 ≤ ((((v13 + 16) + (v3 v14 0)) + 16) + v7) ∧ ((((v13 + 16) + (v3 v14 0)) + 16) + v7) ≤ 9223372036854775807) ∧ ((-9223372036854775808 ≤ ((((v13 + 16) + (v3 v14 0)) + 16) + v7) ∧ ((((v13 + 16) + (v3 v14 0)) + 16) + v7) ≤ 9223372036854775807) →
            (-9223372036854775808 ≤ (v14 + 1) ∧ (v14 + 1) ≤ 9223372036854775807) ∧ ((-9223372036854775808 ≤ (v14 + 1) ∧ (v14 + 1) ≤ 9223372036854775807) →
            I0 (appA (appA v11 v12 (setA (setA (setA (setA (setA (setA zA 0 0 4) 0 1 0) 0 2 v14) 0 3 (v13 + 16)) 0 4 (v3 v14 0)) 0 5 0)) (v12 + 1) (setA (setA (setA (setA (setA (setA zA 0 0 5) 0 1 1) 0 2 v14) 0 3 (((v13 + 16) + (v3 v14 0)) + 16)) 0 4 v7) 0 5 0)) ((v12 + 1) + 1) ((((v13 + 16) + (v3 v14 0)) + 16) + v7) (v14 + 1) ∧ μ0 (appA (appA v11 v12 (setA (setA (setA (setA (setA (setA zA 0 0 4) 0 1 0) 0 2 v14) 0 3 (v13 + 16)) 0 4 (v3 v14 0)) 0 5 0)) (v12 + 1) (setA (setA (setA (setA (setA (setA zA 0 0 5) 0 1 1) 0 2 v14) 0 3 (((v13 + 16) + (v3 v14 0)) + 16)) 0 4 v7) 0 5 0)) ((v12 + 1) + 1) ((((v13 + 16) + (v3 v14 0)) + 16) + v7) (v14 + 1) < μ0 v11 v12 v13 v14)))))) ∧
          (¬ (v1 = 0) →
            (-9223372036854775808 ≤ (v14 + 1) ∧ (v14 + 1) ≤ 9223372036854775807) ∧ ((-9223372036854775808 ≤ (v14 + 1) ∧ (v14 + 1) ≤ 9223372036854775807) →
            I0 (appA v11 v12 (setA (setA (setA (setA (setA (setA zA 0 0 4) 0 1 0) 0 2 v14) 0 3 (v13 + 16)) 0 4 (v3 v14 0)) 0 5 0)) (v12 + 1) ((v13 + 16) + (v3 v14 0)) (v14 + 1) ∧ μ0 (appA v11 v12 (setA (setA (setA (setA (setA (setA zA 0 0 4) 0 1 0) 0 2 v14) 0 3 (v13 + 16)) 0 4 (v3 v14 0)) 0 5 0)) (v12 + 1) ((v13 + 16) + (v3 v14 0)) (v14 + 1) < μ0 v11 v12 v13 v14))))))))))) ∧
      (¬ (v14 < v10) →
        (v1 = 2 →
          (-9223372036854775808 ≤ (v13 + 16) ∧ (v13 + 16) ≤ 9223372036854775807) ∧ ((-9223372036854775808 ≤ (v13 + 16) ∧ (v13 + 16) ≤ 9223372036854775807) →
          (v12 = 0 →
            ((v12 + 1) * 40) ≤ 140737488355328 ∧ (((v12 + 1) * 40) ≤ 140737488355328 →
            (v12 + 1) ≤ 140737488355328 ∧ ((v12 + 1) ≤ 140737488355328 →
            (-9223372036854775808 ≤ v8 ∧ v8 ≤ 9223372036854775807) ∧ ((-9223372036854775808 ≤ v8 ∧ v8 ≤ 9223372036854775807) →
            (-9223372036854775808 ≤ (v8 + 16) ∧ (v8 + 16) ≤ 9223372036854775807) ∧ ((-9223372036854775808 ≤ (v8 + 16) ∧ (v8 + 16) ≤ 9223372036854775807) →
            (((v12 + 1) + 1) * 40) ≤ 140737488355328 ∧ ((((v12 + 1) + 1) * 40) ≤ 140737488355328 →
            ((v12 + 1) + 1) ≤ 140737488355328 ∧ (((v12 + 1) + 1) ≤ 140737488355328 →
            (-9223372036854775808 ≤ ((v8 + 16) + v9) ∧ ((v8 + 16) + v9) ≤ 9223372036854775807) ∧ ((-9223372036854775808 ≤ ((v8 + 16) + v9) ∧ ((v8 + 16) + v9) ≤ 9223372036854775807) →
            ∃ (I1 : (Int → Nat → Int) → (Int) → Prop) (μ1 : (Int → Nat → Int) → (Int) → Nat), I1 (appA (appA v11 v12 (setA (setA (setA (setA (setA (setA zA 0 0 6) 0 1 0) 0 2 0) 0 3 0) 0 4 v8) 0 5 0)) (v12 + 1) (setA (setA (setA (setA (setA (setA zA 0 0 7) 0 1 1) 0 2 0) 0 3 (v8 + 16)) 0 4 v9) 0 5 0)) (0 : Int) ∧ (∀ (v15 : Int → Nat → Int) (v16 : Int), I1 v15 v16 →
              (((v12 + 1) + 1) ≤ 9223372036854775807 →
              (v16 < ((v12 + 1) + 1) →
                0 ≤ v16 ∧ (0 ≤ v16 →
                (-9223372036854775808 ≤ (((v8 + 16) + v9) - (v15 v16 3)) ∧ (((v8 + 16) + v9) - (v15 v16 3)) ≤ 9223372036854775807) ∧ ((-9223372036854775808 ≤ (((v8 + 16) + v9) - (v15 v16 3)) ∧ (((v8 + 16) + v9) - (v15 v16 3)) ≤ 9223372036854775807) →
                (-9223372036854775808 ≤ ((((v8 + 16) + v9) - (v15 v16 3)) - (v15 v16 4)) ∧ ((((v8 + 16) + v9) - (v15 v16 3)) - (v15 v16 4)) ≤ 9223372036854775807) ∧ ((-9223372036854775808 ≤ ((((v8 + 16) + v9) - (v15 v16 3)) - (v15 v16 4)) ∧ ((((v8 + 16) + v9) - (v15 v16 3)) - (v15 v16 4)) ≤ 9223372036854775807) →
                (-9223372036854775808 ≤ (v16 + 1) ∧ (v16 + 1) ≤ 9223372036854775807) ∧ ((-9223372036854775808 ≤ (v16 + 1) ∧ (v16 + 1) ≤ 9223372036854775807) →
                I1 (setA v15 v16 5 ((((v8 + 16) + v9) - (v15 v16 3)) - (v15 v16 4))) (v16 + 1) ∧ μ1 (setA v15 v16 5 ((((v8 + 16) + v9) - (v15 v16 3)) - (v15 v16 4))) (v16 + 1) < μ1 v15 v16))))) ∧
              (¬ (v16 < ((v12 + 1) + 1)) →
                ((v12 + 1) + 1) = exL (Xc.mk v0 v1 v2 v3 v4 v5 v6 v7 v8 v9) v10 ∧ (∀ (i : Int) (f : Nat), 0 ≤ i → i < exL (Xc.mk v0 v1 v2 v3 v4 v5 v6 v7 v8 v9) v10 → f < 6 → v15 i f = exRow (Xc.mk v0 v1 v2 v3 v4 v5 v6 v7 v8 v9) v10 i f) ∧ True))))))))))) ∧
          (¬ (v12 = 0) →
            ((v12 + 1) * 40) ≤ 140737488355328 ∧ (((v12 + 1) * 40) ≤ 140737488355328 →
            (v12 + 1) ≤ 140737488355328 ∧ ((v12 + 1) ≤ 140737488355328 →
            (-9223372036854775808 ≤ ((v13 + 16) + v8) ∧ ((v13 + 16) + v8) ≤ 9223372036854775807) ∧ ((-9223372036854775808 ≤ ((v13 + 16) + v8) ∧ ((v13 + 16) + v8) ≤ 9223372036854775807) →
            (-9223372036854775808 ≤ (((v13 + 16) + v8) + 16) ∧ (((v13 + 16) + v8) + 16) ≤ 9223372036854775807) ∧ ((-9223372036854775808 ≤ (((v13 + 16) + v8) + 16) ∧ (((v13 + 16) + v8) + 16) ≤ 9223372036854775807) →
            (((v12 + 1) + 1) * 40) ≤ 140737488355328 ∧ ((((v12 + 1) + 1) * 40) ≤ 140737488355328 →
            ((v12 + 1) + 1) ≤ 140737488355328 ∧ (((v12 + 1) + 1) ≤ 140737488355328 →
            (-9223372036854775808 ≤ ((((v13 + 16) + v8) + 16) + v9) ∧ ((((v13 + 16) + v8) + 16) + v9) ≤ 9223372036854775807) ∧ ((-9223372036854775808 ≤ ((((v13 + 16) + v8) + 16) + v9) ∧ ((((v13 + 16) + v8) + 16) + v9) ≤ 9223372036854775807) →
            ∃ (I1 : (Int → Nat → Int) → (Int) → Prop) (μ1 : (Int → Nat → Int) → (Int) → Nat), I1 (appA (appA v11 v12 (setA (setA (setA (setA (setA (setA zA 0 0 6) 0 1 0) 0 2 0) 0 3 (v13 + 16)) 0 4 v8) 0 5 0)) (v12 + 1) (setA (setA (setA (setA (setA (setA zA 0 0 7) 0 1 1) 0 2 0) 0 3 (((v13 + 16) + v8) + 16)) 0 4 v9) 0 5 0)) (0 : Int) ∧ (∀ (v15 : Int → Nat → Int) (v16 : Int), I1 v15 v16 →
              (((v12 + 1) + 1) ≤ 9223372036854775807 →
              (v16 < ((v12 + 1) + 1) →
                0 ≤ v16 ∧ (0 ≤ v16 →
                (-9223372036854775808 ≤ (((((v13 + 16) + v8) + 16) + v9) - (v15 v16 3)) ∧ (((((v13 + 16) + v8) + 16) + v9) - (v15 v16 3)) ≤ 9223372036854775807) ∧ ((-9223372036854775808 ≤ (((((v13 + 16) + v8) + 16) + v9) - (v15 v16 3)) ∧ (((((v13 + 16) + v8) + 16) + v9) - (v15 v16 3)) ≤ 9223372036854775807) →
                (-9223372036854775808 ≤ ((((((v13 + 16) + v8) + 16) + v9) - (v15 v16 3)) - (v15 v16 4)) ∧ ((((((v13 + 16) + v8) + 16) + v9) - (v15 v16 3)) - (v15 v16 4)) ≤ 9223372036854775807) ∧ ((-9223372036854775808 ≤ ((((((v13 + 16) + v8) + 16) + v9) - (v15 v16 3)) - (v15 v16 4)) ∧ ((((((v13 + 16) + v8) + 16) + v9) - (v15 v16 3)) - (v15 v16 4)) ≤ 9223372036854775807) →
                (-9223372036854775808 ≤ (v16 + 1) ∧ (v16 + 1) ≤ 9223372036854775807) ∧ ((-9223372036854775808 ≤ (v16 + 1) ∧ (v16 + 1) ≤ 9223372036854775807) →
                I1 (setA v15 v16 5 ((((((v13 + 16) + v8) + 16) + v9) - (v15 v16 3)) - (v15 v16 4))) (v16 + 1) ∧ μ1 (setA v15 v16 5 ((((((v13 + 16) + v8) + 16) + v9) - (v15 v16 3)) - (v15 v16 4))) (v16 + 1) < μ1 v15 v16))))) ∧
              (¬ (v16 < ((v12 + 1) + 1)) →
                ((v12 + 1) + 1) = exL (Xc.mk v0 v1 v2 v3 v4 v5 v6 v7 v8 v9) v10 ∧ (∀ (i : Int) (f : Nat), 0 ≤ i → i < exL (Xc.mk v0 v1 v2 v3 v4 v5 v6 v7 v8 v9) v10 → f < 6 → v15 i f = exRow (Xc.mk v0 v1 v2 v3 v4 v5 v6 v7 v8 v9) v10 i f) ∧ True))))))))))))) ∧
        (¬ (v1 = 2) →
          ∃ (I1 : (Int → Nat → Int) → (Int) → Prop) (μ1 : (Int → Nat → Int) → (Int) → Nat), I1 v11 (0 : Int) ∧ (∀ (v15 : Int → Nat → Int) (v16 : Int), I1 v15 v16 →
            (v16 < v12 →
              0 ≤ v16 ∧ (0 ≤ v16 →
              (-9223372036854775808 ≤ (v13 - (v15 v16 3)) ∧ (v13 - (v15 v16 3)) ≤ 9223372036854775807) ∧ ((-9223372036854775808 ≤ (v13 - (v15 v16 3)) ∧ (v13 - (v15 v16 3)) ≤ 9223372036854775807) →
              (-9223372036854775808 ≤ ((v13 - (v15 v16 3)) - (v15 v16 4)) ∧ ((v13 - (v15 v16 3)) - (v15 v16 4)) ≤ 9223372036854775807) ∧ ((-9223372036854775808 ≤ ((v13 - (v15 v16 3)) - (v15 v16 4)) ∧ ((v13 - (v15 v16 3)) - (v15 v16 4)) ≤ 9223372036854775807) →
              (-9223372036854775808 ≤ (v16 + 1) ∧ (v16 + 1) ≤ 9223372036854775807) ∧ ((-9223372036854775808 ≤ (v16 + 1) ∧ (v16 + 1) ≤ 9223372036854775807) →
              I1 (setA v15 v16 5 ((v13 - (v15 v16 3)) - (v15 v16 4))) (v16 + 1) ∧ μ1 (setA v15 v16 5 ((v13 - (v15 v16 3)) - (v15 v16 4))) (v16 + 1) < μ1 v15 v16))))) ∧
            (¬ (v16 < v12) →
              v12 = exL (Xc.mk v0 v1 v2 v3 v4 v5 v6 v7 v8 v9) v10 ∧ (∀ (i : Int) (f : Nat), 0 ≤ i → i < exL (Xc.mk v0 v1 v2 v3 v4 v5 v6 v7 v8 v9) v10 → f < 6 → v15 i f = exRow (Xc.mk v0 v1 v2 v3 v4 v5 v6 v7 v8 v9) v10 i f) ∧ True))))))))

theorem lp18 (x : Xc) (n : Int) (hx : exOk x) (n1 : 1 ≤ n) (nm : n ≤ x.m) {a0 : Int → Nat → Int} {k0 e0 : Int} (h0 : PR x n k0 a0 e0) (hk0 : k0 = exB x) : LP18 x.p x.q x.lim x.d x.m x.rts x.cts x.ack x.bar x.back n a0 k0 e0 0 := by
  unfold LP18
  have hB := exB_bd x
  have hx0 := hx
  obtain ⟨b0, b1, b2, b3, b4, b5, b6, b7, b8, bd⟩ := hx0
  have hQ : exQ x = 1 ∨ exQ x = 2 := by unfold exQ; split <;> simp
  have Q2 : x.q = 0 → exQ x = 2 := fun h => by unfold exQ; rw [if_pos h]
  have Q1 : x.q ≠ 0 → exQ x = 1 := fun h => by unfold exQ; rw [if_neg h]
  have T2 : x.q = 2 → exL x n = exB x + n * exQ x + 2 := fun h => by unfold exL exT; rw [if_pos h]
  have T0 : x.q ≠ 2 → exL x n = exB x + n * exQ x := fun h => by unfold exL exT; rw [if_neg h]; omega
  have hl := exL_bd x hx n n1 nm
  refine ⟨fun a k e i => 0 ≤ i ∧ i ≤ n ∧ k = exB x + i * exQ x ∧ PR x n k a e, fun _ _ _ i => (n - i).toNat, ⟨by omega, by omega, by omega, h0⟩, fun a k e i hI k0' _ _ => ?_⟩
  obtain ⟨i0, i1, hk, h⟩ := hI
  have num : 0 ≤ k ∧ k ≤ 36 ∧ 0 ≤ e ∧ e ≤ 1200000 := by
    have hkL : k ≤ exL x n := by
      have hT : 0 ≤ exT x := by unfold exT; split <;> omega
      unfold exL
      rcases hQ with hQ | hQ <;> rw [hQ] at hk ⊢ <;> omega
    have hb := exS_bd x hx n nm k.toNat (by have := h.k0; omega)
    rw [Int.toNat_of_nonneg h.k0] at hb
    have := h.en
    have k0 := h.k0
    split at this <;> omega
  obtain ⟨m1, m2, m3, m4⟩ := num
  have hmul : (i + 1) * exQ x = i * exQ x + exQ x := by rw [Int.add_mul, Int.one_mul]
  refine ⟨fun hlt => ⟨i0, fun _ => ⟨by omega, fun _ => ⟨by omega, fun _ => ?_⟩⟩⟩, fun hge => ?_⟩
  · obtain ⟨d0, d1⟩ := bd i i0 (by omega)
    have mu : (n - (i + 1)).toNat < (n - i).toNat := by omega
    by_cases hq : x.q = 0
    · have hQ2 := Q2 hq
      refine ⟨fun hz => ?_, fun hz => ?_⟩
      · have hp := seq_ack (e := x.d i 0) (s := x.d i 0 + 16) (e1 := x.d i 0 + 16 + x.ack) (seq_data h hk i0 hlt (s := 0) (by rw [if_pos hz]) (by omega)) hk hq i0 hlt rfl rfl
        exact ⟨by omega, fun _ => ⟨by omega, fun _ => ⟨by omega, fun _ _ => ⟨fun _ => ⟨by omega, fun _ => ⟨by omega, fun _ => ⟨by omega, fun _ => ⟨by omega, fun _ => ⟨by omega, fun _ => ⟨⟨by omega, by omega, by omega, hp⟩, mu⟩⟩⟩⟩⟩⟩, fun hn => absurd hq hn⟩⟩⟩⟩
      · have hp := seq_ack (e := e + 16 + x.d i 0) (s := e + 16 + x.d i 0 + 16) (e1 := e + 16 + x.d i 0 + 16 + x.ack) (seq_data h hk i0 hlt (s := e + 16) (by rw [if_neg hz]) rfl) hk hq i0 hlt rfl rfl
        exact ⟨by omega, fun _ => ⟨by omega, fun _ => ⟨by omega, fun _ _ => ⟨fun _ => ⟨by omega, fun _ => ⟨by omega, fun _ => ⟨by omega, fun _ => ⟨by omega, fun _ => ⟨by omega, fun _ => ⟨⟨by omega, by omega, by omega, hp⟩, mu⟩⟩⟩⟩⟩⟩, fun hn => absurd hq hn⟩⟩⟩⟩
    · have hQ1 := Q1 hq
      refine ⟨fun hz => ?_, fun hz => ?_⟩
      · have hp := seq_data h hk i0 hlt (s := 0) (e1 := x.d i 0) (by rw [if_pos hz]) (by omega)
        exact ⟨by omega, fun _ => ⟨by omega, fun _ => ⟨by omega, fun _ _ => ⟨fun hn => absurd hn hq, fun _ => ⟨by omega, fun _ => ⟨⟨by omega, by omega, by omega, hp⟩, mu⟩⟩⟩⟩⟩⟩
      · have hp := seq_data h hk i0 hlt (s := e + 16) (e1 := e + 16 + x.d i 0) (by rw [if_neg hz]) rfl
        exact ⟨by omega, fun _ => ⟨by omega, fun _ => ⟨by omega, fun _ _ => ⟨fun hn => absurd hn hq, fun _ => ⟨by omega, fun _ => ⟨⟨by omega, by omega, by omega, hp⟩, mu⟩⟩⟩⟩⟩⟩
  · have hin : i = n := by omega
    subst hin
    refine ⟨fun hq => ⟨by omega, fun _ => ⟨fun hz => ?_, fun hz => ?_⟩⟩, fun hq => ?_⟩
    · have hQ1 := Q1 (by omega)
      have hT := T2 hq
      have hp := seq_tail h hk hq n1 (s := 0) (e1 := x.bar) (s2 := x.bar + 16) (e2 := x.bar + 16 + x.back) (by rw [if_pos hz]) (by omega) rfl rfl
      have hL : k + 1 + 1 = exL x i := by rw [hT, hk]; omega
      exact ⟨by omega, fun _ => ⟨by omega, fun _ => ⟨by omega, fun _ => ⟨by omega, fun _ => ⟨by omega, fun _ => ⟨by omega, fun _ => ⟨by omega, fun _ => dur_loop hx n1 nm hp hL⟩⟩⟩⟩⟩⟩⟩
    · have hQ1 := Q1 (by omega)
      have hT := T2 hq
      have hp := seq_tail h hk hq n1 (s := e + 16) (e1 := e + 16 + x.bar) (s2 := e + 16 + x.bar + 16) (e2 := e + 16 + x.bar + 16 + x.back) (by rw [if_neg hz]) rfl rfl rfl
      have hL : k + 1 + 1 = exL x i := by rw [hT, hk]; omega
      exact ⟨by omega, fun _ => ⟨by omega, fun _ => ⟨by omega, fun _ => ⟨by omega, fun _ => ⟨by omega, fun _ => ⟨by omega, fun _ => ⟨by omega, fun _ => dur_loop hx n1 nm hp hL⟩⟩⟩⟩⟩⟩⟩
    · have hL : k = exL x i := by rw [T0 hq, hk]
      obtain ⟨I, μ, g1, g2⟩ := dur_loop hx n1 nm h hL
      exact ⟨I, μ, g1, fun a j hI => g2 a j hI (by omega)⟩
theorem vc16 : VC16 := by
  unfold VC16
  intro p q lim d m rts cts ack bar back n hP hm _
  obtain ⟨hx, n1, nm⟩ := hP
  have key := fun (a0 : Int → Nat → Int) (k0 e0 : Int) h hk => lp18 ⟨p, q, lim, d, m, rts, cts, ack, bar, back⟩ n hx n1 nm (a0 := a0) (k0 := k0) (e0 := e0) h hk
  have hx0 := hx
  obtain ⟨b0, b1, b2, b3, b4, b5, b6, b7, b8, bd⟩ := hx0
  simp only at b0 b1 b2 b3 b4 b5 b6 b7 b8
  refine ⟨fun hp => ?_, fun hp => ⟨fun hp2 => ?_, fun hp2 => ?_⟩⟩
  · obtain ⟨r1, r2, r3, r4⟩ := ex_self ⟨p, q, lim, d, m, rts, cts, ack, bar, back⟩ n hp
    exact ⟨by omega, fun _ => ⟨by omega, fun _ => ⟨by omega, fun _ => key _ _ _ (PR_one rfl r1 r2 r3 r4 rfl) (by unfold exB; simp [hp])⟩⟩⟩
  · obtain ⟨⟨r1, r2, r3, r4⟩, r5, r6, r7, r8⟩ := ex_ask ⟨p, q, lim, d, m, rts, cts, ack, bar, back⟩ n hp2
    have h1 := PR_one (s := 0) (e2 := rts) rfl r1 r2 r3 r4 rfl
    have h2 := PR_add h1 (s := rts + 16) (e2 := rts + 16 + cts) (by simp) r5 r6 r7 r8 rfl
    repeat' (first | exact key _ _ _ h2 (by unfold exB; simp [hp2]) | apply And.intro | intro _ | omega)
  · repeat' (first | exact key _ _ _ (PR_nil _ _) (by unfold exB; simp [hp, hp2]) | apply And.intro | intro _ | omega)
end Go.Proofs.YtiiabaklipmbbaaDoor
