/- What the functions do, and what is left to show of each. -/
import Derived.Test.YtccmgepknjkakaaC
set_option linter.unusedVariables false
namespace Go.Proofs.Ytccmgepknjkakaa
open Go Go.RowKit Go.Proofs.Ytccmgepknjkakaa.Vc
/-! hotspotref44.Run -/
def sig12 : CSig := ⟨[⟨true, [.slc [.int .i64, .int .i64], .int .i64]⟩, ⟨false, [.mat [.int .i64]]⟩], [⟨false, [.slc [.int .i64]]⟩, ⟨true, [.slc [.int .i64, .int .i64], .int .i64]⟩, ⟨false, [.int .i64]⟩]⟩
def pre12 : List AV → Prop
  | [.a v0, .i v1, .i v2, .m v3l v3f, .i v4] => v4 ≤ 40 ∧ rwP v3l v4
  | _ => False
noncomputable def raw12 : List AV → List AV
  | [.a v0, .i v1, .i v2, .m v3l v3f, .i v4] => [.a ((hidF ruO) v0 v1 v2 v3l v3f v4), .i ((hidF ruK) v0 v1 v2 v3l v3f v4), .a ((hidF ruA) v0 v1 v2 v3l v3f v4), .i ((hidF ruN) v0 v1 v2 v3l v3f v4 v1), .i ((hidF ruT) v0 v1 v2 v3l v3f v4), .i ((hidF ruE) v0 v1 v2 v3l v3f v4)]
  | _ => []

def VH12 : Prop :=
  ∀ (v0 : Int → Nat → Int) (v1 : Int) (v2 : Int) (v3l : Int → Int) (v3f : Int → Int → Nat → Int) (v4 : Int),
  (v4 ≤ 40 ∧ rwP v3l v4) →
  (0 ≤ v1 →
  (0 ≤ v4 →
  (True) ∧ (∀ (v5 : Int), v5 = (hidF ckA) v0 v1 v2 → 
  (v1 ≤ 9223372036854775807 →
  (v4 ≤ 9223372036854775807 →
  (¬ (v5 = 0) →
    (0 : Int) = (hidF ruK) v0 v1 v2 v3l v3f v4 ∧ (∀ (i : Int) (f : Nat), 0 ≤ i → i < (hidF ruK) v0 v1 v2 v3l v3f v4 → f < 1 → zA i f = (hidF ruO) v0 v1 v2 v3l v3f v4 i f) ∧ (0 : Int) = (hidF ruN) v0 v1 v2 v3l v3f v4 v1 ∧ (∀ (i : Int) (f : Nat), 0 ≤ i → i < (hidF ruN) v0 v1 v2 v3l v3f v4 v1 → f < 2 → zA i f = (hidF ruA) v0 v1 v2 v3l v3f v4 i f) ∧ (0 : Int) = (hidF ruT) v0 v1 v2 v3l v3f v4 ∧ (8 : Int) = (hidF ruE) v0 v1 v2 v3l v3f v4 ∧ True) ∧
  (¬ (¬ (v5 = 0)) →
    (¬ (v4 = v1) →
      (0 : Int) = (hidF ruK) v0 v1 v2 v3l v3f v4 ∧ (∀ (i : Int) (f : Nat), 0 ≤ i → i < (hidF ruK) v0 v1 v2 v3l v3f v4 → f < 1 → zA i f = (hidF ruO) v0 v1 v2 v3l v3f v4 i f) ∧ (0 : Int) = (hidF ruN) v0 v1 v2 v3l v3f v4 v1 ∧ (∀ (i : Int) (f : Nat), 0 ≤ i → i < (hidF ruN) v0 v1 v2 v3l v3f v4 v1 → f < 2 → zA i f = (hidF ruA) v0 v1 v2 v3l v3f v4 i f) ∧ (0 : Int) = (hidF ruT) v0 v1 v2 v3l v3f v4 ∧ (2 : Int) = (hidF ruE) v0 v1 v2 v3l v3f v4 ∧ True) ∧
    (¬ (¬ (v4 = v1)) →
      ∃ (I0 : (Int) → (Int) → Prop) (μ0 : (Int) → (Int) → Nat), I0 (0 : Int) (0 : Int) ∧ (∀ (v6 : Int) (v7 : Int), I0 v6 v7 →
        (v7 < v4 →
          0 ≤ v7 ∧ (0 ≤ v7 →
          (-9223372036854775808 ≤ (v6 + (v3l v7)) ∧ (v6 + (v3l v7)) ≤ 9223372036854775807) ∧ ((-9223372036854775808 ≤ (v6 + (v3l v7)) ∧ (v6 + (v3l v7)) ≤ 9223372036854775807) →
          ∃ (I1 : (Int) → Prop) (μ1 : (Int) → Nat), I1 (0 : Int) ∧ (∀ (v8 : Int), I1 v8 →
            (0 ≤ (v3l v7) →
            ((v3l v7) ≤ 9223372036854775807 →
            (v8 < (v3l v7) →
              0 ≤ v8 ∧ (0 ≤ v8 →
              ((((rowA v3f v7) v8 0) < 1 ∨ 32767 < ((rowA v3f v7) v8 0)) →
                (0 : Int) = (hidF ruK) v0 v1 v2 v3l v3f v4 ∧ (∀ (i : Int) (f : Nat), 0 ≤ i → i < (hidF ruK) v0 v1 v2 v3l v3f v4 → f < 1 → zA i f = (hidF ruO) v0 v1 v2 v3l v3f v4 i f) ∧ (0 : Int) = (hidF ruN) v0 v1 v2 v3l v3f v4 v1 ∧ (∀ (i : Int) (f : Nat), 0 ≤ i → i < (hidF ruN) v0 v1 v2 v3l v3f v4 v1 → f < 2 → zA i f = (hidF ruA) v0 v1 v2 v3l v3f v4 i f) ∧ (0 : Int) = (hidF ruT) v0 v1 v2 v3l v3f v4 ∧ (2 : Int) = (hidF ruE) v0 v1 v2 v3l v3f v4 ∧ True) ∧
              (¬ ((((rowA v3f v7) v8 0) < 1 ∨ 32767 < ((rowA v3f v7) v8 0))) →
                (-9223372036854775808 ≤ (v8 + 1) ∧ (v8 + 1) ≤ 9223372036854775807) ∧ ((-9223372036854775808 ≤ (v8 + 1) ∧ (v8 + 1) ≤ 9223372036854775807) →
                I1 (v8 + 1) ∧ μ1 (v8 + 1) < μ1 v8)))) ∧
            (¬ (v8 < (v3l v7)) →
              (-9223372036854775808 ≤ (v7 + 1) ∧ (v7 + 1) ≤ 9223372036854775807) ∧ ((-9223372036854775808 ≤ (v7 + 1) ∧ (v7 + 1) ≤ 9223372036854775807) →
              I0 (v6 + (v3l v7)) (v7 + 1) ∧ μ0 (v6 + (v3l v7)) (v7 + 1) < μ0 v6 v7)))))))) ∧
        (¬ (v7 < v4) →
          (10000 < v6 →
            (0 : Int) = (hidF ruK) v0 v1 v2 v3l v3f v4 ∧ (∀ (i : Int) (f : Nat), 0 ≤ i → i < (hidF ruK) v0 v1 v2 v3l v3f v4 → f < 1 → zA i f = (hidF ruO) v0 v1 v2 v3l v3f v4 i f) ∧ (0 : Int) = (hidF ruN) v0 v1 v2 v3l v3f v4 v1 ∧ (∀ (i : Int) (f : Nat), 0 ≤ i → i < (hidF ruN) v0 v1 v2 v3l v3f v4 v1 → f < 2 → zA i f = (hidF ruA) v0 v1 v2 v3l v3f v4 i f) ∧ (0 : Int) = (hidF ruT) v0 v1 v2 v3l v3f v4 ∧ (2 : Int) = (hidF ruE) v0 v1 v2 v3l v3f v4 ∧ True) ∧
          (¬ (10000 < v6) →
            (v4 * 8) ≤ 140737488355328 ∧ ((v4 * 8) ≤ 140737488355328 →
            (v1 ≤ 40) ∧ (∀ (v8 : Int → Nat → Int) (v9 : Int) (v10 : Int), v8 = v0 → v9 = v1 → v10 = v2 → 
            (0 ≤ v9 →
            ∃ (I1 : (Int → Nat → Int) → (Int) → (Int) → (Int → Nat → Int) → (Int → Nat → Int) → (Int) → (Int → Nat → Int) → Prop) (μ1 : (Int → Nat → Int) → (Int) → (Int) → (Int → Nat → Int) → (Int → Nat → Int) → (Int) → (Int → Nat → Int) → Nat), I1 v8 v9 v10 zA zA (0 : Int) zA ∧ (∀ (v11 : Int → Nat → Int) (v12 : Int) (v13 : Int) (v14 : Int → Nat → Int) (v15 : Int → Nat → Int) (v16 : Int) (v17 : Int → Nat → Int), I1 v11 v12 v13 v14 v15 v16 v17 →
              (0 ≤ v12 →
              (v12 ≤ 9223372036854775807 →
              (0 ≤ v16 →
              (v16 ≤ 9223372036854775807 →
              (v16 < v6 →
                0 ≤ v13 ∧ (0 ≤ v13 →
                v13 < v4 ∧ (v13 < v4 →
                (v12 ≤ 40 ∧ 0 ≤ v13 ∧ v13 < v12 ∧ okS v11 v12) ∧ (∀ (v18 : Int → Nat → Int) (v19 : Int) (v20 : Int) (v21 : Bool), v18 = (hidF stA) (decide ((v17 v13 0) < (v3l v13))) v11 v13 → v19 = v12 → v20 = (hidF stT) (decide ((v17 v13 0) < (v3l v13))) v11 v12 v13 → v21 = (hidF cho) (decide ((v17 v13 0) < (v3l v13))) v11 v13 → 
                (0 ≤ v19 →
                (v19 ≤ 9223372036854775807 →
                (0 ≤ (v3l v13) →
                ((v3l v13) ≤ 9223372036854775807 →
                (v21 = true →
                  v13 < v19 ∧ (v13 < v19 →
                  0 ≤ (v17 v13 0) ∧ (0 ≤ (v17 v13 0) →
                  (v17 v13 0) < (v3l v13) ∧ ((v17 v13 0) < (v3l v13) →
                  (-9223372036854775808 ≤ ((v18 v13 1) - ((rowA v3f v13) (v17 v13 0) 0)) ∧ ((v18 v13 1) - ((rowA v3f v13) (v17 v13 0) 0)) ≤ 9223372036854775807) ∧ ((-9223372036854775808 ≤ ((v18 v13 1) - ((rowA v3f v13) (v17 v13 0) 0)) ∧ ((v18 v13 1) - ((rowA v3f v13) (v17 v13 0) 0)) ≤ 9223372036854775807) →
                  (-9223372036854775808 ≤ ((v17 v13 0) + 1) ∧ ((v17 v13 0) + 1) ≤ 9223372036854775807) ∧ ((-9223372036854775808 ≤ ((v17 v13 0) + 1) ∧ ((v17 v13 0) + 1) ≤ 9223372036854775807) →
                  ((v16 + 1) * 8) ≤ 140737488355328 ∧ (((v16 + 1) * 8) ≤ 140737488355328 →
                  (v16 + 1) ≤ 140737488355328 ∧ ((v16 + 1) ≤ 140737488355328 →
                  I1 (setA v18 v13 1 ((v18 v13 1) - ((rowA v3f v13) (v17 v13 0) 0))) v19 v20 (setA v17 v13 0 ((v17 v13 0) + 1)) (appA v15 v16 (setA zA 0 0 v13)) (v16 + 1) (setA v17 v13 0 ((v17 v13 0) + 1)) ∧ μ1 (setA v18 v13 1 ((v18 v13 1) - ((rowA v3f v13) (v17 v13 0) 0))) v19 v20 (setA v17 v13 0 ((v17 v13 0) + 1)) (appA v15 v16 (setA zA 0 0 v13)) (v16 + 1) (setA v17 v13 0 ((v17 v13 0) + 1)) < μ1 v11 v12 v13 v14 v15 v16 v17)))))))) ∧
                (¬ (v21 = true) →
                  I1 v18 v19 v20 v17 v15 v16 v17 ∧ μ1 v18 v19 v20 v17 v15 v16 v17 < μ1 v11 v12 v13 v14 v15 v16 v17))))))))) ∧
              (¬ (v16 < v6) →
                v16 = (hidF ruK) v0 v1 v2 v3l v3f v4 ∧ (∀ (i : Int) (f : Nat), 0 ≤ i → i < (hidF ruK) v0 v1 v2 v3l v3f v4 → f < 1 → v15 i f = (hidF ruO) v0 v1 v2 v3l v3f v4 i f) ∧ v12 = (hidF ruN) v0 v1 v2 v3l v3f v4 v1 ∧ (∀ (i : Int) (f : Nat), 0 ≤ i → i < (hidF ruN) v0 v1 v2 v3l v3f v4 v1 → f < 2 → v11 i f = (hidF ruA) v0 v1 v2 v3l v3f v4 i f) ∧ v13 = (hidF ruT) v0 v1 v2 v3l v3f v4 ∧ (0 : Int) = (hidF ruE) v0 v1 v2 v3l v3f v4 ∧ True)))))))))))))))))))
def VC12 : Prop :=
  ∀ (v0 : Int → Nat → Int) (v1 : Int) (v2 : Int) (v3l : Int → Int) (v3f : Int → Int → Nat → Int) (v4 : Int),
  (v4 ≤ 40 ∧ rwP v3l v4) →
  (0 ≤ v1 →
  (0 ≤ v4 →
  (True) ∧ (∀ (v5 : Int), v5 = ckA v0 v1 v2 → 
  (v1 ≤ 9223372036854775807 →
  (v4 ≤ 9223372036854775807 →
  (¬ (v5 = 0) →
    (0 : Int) = ruK v0 v1 v2 v3l v3f v4 ∧ (∀ (i : Int) (f : Nat), 0 ≤ i → i < ruK v0 v1 v2 v3l v3f v4 → f < 1 → zA i f = ruO v0 v1 v2 v3l v3f v4 i f) ∧ (0 : Int) = ruN v0 v1 v2 v3l v3f v4 v1 ∧ (∀ (i : Int) (f : Nat), 0 ≤ i → i < ruN v0 v1 v2 v3l v3f v4 v1 → f < 2 → zA i f = ruA v0 v1 v2 v3l v3f v4 i f) ∧ (0 : Int) = ruT v0 v1 v2 v3l v3f v4 ∧ (8 : Int) = ruE v0 v1 v2 v3l v3f v4 ∧ True) ∧
  (¬ (¬ (v5 = 0)) →
    (¬ (v4 = v1) →
      (0 : Int) = ruK v0 v1 v2 v3l v3f v4 ∧ (∀ (i : Int) (f : Nat), 0 ≤ i → i < ruK v0 v1 v2 v3l v3f v4 → f < 1 → zA i f = ruO v0 v1 v2 v3l v3f v4 i f) ∧ (0 : Int) = ruN v0 v1 v2 v3l v3f v4 v1 ∧ (∀ (i : Int) (f : Nat), 0 ≤ i → i < ruN v0 v1 v2 v3l v3f v4 v1 → f < 2 → zA i f = ruA v0 v1 v2 v3l v3f v4 i f) ∧ (0 : Int) = ruT v0 v1 v2 v3l v3f v4 ∧ (2 : Int) = ruE v0 v1 v2 v3l v3f v4 ∧ True) ∧
    (¬ (¬ (v4 = v1)) →
      ∃ (I0 : (Int) → (Int) → Prop) (μ0 : (Int) → (Int) → Nat), I0 (0 : Int) (0 : Int) ∧ (∀ (v6 : Int) (v7 : Int), I0 v6 v7 →
        (v7 < v4 →
          0 ≤ v7 ∧ (0 ≤ v7 →
          (-9223372036854775808 ≤ (v6 + (v3l v7)) ∧ (v6 + (v3l v7)) ≤ 9223372036854775807) ∧ ((-9223372036854775808 ≤ (v6 + (v3l v7)) ∧ (v6 + (v3l v7)) ≤ 9223372036854775807) →
          ∃ (I1 : (Int) → Prop) (μ1 : (Int) → Nat), I1 (0 : Int) ∧ (∀ (v8 : Int), I1 v8 →
            (0 ≤ (v3l v7) →
            ((v3l v7) ≤ 9223372036854775807 →
            (v8 < (v3l v7) →
              0 ≤ v8 ∧ (0 ≤ v8 →
              ((((rowA v3f v7) v8 0) < 1 ∨ 32767 < ((rowA v3f v7) v8 0)) →
                (0 : Int) = ruK v0 v1 v2 v3l v3f v4 ∧ (∀ (i : Int) (f : Nat), 0 ≤ i → i < ruK v0 v1 v2 v3l v3f v4 → f < 1 → zA i f = ruO v0 v1 v2 v3l v3f v4 i f) ∧ (0 : Int) = ruN v0 v1 v2 v3l v3f v4 v1 ∧ (∀ (i : Int) (f : Nat), 0 ≤ i → i < ruN v0 v1 v2 v3l v3f v4 v1 → f < 2 → zA i f = ruA v0 v1 v2 v3l v3f v4 i f) ∧ (0 : Int) = ruT v0 v1 v2 v3l v3f v4 ∧ (2 : Int) = ruE v0 v1 v2 v3l v3f v4 ∧ True) ∧
              (¬ ((((rowA v3f v7) v8 0) < 1 ∨ 32767 < ((rowA v3f v7) v8 0))) →
                (-9223372036854775808 ≤ (v8 + 1) ∧ (v8 + 1) ≤ 9223372036854775807) ∧ ((-9223372036854775808 ≤ (v8 + 1) ∧ (v8 + 1) ≤ 9223372036854775807) →
                I1 (v8 + 1) ∧ μ1 (v8 + 1) < μ1 v8)))) ∧
            (¬ (v8 < (v3l v7)) →
              (-9223372036854775808 ≤ (v7 + 1) ∧ (v7 + 1) ≤ 9223372036854775807) ∧ ((-9223372036854775808 ≤ (v7 + 1) ∧ (v7 + 1) ≤ 9223372036854775807) →
              I0 (v6 + (v3l v7)) (v7 + 1) ∧ μ0 (v6 + (v3l v7)) (v7 + 1) < μ0 v6 v7)))))))) ∧
        (¬ (v7 < v4) →
          (10000 < v6 →
            (0 : Int) = ruK v0 v1 v2 v3l v3f v4 ∧ (∀ (i : Int) (f : Nat), 0 ≤ i → i < ruK v0 v1 v2 v3l v3f v4 → f < 1 → zA i f = ruO v0 v1 v2 v3l v3f v4 i f) ∧ (0 : Int) = ruN v0 v1 v2 v3l v3f v4 v1 ∧ (∀ (i : Int) (f : Nat), 0 ≤ i → i < ruN v0 v1 v2 v3l v3f v4 v1 → f < 2 → zA i f = ruA v0 v1 v2 v3l v3f v4 i f) ∧ (0 : Int) = ruT v0 v1 v2 v3l v3f v4 ∧ (2 : Int) = ruE v0 v1 v2 v3l v3f v4 ∧ True) ∧
          (¬ (10000 < v6) →
            (v4 * 8) ≤ 140737488355328 ∧ ((v4 * 8) ≤ 140737488355328 →
            (v1 ≤ 40) ∧ (∀ (v8 : Int → Nat → Int) (v9 : Int) (v10 : Int), v8 = v0 → v9 = v1 → v10 = v2 → 
            (0 ≤ v9 →
            ∃ (I1 : (Int → Nat → Int) → (Int) → (Int) → (Int → Nat → Int) → (Int → Nat → Int) → (Int) → (Int → Nat → Int) → Prop) (μ1 : (Int → Nat → Int) → (Int) → (Int) → (Int → Nat → Int) → (Int → Nat → Int) → (Int) → (Int → Nat → Int) → Nat), I1 v8 v9 v10 zA zA (0 : Int) zA ∧ (∀ (v11 : Int → Nat → Int) (v12 : Int) (v13 : Int) (v14 : Int → Nat → Int) (v15 : Int → Nat → Int) (v16 : Int) (v17 : Int → Nat → Int), I1 v11 v12 v13 v14 v15 v16 v17 →
              (0 ≤ v12 →
              (v12 ≤ 9223372036854775807 →
              (0 ≤ v16 →
              (v16 ≤ 9223372036854775807 →
              (v16 < v6 →
                0 ≤ v13 ∧ (0 ≤ v13 →
                v13 < v4 ∧ (v13 < v4 →
                (v12 ≤ 40 ∧ 0 ≤ v13 ∧ v13 < v12 ∧ okS v11 v12) ∧ (∀ (v18 : Int → Nat → Int) (v19 : Int) (v20 : Int) (v21 : Bool), v18 = stA (decide ((v17 v13 0) < (v3l v13))) v11 v13 → v19 = v12 → v20 = stT (decide ((v17 v13 0) < (v3l v13))) v11 v12 v13 → v21 = cho (decide ((v17 v13 0) < (v3l v13))) v11 v13 → 
                (0 ≤ v19 →
                (v19 ≤ 9223372036854775807 →
                (0 ≤ (v3l v13) →
                ((v3l v13) ≤ 9223372036854775807 →
                (v21 = true →
                  v13 < v19 ∧ (v13 < v19 →
                  0 ≤ (v17 v13 0) ∧ (0 ≤ (v17 v13 0) →
                  (v17 v13 0) < (v3l v13) ∧ ((v17 v13 0) < (v3l v13) →
                  (-9223372036854775808 ≤ ((v18 v13 1) - ((rowA v3f v13) (v17 v13 0) 0)) ∧ ((v18 v13 1) - ((rowA v3f v13) (v17 v13 0) 0)) ≤ 9223372036854775807) ∧ ((-9223372036854775808 ≤ ((v18 v13 1) - ((rowA v3f v13) (v17 v13 0) 0)) ∧ ((v18 v13 1) - ((rowA v3f v13) (v17 v13 0) 0)) ≤ 9223372036854775807) →
                  (-9223372036854775808 ≤ ((v17 v13 0) + 1) ∧ ((v17 v13 0) + 1) ≤ 9223372036854775807) ∧ ((-9223372036854775808 ≤ ((v17 v13 0) + 1) ∧ ((v17 v13 0) + 1) ≤ 9223372036854775807) →
                  ((v16 + 1) * 8) ≤ 140737488355328 ∧ (((v16 + 1) * 8) ≤ 140737488355328 →
                  (v16 + 1) ≤ 140737488355328 ∧ ((v16 + 1) ≤ 140737488355328 →
                  I1 (setA v18 v13 1 ((v18 v13 1) - ((rowA v3f v13) (v17 v13 0) 0))) v19 v20 (setA v17 v13 0 ((v17 v13 0) + 1)) (appA v15 v16 (setA zA 0 0 v13)) (v16 + 1) (setA v17 v13 0 ((v17 v13 0) + 1)) ∧ μ1 (setA v18 v13 1 ((v18 v13 1) - ((rowA v3f v13) (v17 v13 0) 0))) v19 v20 (setA v17 v13 0 ((v17 v13 0) + 1)) (appA v15 v16 (setA zA 0 0 v13)) (v16 + 1) (setA v17 v13 0 ((v17 v13 0) + 1)) < μ1 v11 v12 v13 v14 v15 v16 v17)))))))) ∧
                (¬ (v21 = true) →
                  I1 v18 v19 v20 v17 v15 v16 v17 ∧ μ1 v18 v19 v20 v17 v15 v16 v17 < μ1 v11 v12 v13 v14 v15 v16 v17))))))))) ∧
              (¬ (v16 < v6) →
                v16 = ruK v0 v1 v2 v3l v3f v4 ∧ (∀ (i : Int) (f : Nat), 0 ≤ i → i < ruK v0 v1 v2 v3l v3f v4 → f < 1 → v15 i f = ruO v0 v1 v2 v3l v3f v4 i f) ∧ v12 = ruN v0 v1 v2 v3l v3f v4 v1 ∧ (∀ (i : Int) (f : Nat), 0 ≤ i → i < ruN v0 v1 v2 v3l v3f v4 v1 → f < 2 → v11 i f = ruA v0 v1 v2 v3l v3f v4 i f) ∧ v13 = ruT v0 v1 v2 v3l v3f v4 ∧ (0 : Int) = ruE v0 v1 v2 v3l v3f v4 ∧ True)))))))))))))))))))
theorem vh12 (h : VC12) : VH12 := by
  unfold VH12
  rw [hidF_eq cho, hidF_eq ckA, hidF_eq ruA, hidF_eq ruE, hidF_eq ruK, hidF_eq ruN, hidF_eq ruO, hidF_eq ruT, hidF_eq stA, hidF_eq stT]
  exact h
end Go.Proofs.Ytccmgepknjkakaa
