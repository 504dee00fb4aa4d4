/- What the functions do, and what is left to show of each. -/
import Derived.Test.YtiiebpfifkaleaaC
set_option linter.unusedVariables false
namespace Go.Proofs.Ytiiebpfifkaleaa
open Go Go.RowKit Go.Proofs.Ytiiebpfifkaleaa.Vc
/-! hotspotlaw10.RadioMoves -/
def sig4 : CSig := ⟨[⟨true, [.slc [.int .i64, .int .i64, .int .i64, .int .i64], .mat [.int .i64]]⟩, ⟨false, [.int .i64]⟩, ⟨false, [.int .i64]⟩, ⟨false, [.int .i64]⟩, ⟨false, [.int .i64]⟩], [⟨false, [.bool]⟩]⟩
def pre4 : List AV → Prop
  | [.a v0, .i v1, .m v2l v2f, .i v3, .i v4, .i v5, .i v6, .i v7] => ∀ t : Int, 0 ≤ t → t < v3 → 0 ≤ v2l t
  | _ => False
noncomputable def raw4 : List AV → List AV
  | [.a v0, .i v1, .m v2l v2f, .i v3, .i v4, .i v5, .i v6, .i v7] => [.b (true)]
  | _ => []

def VH4 : Prop :=
  ∀ (v0 : Int → Nat → Int) (v1 : Int) (v2l : Int → Int) (v2f : Int → Int → Nat → Int) (v3 : Int) (v4 : Int) (v5 : Int) (v6 : Int) (v7 : Int),
  (∀ t : Int, 0 ≤ t → t < v3 → 0 ≤ v2l t) →
  (0 ≤ v1 →
  (0 ≤ v3 →
  (True) ∧ (∀ (v8 : Bool), v8 = (hidF grW) v1 v2l v3 → 
  (v1 ≤ 9223372036854775807 →
  (v3 ≤ 9223372036854775807 →
  (v8 = true →
    (True ↔ true = true) ∧ True) ∧
  (¬ (v8 = true) →
    (smallW v1 v2l v3) ∧ (∀ (v9 : Int → Nat → Int) (v10 : Int) (v11l : Int → Int) (v11f : Int → Int → Nat → Int) (v12 : Int), v9 = v0 → v10 = v1 → v11l = v2l → v11f = v2f → v12 = v3 → 
    (0 ≤ v10 →
    (0 ≤ v12 →
    (True) ∧ (∀ (v13 : Int → Nat → Int) (v14 : Int) (v15l : Int → Int) (v15f : Int → Int → Nat → Int) (v16 : Int) (v17 : Int), v13 = (hidF puA) v9 v4 v5 v6 (v9 v4 2) (v9 v4 3) → v14 = (hidF mvN) v9 v10 v11l v11f v12 v4 v5 v6 (v9 v4 2) (v9 v4 3) v10 → v15l = v11l → v15f = v11f → v16 = (hidF mvN) v9 v10 v11l v11f v12 v4 v5 v6 (v9 v4 2) (v9 v4 3) v12 → v17 = (hidF mvE) v9 v10 v11l v11f v12 v4 v5 v6 (v9 v4 2) (v9 v4 3) → 
    (v10 ≤ 9223372036854775807 →
    (v12 ≤ 9223372036854775807 →
    (0 ≤ v14 →
    (0 ≤ v16 →
    (True) ∧ (∀ (v18 : Int → Nat → Int) (v19 : Int) (v20l : Int → Int) (v20f : Int → Int → Nat → Int) (v21 : Int) (v22 : Int), v18 = (hidF puA) v0 v4 v5 v6 (v0 v4 2) (v0 v4 3) → v19 = (hidF mvN) v0 v1 v2l v2f v3 v4 v5 v6 (v0 v4 2) (v0 v4 3) v1 → v20l = v2l → v20f = v2f → v21 = (hidF mvN) v0 v1 v2l v2f v3 v4 v5 v6 (v0 v4 2) (v0 v4 3) v3 → v22 = (hidF mvE) v0 v1 v2l v2f v3 v4 v5 v6 (v0 v4 2) (v0 v4 3) → 
    (v14 ≤ 9223372036854775807 →
    (v16 ≤ 9223372036854775807 →
    (0 ≤ v19 →
    (0 ≤ v21 →
    (True) ∧ (∀ (v23 : Int → Nat → Int) (v24 : Int) (v25l : Int → Int) (v25f : Int → Int → Nat → Int) (v26 : Int) (v27 : Int), v23 = (hidF puA) v9 v4 (v9 v4 0) (v9 v4 1) (v9 v4 2) v7 → v24 = (hidF mvN) v9 v10 v11l v11f v12 v4 (v9 v4 0) (v9 v4 1) (v9 v4 2) v7 v10 → v25l = v11l → v25f = v11f → v26 = (hidF mvN) v9 v10 v11l v11f v12 v4 (v9 v4 0) (v9 v4 1) (v9 v4 2) v7 v12 → v27 = (hidF mvE) v9 v10 v11l v11f v12 v4 (v9 v4 0) (v9 v4 1) (v9 v4 2) v7 → 
    (v19 ≤ 9223372036854775807 →
    (v21 ≤ 9223372036854775807 →
    (0 ≤ v24 →
    (0 ≤ v26 →
    (True) ∧ (∀ (v28 : Int → Nat → Int) (v29 : Int) (v30l : Int → Int) (v30f : Int → Int → Nat → Int) (v31 : Int) (v32 : Int), v28 = (hidF puA) v0 v4 (v0 v4 0) (v0 v4 1) (v0 v4 2) v7 → v29 = (hidF mvN) v0 v1 v2l v2f v3 v4 (v0 v4 0) (v0 v4 1) (v0 v4 2) v7 v1 → v30l = v2l → v30f = v2f → v31 = (hidF mvN) v0 v1 v2l v2f v3 v4 (v0 v4 0) (v0 v4 1) (v0 v4 2) v7 v3 → v32 = (hidF mvE) v0 v1 v2l v2f v3 v4 (v0 v4 0) (v0 v4 1) (v0 v4 2) v7 → 
    (v24 ≤ 9223372036854775807 →
    (v26 ≤ 9223372036854775807 →
    (0 ≤ v29 →
    (0 ≤ v31 →
    (True) ∧ (∀ (v33 : Bool), v33 = (hidF smW) v13 v14 v15l v15f v16 v18 v19 v20l v20f v21 → 
    (v29 ≤ 9223372036854775807 →
    (v31 ≤ 9223372036854775807 →
    (((v33 = true ∧ v17 = v22) → True)) ∧ (∀ (v34 : Bool), v34 = (hidF smW) v23 v24 v25l v25f v26 v28 v29 v30l v30f v31 → 
    ∃ (I0 : (Int → Nat → Int) → (Int) → Prop) (μ0 : (Int → Nat → Int) → (Int) → Nat), I0 v13 (0 : Int) ∧ (∀ (v35 : Int → Nat → Int) (v36 : Int), I0 v35 v36 →
      (v36 < v14 →
        0 ≤ v36 ∧ (0 ≤ v36 →
        (-9223372036854775808 ≤ (v36 + 1) ∧ (v36 + 1) ≤ 9223372036854775807) ∧ ((-9223372036854775808 ≤ (v36 + 1) ∧ (v36 + 1) ≤ 9223372036854775807) →
        I0 (setA v35 v36 0 (-77777)) (v36 + 1) ∧ μ0 (setA v35 v36 0 (-77777)) (v36 + 1) < μ0 v35 v36))) ∧
      (¬ (v36 < v14) →
        ∃ (I1 : (Int → Int) → (Int → Int → Nat → Int) → (Int) → Prop) (μ1 : (Int → Int) → (Int → Int → Nat → Int) → (Int) → Nat), I1 v15l v15f (0 : Int) ∧ (∀ (v37l : Int → Int) (v37f : Int → Int → Nat → Int) (v38 : Int), I1 v37l v37f v38 →
          (v38 < v16 →
            ∃ (I2 : (Int → Int) → (Int → Int → Nat → Int) → (Int) → Prop) (μ2 : (Int → Int) → (Int → Int → Nat → Int) → (Int) → Nat), I2 v37l v37f (0 : Int) ∧ (∀ (v39l : Int → Int) (v39f : Int → Int → Nat → Int) (v40 : Int), I2 v39l v39f v40 →
              0 ≤ v38 ∧ (0 ≤ v38 →
              (0 ≤ (v39l v38) →
              ((v39l v38) ≤ 9223372036854775807 →
              (v40 < (v39l v38) →
                0 ≤ v40 ∧ (0 ≤ v40 →
                (-9223372036854775808 ≤ (v40 + 1) ∧ (v40 + 1) ≤ 9223372036854775807) ∧ ((-9223372036854775808 ≤ (v40 + 1) ∧ (v40 + 1) ≤ 9223372036854775807) →
                I2 (srL v39l v38 (v39l v38)) (srF v39f v38 (setA (rowA v39f v38) v40 0 (-77777))) (v40 + 1) ∧ μ2 (srL v39l v38 (v39l v38)) (srF v39f v38 (setA (rowA v39f v38) v40 0 (-77777))) (v40 + 1) < μ2 v39l v39f v40))) ∧
              (¬ (v40 < (v39l v38)) →
                (-9223372036854775808 ≤ (v38 + 1) ∧ (v38 + 1) ≤ 9223372036854775807) ∧ ((-9223372036854775808 ≤ (v38 + 1) ∧ (v38 + 1) ≤ 9223372036854775807) →
                I1 v39l v39f (v38 + 1) ∧ μ1 v39l v39f (v38 + 1) < μ1 v37l v37f v38))))))) ∧
          (¬ (v38 < v16) →
            ∃ (I2 : (Int → Nat → Int) → (Int) → Prop) (μ2 : (Int → Nat → Int) → (Int) → Nat), I2 v23 (0 : Int) ∧ (∀ (v39 : Int → Nat → Int) (v40 : Int), I2 v39 v40 →
              (v40 < v24 →
                0 ≤ v40 ∧ (0 ≤ v40 →
                (-9223372036854775808 ≤ (v40 + 1) ∧ (v40 + 1) ≤ 9223372036854775807) ∧ ((-9223372036854775808 ≤ (v40 + 1) ∧ (v40 + 1) ≤ 9223372036854775807) →
                I2 (setA v39 v40 0 (-77777)) (v40 + 1) ∧ μ2 (setA v39 v40 0 (-77777)) (v40 + 1) < μ2 v39 v40))) ∧
              (¬ (v40 < v24) →
                ∃ (I3 : (Int → Int) → (Int → Int → Nat → Int) → (Int) → Prop) (μ3 : (Int → Int) → (Int → Int → Nat → Int) → (Int) → Nat), I3 v25l v25f (0 : Int) ∧ (∀ (v41l : Int → Int) (v41f : Int → Int → Nat → Int) (v42 : Int), I3 v41l v41f v42 →
                  (v42 < v26 →
                    ∃ (I4 : (Int → Int) → (Int → Int → Nat → Int) → (Int) → Prop) (μ4 : (Int → Int) → (Int → Int → Nat → Int) → (Int) → Nat), I4 v41l v41f (0 : Int) ∧ (∀ (v43l : Int → Int) (v43f : Int → Int → Nat → Int) (v44 : Int), I4 v43l v43f v44 →
                      0 ≤ v42 ∧ (0 ≤ v42 →
                      (0 ≤ (v43l v42) →
                      ((v43l v42) ≤ 9223372036854775807 →
                      (v44 < (v43l v42) →
                        0 ≤ v44 ∧ (0 ≤ v44 →
                        (-9223372036854775808 ≤ (v44 + 1) ∧ (v44 + 1) ≤ 9223372036854775807) ∧ ((-9223372036854775808 ≤ (v44 + 1) ∧ (v44 + 1) ≤ 9223372036854775807) →
                        I4 (srL v43l v42 (v43l v42)) (srF v43f v42 (setA (rowA v43f v42) v44 0 (-77777))) (v44 + 1) ∧ μ4 (srL v43l v42 (v43l v42)) (srF v43f v42 (setA (rowA v43f v42) v44 0 (-77777))) (v44 + 1) < μ4 v43l v43f v44))) ∧
                      (¬ (v44 < (v43l v42)) →
                        (-9223372036854775808 ≤ (v42 + 1) ∧ (v42 + 1) ≤ 9223372036854775807) ∧ ((-9223372036854775808 ≤ (v42 + 1) ∧ (v42 + 1) ≤ 9223372036854775807) →
                        I3 v43l v43f (v42 + 1) ∧ μ3 v43l v43f (v42 + 1) < μ3 v41l v41f v42))))))) ∧
                  (¬ (v42 < v26) →
                    (((((v33 = true ∧ v17 = v22) ∧ v34 = true) ∧ v27 = v32) → True)) ∧ (∀ (v43 : Bool), v43 = (hidF smW) v9 v10 v11l v11f v12 v0 v1 v2l v2f v3 → 
                    (((((v33 = true ∧ v17 = v22) ∧ v34 = true) ∧ v27 = v32) ∧ v43 = true) ↔ true = true) ∧ True))))))))))))))))))))))))))))))))))))))))))
def VC4 : Prop :=
  ∀ (v0 : Int → Nat → Int) (v1 : Int) (v2l : Int → Int) (v2f : Int → Int → Nat → Int) (v3 : Int) (v4 : Int) (v5 : Int) (v6 : Int) (v7 : Int),
  (∀ t : Int, 0 ≤ t → t < v3 → 0 ≤ v2l t) →
  (0 ≤ v1 →
  (0 ≤ v3 →
  (True) ∧ (∀ (v8 : Bool), v8 = grW v1 v2l v3 → 
  (v1 ≤ 9223372036854775807 →
  (v3 ≤ 9223372036854775807 →
  (v8 = true →
    (True ↔ true = true) ∧ True) ∧
  (¬ (v8 = true) →
    (smallW v1 v2l v3) ∧ (∀ (v9 : Int → Nat → Int) (v10 : Int) (v11l : Int → Int) (v11f : Int → Int → Nat → Int) (v12 : Int), v9 = v0 → v10 = v1 → v11l = v2l → v11f = v2f → v12 = v3 → 
    (0 ≤ v10 →
    (0 ≤ v12 →
    (True) ∧ (∀ (v13 : Int → Nat → Int) (v14 : Int) (v15l : Int → Int) (v15f : Int → Int → Nat → Int) (v16 : Int) (v17 : Int), v13 = puA v9 v4 v5 v6 (v9 v4 2) (v9 v4 3) → v14 = mvN v9 v10 v11l v11f v12 v4 v5 v6 (v9 v4 2) (v9 v4 3) v10 → v15l = v11l → v15f = v11f → v16 = mvN v9 v10 v11l v11f v12 v4 v5 v6 (v9 v4 2) (v9 v4 3) v12 → v17 = mvE v9 v10 v11l v11f v12 v4 v5 v6 (v9 v4 2) (v9 v4 3) → 
    (v10 ≤ 9223372036854775807 →
    (v12 ≤ 9223372036854775807 →
    (0 ≤ v14 →
    (0 ≤ v16 →
    (True) ∧ (∀ (v18 : Int → Nat → Int) (v19 : Int) (v20l : Int → Int) (v20f : Int → Int → Nat → Int) (v21 : Int) (v22 : Int), v18 = puA v0 v4 v5 v6 (v0 v4 2) (v0 v4 3) → v19 = mvN v0 v1 v2l v2f v3 v4 v5 v6 (v0 v4 2) (v0 v4 3) v1 → v20l = v2l → v20f = v2f → v21 = mvN v0 v1 v2l v2f v3 v4 v5 v6 (v0 v4 2) (v0 v4 3) v3 → v22 = mvE v0 v1 v2l v2f v3 v4 v5 v6 (v0 v4 2) (v0 v4 3) → 
    (v14 ≤ 9223372036854775807 →
    (v16 ≤ 9223372036854775807 →
    (0 ≤ v19 →
    (0 ≤ v21 →
    (True) ∧ (∀ (v23 : Int → Nat → Int) (v24 : Int) (v25l : Int → Int) (v25f : Int → Int → Nat → Int) (v26 : Int) (v27 : Int), v23 = puA v9 v4 (v9 v4 0) (v9 v4 1) (v9 v4 2) v7 → v24 = mvN v9 v10 v11l v11f v12 v4 (v9 v4 0) (v9 v4 1) (v9 v4 2) v7 v10 → v25l = v11l → v25f = v11f → v26 = mvN v9 v10 v11l v11f v12 v4 (v9 v4 0) (v9 v4 1) (v9 v4 2) v7 v12 → v27 = mvE v9 v10 v11l v11f v12 v4 (v9 v4 0) (v9 v4 1) (v9 v4 2) v7 → 
    (v19 ≤ 9223372036854775807 →
    (v21 ≤ 9223372036854775807 →
    (0 ≤ v24 →
    (0 ≤ v26 →
    (True) ∧ (∀ (v28 : Int → Nat → Int) (v29 : Int) (v30l : Int → Int) (v30f : Int → Int → Nat → Int) (v31 : Int) (v32 : Int), v28 = puA v0 v4 (v0 v4 0) (v0 v4 1) (v0 v4 2) v7 → v29 = mvN v0 v1 v2l v2f v3 v4 (v0 v4 0) (v0 v4 1) (v0 v4 2) v7 v1 → v30l = v2l → v30f = v2f → v31 = mvN v0 v1 v2l v2f v3 v4 (v0 v4 0) (v0 v4 1) (v0 v4 2) v7 v3 → v32 = mvE v0 v1 v2l v2f v3 v4 (v0 v4 0) (v0 v4 1) (v0 v4 2) v7 → 
    (v24 ≤ 9223372036854775807 →
    (v26 ≤ 9223372036854775807 →
    (0 ≤ v29 →
    (0 ≤ v31 →
    (True) ∧ (∀ (v33 : Bool), v33 = smW v13 v14 v15l v15f v16 v18 v19 v20l v20f v21 → 
    (v29 ≤ 9223372036854775807 →
    (v31 ≤ 9223372036854775807 →
    (((v33 = true ∧ v17 = v22) → True)) ∧ (∀ (v34 : Bool), v34 = smW v23 v24 v25l v25f v26 v28 v29 v30l v30f v31 → 
    ∃ (I0 : (Int → Nat → Int) → (Int) → Prop) (μ0 : (Int → Nat → Int) → (Int) → Nat), I0 v13 (0 : Int) ∧ (∀ (v35 : Int → Nat → Int) (v36 : Int), I0 v35 v36 →
      (v36 < v14 →
        0 ≤ v36 ∧ (0 ≤ v36 →
        (-9223372036854775808 ≤ (v36 + 1) ∧ (v36 + 1) ≤ 9223372036854775807) ∧ ((-9223372036854775808 ≤ (v36 + 1) ∧ (v36 + 1) ≤ 9223372036854775807) →
        I0 (setA v35 v36 0 (-77777)) (v36 + 1) ∧ μ0 (setA v35 v36 0 (-77777)) (v36 + 1) < μ0 v35 v36))) ∧
      (¬ (v36 < v14) →
        ∃ (I1 : (Int → Int) → (Int → Int → Nat → Int) → (Int) → Prop) (μ1 : (Int → Int) → (Int → Int → Nat → Int) → (Int) → Nat), I1 v15l v15f (0 : Int) ∧ (∀ (v37l : Int → Int) (v37f : Int → Int → Nat → Int) (v38 : Int), I1 v37l v37f v38 →
          (v38 < v16 →
            ∃ (I2 : (Int → Int) → (Int → Int → Nat → Int) → (Int) → Prop) (μ2 : (Int → Int) → (Int → Int → Nat → Int) → (Int) → Nat), I2 v37l v37f (0 : Int) ∧ (∀ (v39l : Int → Int) (v39f : Int → Int → Nat → Int) (v40 : Int), I2 v39l v39f v40 →
              0 ≤ v38 ∧ (0 ≤ v38 →
              (0 ≤ (v39l v38) →
              ((v39l v38) ≤ 9223372036854775807 →
              (v40 < (v39l v38) →
                0 ≤ v40 ∧ (0 ≤ v40 →
                (-9223372036854775808 ≤ (v40 + 1) ∧ (v40 + 1) ≤ 9223372036854775807) ∧ ((-9223372036854775808 ≤ (v40 + 1) ∧ (v40 + 1) ≤ 9223372036854775807) →
                I2 (srL v39l v38 (v39l v38)) (srF v39f v38 (setA (rowA v39f v38) v40 0 (-77777))) (v40 + 1) ∧ μ2 (srL v39l v38 (v39l v38)) (srF v39f v38 (setA (rowA v39f v38) v40 0 (-77777))) (v40 + 1) < μ2 v39l v39f v40))) ∧
              (¬ (v40 < (v39l v38)) →
                (-9223372036854775808 ≤ (v38 + 1) ∧ (v38 + 1) ≤ 9223372036854775807) ∧ ((-9223372036854775808 ≤ (v38 + 1) ∧ (v38 + 1) ≤ 9223372036854775807) →
                I1 v39l v39f (v38 + 1) ∧ μ1 v39l v39f (v38 + 1) < μ1 v37l v37f v38))))))) ∧
          (¬ (v38 < v16) →
            ∃ (I2 : (Int → Nat → Int) → (Int) → Prop) (μ2 : (Int → Nat → Int) → (Int) → Nat), I2 v23 (0 : Int) ∧ (∀ (v39 : Int → Nat → Int) (v40 : Int), I2 v39 v40 →
              (v40 < v24 →
                0 ≤ v40 ∧ (0 ≤ v40 →
                (-9223372036854775808 ≤ (v40 + 1) ∧ (v40 + 1) ≤ 9223372036854775807) ∧ ((-9223372036854775808 ≤ (v40 + 1) ∧ (v40 + 1) ≤ 9223372036854775807) →
                I2 (setA v39 v40 0 (-77777)) (v40 + 1) ∧ μ2 (setA v39 v40 0 (-77777)) (v40 + 1) < μ2 v39 v40))) ∧
              (¬ (v40 < v24) →
                ∃ (I3 : (Int → Int) → (Int → Int → Nat → Int) → (Int) → Prop) (μ3 : (Int → Int) → (Int → Int → Nat → Int) → (Int) → Nat), I3 v25l v25f (0 : Int) ∧ (∀ (v41l : Int → Int) (v41f : Int → Int → Nat → Int) (v42 : Int), I3 v41l v41f v42 →
                  (v42 < v26 →
                    ∃ (I4 : (Int → Int) → (Int → Int → Nat → Int) → (Int) → Prop) (μ4 : (Int → Int) → (Int → Int → Nat → Int) → (Int) → Nat), I4 v41l v41f (0 : Int) ∧ (∀ (v43l : Int → Int) (v43f : Int → Int → Nat → Int) (v44 : Int), I4 v43l v43f v44 →
                      0 ≤ v42 ∧ (0 ≤ v42 →
                      (0 ≤ (v43l v42) →
                      ((v43l v42) ≤ 9223372036854775807 →
                      (v44 < (v43l v42) →
                        0 ≤ v44 ∧ (0 ≤ v44 →
                        (-9223372036854775808 ≤ (v44 + 1) ∧ (v44 + 1) ≤ 9223372036854775807) ∧ ((-9223372036854775808 ≤ (v44 + 1) ∧ (v44 + 1) ≤ 9223372036854775807) →
                        I4 (srL v43l v42 (v43l v42)) (srF v43f v42 (setA (rowA v43f v42) v44 0 (-77777))) (v44 + 1) ∧ μ4 (srL v43l v42 (v43l v42)) (srF v43f v42 (setA (rowA v43f v42) v44 0 (-77777))) (v44 + 1) < μ4 v43l v43f v44))) ∧
                      (¬ (v44 < (v43l v42)) →
                        (-9223372036854775808 ≤ (v42 + 1) ∧ (v42 + 1) ≤ 9223372036854775807) ∧ ((-9223372036854775808 ≤ (v42 + 1) ∧ (v42 + 1) ≤ 9223372036854775807) →
                        I3 v43l v43f (v42 + 1) ∧ μ3 v43l v43f (v42 + 1) < μ3 v41l v41f v42))))))) ∧
                  (¬ (v42 < v26) →
                    (((((v33 = true ∧ v17 = v22) ∧ v34 = true) ∧ v27 = v32) → True)) ∧ (∀ (v43 : Bool), v43 = smW v9 v10 v11l v11f v12 v0 v1 v2l v2f v3 → 
                    (((((v33 = true ∧ v17 = v22) ∧ v34 = true) ∧ v27 = v32) ∧ v43 = true) ↔ true = true) ∧ True))))))))))))))))))))))))))))))))))))))))))
theorem vh4 (h : VC4) : VH4 := by
  unfold VH4
  rw [hidF_eq grW, hidF_eq mvE, hidF_eq mvN, hidF_eq puA, hidF_eq smW]
  exact h
end Go.Proofs.Ytiiebpfifkaleaa
