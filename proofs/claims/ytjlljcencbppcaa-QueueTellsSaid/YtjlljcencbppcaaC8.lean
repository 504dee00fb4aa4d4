/- What the functions do, and what is left to show of each. -/
import Derived.Test.YtjlljcencbppcaaC
set_option linter.unusedVariables false
namespace Go.Proofs.Ytjlljcencbppcaa
open Go Go.RowKit Go.Proofs.Ytjlljcencbppcaa.Vc
/-! hotspotlaw43.QueueTells -/
def sig7 : CSig := ⟨[⟨true, [.slc [.int .i64, .int .i64, .int .i64], .int .i64, .int .i64]⟩, ⟨false, [.int .i64]⟩, ⟨false, [.int .i64]⟩, ⟨false, [.int .i64]⟩, ⟨false, [.int .i64]⟩], [⟨false, [.bool]⟩]⟩
def pre7 : List AV → Prop
  | [.a v0, .i v1, .i v2, .i v3, .i v4, .i v5, .i v6, .i v7] => True
  | _ => False
noncomputable def raw7 : List AV → List AV
  | [.a v0, .i v1, .i v2, .i v3, .i v4, .i v5, .i v6, .i v7] => [.b (true)]
  | _ => []

def VH7 : Prop :=
  ∀ (v0 : Int → Nat → Int) (v1 : Int) (v2 : Int) (v3 : Int) (v4 : Int) (v5 : Int) (v6 : Int) (v7 : Int),
  (True) →
  (0 ≤ v1 →
  (v1 ≤ 9223372036854775807 →
  (300 < v1 →
    (True ↔ true = true) ∧ True) ∧
  (¬ (300 < v1) →
    (v1 * 24) ≤ 140737488355328 ∧ ((v1 * 24) ≤ 140737488355328 →
    v1 ≤ 140737488355328 ∧ (v1 ≤ 140737488355328 →
    (True) ∧ (∀ (v8 : Int → Nat → Int) (v9 : Int) (v10 : Int) (v11 : Int) (v12 : Int), v8 = (hidF puA) v0 v1 v4 v5 v6 → v9 = (hidF puN) v0 v1 v2 v3 v5 v6 → v10 = (hidF puU) v0 v1 v2 v3 v5 v6 → v11 = (hidF puK) v0 v1 v2 v3 v5 v6 → v12 = (hidF puE) v0 v1 v2 v3 v5 v6 → 
    (0 ≤ v9 →
    (True) ∧ (∀ (v13 : Int → Nat → Int) (v14 : Int) (v15 : Int) (v16 : Int) (v17 : Int), v13 = (hidF puA) v0 v1 v4 v5 v6 → v14 = (hidF puN) v0 v1 v2 v3 v5 v6 → v15 = (hidF puU) v0 v1 v2 v3 v5 v6 → v16 = (hidF puK) v0 v1 v2 v3 v5 v6 → v17 = (hidF puE) v0 v1 v2 v3 v5 v6 → 
    (v9 ≤ 9223372036854775807 →
    (0 ≤ v14 →
    (True) ∧ (∀ (v18 : Int → Nat → Int) (v19 : Int) (v20 : Int) (v21 : Int) (v22 : Int) (v23 : Int) (v24 : Int) (v25 : Bool) (v26 : Int → Nat → Int) (v27 : Int) (v28 : Int), v18 = shA v0 ((hidF tkD) v0 v1 v2 v3 v6 + 1) → v19 = (hidF tkN) v0 v1 v2 v3 v6 → v20 = (hidF tkU) v0 v1 v2 v3 v6 → v21 = (hidF tkK) v0 v1 v2 v3 v6 → v22 = (hidF tkI) v0 v1 v2 v3 v6 0 → v23 = (hidF tkI) v0 v1 v2 v3 v6 1 → v24 = (hidF tkI) v0 v1 v2 v3 v6 2 → v25 = decide ((hidF tkG) v0 v1 v2 v3 v6 = 1) → v26 = v0 → v27 = (hidF tkD) v0 v1 v2 v3 v6 → v28 = (hidF asE) v0 v1 v2 v3 v6 → 
    (v14 ≤ 9223372036854775807 →
    (0 ≤ v19 →
    (0 ≤ v27 →
    (True) ∧ (∀ (v29 : Int → Nat → Int) (v30 : Int) (v31 : Int) (v32 : Int) (v33 : Int → Nat → Int) (v34 : Int) (v35 : Int → Nat → Int) (v36 : Int) (v37 : Int), v29 = shA v0 ((hidF tkD) v0 v1 v2 v3 v6 + 1) → v30 = (hidF tkN) v0 v1 v2 v3 v6 → v31 = (hidF tkU) v0 v1 v2 v3 v6 → v32 = (hidF tkK) v0 v1 v2 v3 v6 → v33 = (fun _ f => (hidF tkI) v0 v1 v2 v3 v6 f) → v34 = (hidF tkG) v0 v1 v2 v3 v6 → v35 = v0 → v36 = (hidF tkD) v0 v1 v2 v3 v6 → v37 = (hidF asE) v0 v1 v2 v3 v6 → 
    (v19 ≤ 9223372036854775807 →
    (0 ≤ v30 →
    (0 ≤ v34 →
    (0 ≤ v36 →
    (v27 ≤ 9223372036854775807 →
    (True) ∧ (∀ (v38 : Int → Nat → Int) (v39 : Int) (v40 : Int) (v41 : Int) (v42 : Int → Nat → Int) (v43 : Int) (v44 : Int), v38 = shA v0 ((hidF agD) v0 v1 v6 v7) → v39 = (hidF agN) v0 v1 v2 v3 v6 v7 → v40 = (hidF agU) v0 v1 v2 v3 v6 v7 → v41 = (hidF agK) v0 v1 v2 v3 v6 v7 → v42 = v0 → v43 = (hidF agC) v0 v1 v2 v3 v6 v7 → v44 = (hidF agE) v0 v1 v2 v3 v6 v7 → 
    (v30 ≤ 9223372036854775807 →
    (0 ≤ v39 →
    (0 ≤ v43 →
    (v34 ≤ 9223372036854775807 →
    (v36 ≤ 9223372036854775807 →
    (True) ∧ (∀ (v45 : Int → Nat → Int) (v46 : Int) (v47 : Int) (v48 : Int) (v49 : Int → Nat → Int) (v50 : Int) (v51 : Int), v45 = shA v0 ((hidF agD) v0 v1 v6 v7) → v46 = (hidF agN) v0 v1 v2 v3 v6 v7 → v47 = (hidF agU) v0 v1 v2 v3 v6 v7 → v48 = (hidF agK) v0 v1 v2 v3 v6 v7 → v49 = v0 → v50 = (hidF agC) v0 v1 v2 v3 v6 v7 → v51 = (hidF agE) v0 v1 v2 v3 v6 v7 → 
    (v39 ≤ 9223372036854775807 →
    (0 ≤ v46 →
    (0 ≤ v50 →
    (v43 ≤ 9223372036854775807 →
    (True) ∧ (∀ (v52 : Int), v52 = (hidF ckQ) v0 v1 v2 v3 → 
    (True) ∧ (∀ (v53 : Int), v53 = (hidF ckQ) v0 v1 v2 v3 → 
    ((v52 = v53 → True)) ∧ (∀ (v54 : Bool), v54 = ((hidF smI) v8 v9 v13 v14 && decide (v10 = v15 ∧ v11 = v16)) → 
    (v46 ≤ 9223372036854775807 →
    (v50 ≤ 9223372036854775807 →
    ((((v52 = v53 ∧ v54 = true) ∧ v12 = v17) → True)) ∧ (∀ (v55 : Bool), v55 = ((hidF smI) v18 v19 v29 v30 && decide (v20 = v31 ∧ v21 = v32)) → 
    (¬ (((((((v52 = v53 ∧ v54 = true) ∧ v12 = v17) ∧ v55 = true) ∧ ((v25 = true ∧ v34 = 1) ∨ (¬ (v25 = true) ∧ ¬ (v34 = 1)))) ∧ ¬ ((¬ (v25 = true) ∧ (v22 = 0 ∧ (v23 = 0 ∧ v24 = 0))))) ∧ (v25 = true ∧ v34 = 1))) ∨ 0 < v34) ∧ ((¬ (((((((v52 = v53 ∧ v54 = true) ∧ v12 = v17) ∧ v55 = true) ∧ ((v25 = true ∧ v34 = 1) ∨ (¬ (v25 = true) ∧ ¬ (v34 = 1)))) ∧ ¬ ((¬ (v25 = true) ∧ (v22 = 0 ∧ (v23 = 0 ∧ v24 = 0))))) ∧ (v25 = true ∧ v34 = 1))) ∨ 0 < v34) →
    (¬ (((((((v52 = v53 ∧ v54 = true) ∧ v12 = v17) ∧ v55 = true) ∧ ((v25 = true ∧ v34 = 1) ∨ (¬ (v25 = true) ∧ ¬ (v34 = 1)))) ∧ ¬ ((¬ (v25 = true) ∧ (v22 = 0 ∧ (v23 = 0 ∧ v24 = 0))))) ∧ (v25 = true ∧ v34 = 1))) ∨ 0 < v34) ∧ ((¬ (((((((v52 = v53 ∧ v54 = true) ∧ v12 = v17) ∧ v55 = true) ∧ ((v25 = true ∧ v34 = 1) ∨ (¬ (v25 = true) ∧ ¬ (v34 = 1)))) ∧ ¬ ((¬ (v25 = true) ∧ (v22 = 0 ∧ (v23 = 0 ∧ v24 = 0))))) ∧ (v25 = true ∧ v34 = 1))) ∨ 0 < v34) →
    (((((((v52 = v53 ∧ v54 = true) ∧ v12 = v17) ∧ v55 = true) ∧ ((v25 = true ∧ v34 = 1) ∨ (¬ (v25 = true) ∧ ¬ (v34 = 1)))) ∧ ((¬ (v25 = true) ∧ (v22 = 0 ∧ (v23 = 0 ∧ v24 = 0))) ∨ ((v25 = true ∧ v34 = 1) ∧ (v22 = (v33 0 0) ∧ (v23 = (v33 0 1) ∧ v24 = (v33 0 2)))))) → True)) ∧ (∀ (v56 : Bool), v56 = (hidF smI) v26 v27 v35 v36 → 
    (((((((((v52 = v53 ∧ v54 = true) ∧ v12 = v17) ∧ v55 = true) ∧ ((v25 = true ∧ v34 = 1) ∨ (¬ (v25 = true) ∧ ¬ (v34 = 1)))) ∧ ((¬ (v25 = true) ∧ (v22 = 0 ∧ (v23 = 0 ∧ v24 = 0))) ∨ ((v25 = true ∧ v34 = 1) ∧ (v22 = (v33 0 0) ∧ (v23 = (v33 0 1) ∧ v24 = (v33 0 2)))))) ∧ v56 = true) ∧ v28 = v37) → True)) ∧ (∀ (v57 : Bool), v57 = ((hidF smI) v38 v39 v45 v46 && decide (v40 = v47 ∧ v41 = v48)) → 
    ((((((((((v52 = v53 ∧ v54 = true) ∧ v12 = v17) ∧ v55 = true) ∧ ((v25 = true ∧ v34 = 1) ∨ (¬ (v25 = true) ∧ ¬ (v34 = 1)))) ∧ ((¬ (v25 = true) ∧ (v22 = 0 ∧ (v23 = 0 ∧ v24 = 0))) ∨ ((v25 = true ∧ v34 = 1) ∧ (v22 = (v33 0 0) ∧ (v23 = (v33 0 1) ∧ v24 = (v33 0 2)))))) ∧ v56 = true) ∧ v28 = v37) ∧ v57 = true) → True)) ∧ (∀ (v58 : Bool), v58 = (hidF smI) v42 v43 v49 v50 → 
    ∃ (I0 : (Int) → (Int) → Prop) (μ0 : (Int) → (Int) → Nat), I0 (0 : Int) (0 : Int) ∧ (∀ (v59 : Int) (v60 : Int), I0 v59 v60 →
      (v60 < v1 →
        0 ≤ v60 ∧ (0 ≤ v60 →
        (-9223372036854775808 ≤ (v60 + 1) ∧ (v60 + 1) ≤ 9223372036854775807) ∧ ((-9223372036854775808 ≤ (v60 + 1) ∧ (v60 + 1) ≤ 9223372036854775807) →
        I0 (IntKind.wrap .i64 (v59 + (v0 v60 1))) (v60 + 1) ∧ μ0 (IntKind.wrap .i64 (v59 + (v0 v60 1))) (v60 + 1) < μ0 v59 v60))) ∧
      (¬ (v60 < v1) →
        (True) ∧ (∀ (v61 : Int) (v62 : Int), v61 = (hidF byS) v0 v1 v2 v3 → v62 = (hidF ckQ) v0 v1 v2 v3 → 
        (True) ∧ (∀ (v63 : Int), v63 = (hidF ckQ) v0 v1 v2 v3 → 
        (¬ (v63 = 0) →
          ∃ (I1 : (Int → Nat → Int) → (Int) → Prop) (μ1 : (Int → Nat → Int) → (Int) → Nat), I1 v8 (0 : Int) ∧ (∀ (v64 : Int → Nat → Int) (v65 : Int), I1 v64 v65 →
            (v65 < v9 →
              0 ≤ v65 ∧ (0 ≤ v65 →
              (-9223372036854775808 ≤ (v65 + 1) ∧ (v65 + 1) ≤ 9223372036854775807) ∧ ((-9223372036854775808 ≤ (v65 + 1) ∧ (v65 + 1) ≤ 9223372036854775807) →
              I1 (setA v64 v65 0 (-7777)) (v65 + 1) ∧ μ1 (setA v64 v65 0 (-7777)) (v65 + 1) < μ1 v64 v65))) ∧
            (¬ (v65 < v9) →
              ∃ (I2 : (Int → Nat → Int) → (Int) → Prop) (μ2 : (Int → Nat → Int) → (Int) → Nat), I2 v18 (0 : Int) ∧ (∀ (v66 : Int → Nat → Int) (v67 : Int), I2 v66 v67 →
                (v67 < v19 →
                  0 ≤ v67 ∧ (0 ≤ v67 →
                  (-9223372036854775808 ≤ (v67 + 1) ∧ (v67 + 1) ≤ 9223372036854775807) ∧ ((-9223372036854775808 ≤ (v67 + 1) ∧ (v67 + 1) ≤ 9223372036854775807) →
                  I2 (setA v66 v67 0 (-7777)) (v67 + 1) ∧ μ2 (setA v66 v67 0 (-7777)) (v67 + 1) < μ2 v66 v67))) ∧
                (¬ (v67 < v19) →
                  ∃ (I3 : (Int → Nat → Int) → (Int) → Prop) (μ3 : (Int → Nat → Int) → (Int) → Nat), I3 v26 (0 : Int) ∧ (∀ (v68 : Int → Nat → Int) (v69 : Int), I3 v68 v69 →
                    (v69 < v27 →
                      0 ≤ v69 ∧ (0 ≤ v69 →
                      (-9223372036854775808 ≤ (v69 + 1) ∧ (v69 + 1) ≤ 9223372036854775807) ∧ ((-9223372036854775808 ≤ (v69 + 1) ∧ (v69 + 1) ≤ 9223372036854775807) →
                      I3 (setA v68 v69 0 (-7777)) (v69 + 1) ∧ μ3 (setA v68 v69 0 (-7777)) (v69 + 1) < μ3 v68 v69))) ∧
                    (¬ (v69 < v27) →
                      ∃ (I4 : (Int → Nat → Int) → (Int) → Prop) (μ4 : (Int → Nat → Int) → (Int) → Nat), I4 v38 (0 : Int) ∧ (∀ (v70 : Int → Nat → Int) (v71 : Int), I4 v70 v71 →
                        (v71 < v39 →
                          0 ≤ v71 ∧ (0 ≤ v71 →
                          (-9223372036854775808 ≤ (v71 + 1) ∧ (v71 + 1) ≤ 9223372036854775807) ∧ ((-9223372036854775808 ≤ (v71 + 1) ∧ (v71 + 1) ≤ 9223372036854775807) →
                          I4 (setA v70 v71 0 (-7777)) (v71 + 1) ∧ μ4 (setA v70 v71 0 (-7777)) (v71 + 1) < μ4 v70 v71))) ∧
                        (¬ (v71 < v39) →
                          ∃ (I5 : (Int → Nat → Int) → (Int) → Prop) (μ5 : (Int → Nat → Int) → (Int) → Nat), I5 v42 (0 : Int) ∧ (∀ (v72 : Int → Nat → Int) (v73 : Int), I5 v72 v73 →
                            (v73 < v43 →
                              0 ≤ v73 ∧ (0 ≤ v73 →
                              (-9223372036854775808 ≤ (v73 + 1) ∧ (v73 + 1) ≤ 9223372036854775807) ∧ ((-9223372036854775808 ≤ (v73 + 1) ∧ (v73 + 1) ≤ 9223372036854775807) →
                              I5 (setA v72 v73 0 (-7777)) (v73 + 1) ∧ μ5 (setA v72 v73 0 (-7777)) (v73 + 1) < μ5 v72 v73))) ∧
                            (¬ (v73 < v43) →
                              (((((((((((((v52 = v53 ∧ v54 = true) ∧ v12 = v17) ∧ v55 = true) ∧ ((v25 = true ∧ v34 = 1) ∨ (¬ (v25 = true) ∧ ¬ (v34 = 1)))) ∧ ((¬ (v25 = true) ∧ (v22 = 0 ∧ (v23 = 0 ∧ v24 = 0))) ∨ ((v25 = true ∧ v34 = 1) ∧ (v22 = (v33 0 0) ∧ (v23 = (v33 0 1) ∧ v24 = (v33 0 2)))))) ∧ v56 = true) ∧ v28 = v37) ∧ v57 = true) ∧ v58 = true) ∧ v44 = v51) ∧ v61 = 0) → True)) ∧ (∀ (v74 : Int), v74 = (hidF ckQ) v0 v1 v2 v3 → 
                              ((((((((((((((v52 = v53 ∧ v54 = true) ∧ v12 = v17) ∧ v55 = true) ∧ ((v25 = true ∧ v34 = 1) ∨ (¬ (v25 = true) ∧ ¬ (v34 = 1)))) ∧ ((¬ (v25 = true) ∧ (v22 = 0 ∧ (v23 = 0 ∧ v24 = 0))) ∨ ((v25 = true ∧ v34 = 1) ∧ (v22 = (v33 0 0) ∧ (v23 = (v33 0 1) ∧ v24 = (v33 0 2)))))) ∧ v56 = true) ∧ v28 = v37) ∧ v57 = true) ∧ v58 = true) ∧ v44 = v51) ∧ v61 = 0) ∧ v62 = v74) → True)) ∧ (∀ (v75 : Bool), v75 = ((hidF smI) v0 v1 v0 v1 && decide (v2 = v2 ∧ v3 = v3)) → 
                              ((((((((((((((v52 = v53 ∧ v54 = true) ∧ v12 = v17) ∧ v55 = true) ∧ ((v25 = true ∧ v34 = 1) ∨ (¬ (v25 = true) ∧ ¬ (v34 = 1)))) ∧ ((¬ (v25 = true) ∧ (v22 = 0 ∧ (v23 = 0 ∧ v24 = 0))) ∨ ((v25 = true ∧ v34 = 1) ∧ (v22 = (v33 0 0) ∧ (v23 = (v33 0 1) ∧ v24 = (v33 0 2)))))) ∧ v56 = true) ∧ v28 = v37) ∧ v57 = true) ∧ v58 = true) ∧ v44 = v51) ∧ v61 = 0) ∧ v62 = v74) ∧ v75 = true) ↔ true = true) ∧ True))))))))))))) ∧
        (¬ (¬ (v63 = 0)) →
          ∃ (I1 : (Int → Nat → Int) → (Int) → Prop) (μ1 : (Int → Nat → Int) → (Int) → Nat), I1 v8 (0 : Int) ∧ (∀ (v64 : Int → Nat → Int) (v65 : Int), I1 v64 v65 →
            (v65 < v9 →
              0 ≤ v65 ∧ (0 ≤ v65 →
              (-9223372036854775808 ≤ (v65 + 1) ∧ (v65 + 1) ≤ 9223372036854775807) ∧ ((-9223372036854775808 ≤ (v65 + 1) ∧ (v65 + 1) ≤ 9223372036854775807) →
              I1 (setA v64 v65 0 (-7777)) (v65 + 1) ∧ μ1 (setA v64 v65 0 (-7777)) (v65 + 1) < μ1 v64 v65))) ∧
            (¬ (v65 < v9) →
              ∃ (I2 : (Int → Nat → Int) → (Int) → Prop) (μ2 : (Int → Nat → Int) → (Int) → Nat), I2 v18 (0 : Int) ∧ (∀ (v66 : Int → Nat → Int) (v67 : Int), I2 v66 v67 →
                (v67 < v19 →
                  0 ≤ v67 ∧ (0 ≤ v67 →
                  (-9223372036854775808 ≤ (v67 + 1) ∧ (v67 + 1) ≤ 9223372036854775807) ∧ ((-9223372036854775808 ≤ (v67 + 1) ∧ (v67 + 1) ≤ 9223372036854775807) →
                  I2 (setA v66 v67 0 (-7777)) (v67 + 1) ∧ μ2 (setA v66 v67 0 (-7777)) (v67 + 1) < μ2 v66 v67))) ∧
                (¬ (v67 < v19) →
                  ∃ (I3 : (Int → Nat → Int) → (Int) → Prop) (μ3 : (Int → Nat → Int) → (Int) → Nat), I3 v26 (0 : Int) ∧ (∀ (v68 : Int → Nat → Int) (v69 : Int), I3 v68 v69 →
                    (v69 < v27 →
                      0 ≤ v69 ∧ (0 ≤ v69 →
                      (-9223372036854775808 ≤ (v69 + 1) ∧ (v69 + 1) ≤ 9223372036854775807) ∧ ((-9223372036854775808 ≤ (v69 + 1) ∧ (v69 + 1) ≤ 9223372036854775807) →
                      I3 (setA v68 v69 0 (-7777)) (v69 + 1) ∧ μ3 (setA v68 v69 0 (-7777)) (v69 + 1) < μ3 v68 v69))) ∧
                    (¬ (v69 < v27) →
                      ∃ (I4 : (Int → Nat → Int) → (Int) → Prop) (μ4 : (Int → Nat → Int) → (Int) → Nat), I4 v38 (0 : Int) ∧ (∀ (v70 : Int → Nat → Int) (v71 : Int), I4 v70 v71 →
                        (v71 < v39 →
                          0 ≤ v71 ∧ (0 ≤ v71 →
                          (-9223372036854775808 ≤ (v71 + 1) ∧ (v71 + 1) ≤ 9223372036854775807) ∧ ((-9223372036854775808 ≤ (v71 + 1) ∧ (v71 + 1) ≤ 9223372036854775807) →
                          I4 (setA v70 v71 0 (-7777)) (v71 + 1) ∧ μ4 (setA v70 v71 0 (-7777)) (v71 + 1) < μ4 v70 v71))) ∧
                        (¬ (v71 < v39) →
                          ∃ (I5 : (Int → Nat → Int) → (Int) → Prop) (μ5 : (Int → Nat → Int) → (Int) → Nat), I5 v42 (0 : Int) ∧ (∀ (v72 : Int → Nat → Int) (v73 : Int), I5 v72 v73 →
                            (v73 < v43 →
                              0 ≤ v73 ∧ (0 ≤ v73 →
                              (-9223372036854775808 ≤ (v73 + 1) ∧ (v73 + 1) ≤ 9223372036854775807) ∧ ((-9223372036854775808 ≤ (v73 + 1) ∧ (v73 + 1) ≤ 9223372036854775807) →
                              I5 (setA v72 v73 0 (-7777)) (v73 + 1) ∧ μ5 (setA v72 v73 0 (-7777)) (v73 + 1) < μ5 v72 v73))) ∧
                            (¬ (v73 < v43) →
                              (((((((((((((v52 = v53 ∧ v54 = true) ∧ v12 = v17) ∧ v55 = true) ∧ ((v25 = true ∧ v34 = 1) ∨ (¬ (v25 = true) ∧ ¬ (v34 = 1)))) ∧ ((¬ (v25 = true) ∧ (v22 = 0 ∧ (v23 = 0 ∧ v24 = 0))) ∨ ((v25 = true ∧ v34 = 1) ∧ (v22 = (v33 0 0) ∧ (v23 = (v33 0 1) ∧ v24 = (v33 0 2)))))) ∧ v56 = true) ∧ v28 = v37) ∧ v57 = true) ∧ v58 = true) ∧ v44 = v51) ∧ v61 = v59) → True)) ∧ (∀ (v74 : Int), v74 = (hidF ckQ) v0 v1 v2 v3 → 
                              ((((((((((((((v52 = v53 ∧ v54 = true) ∧ v12 = v17) ∧ v55 = true) ∧ ((v25 = true ∧ v34 = 1) ∨ (¬ (v25 = true) ∧ ¬ (v34 = 1)))) ∧ ((¬ (v25 = true) ∧ (v22 = 0 ∧ (v23 = 0 ∧ v24 = 0))) ∨ ((v25 = true ∧ v34 = 1) ∧ (v22 = (v33 0 0) ∧ (v23 = (v33 0 1) ∧ v24 = (v33 0 2)))))) ∧ v56 = true) ∧ v28 = v37) ∧ v57 = true) ∧ v58 = true) ∧ v44 = v51) ∧ v61 = v59) ∧ v62 = v74) → True)) ∧ (∀ (v75 : Bool), v75 = ((hidF smI) v0 v1 v0 v1 && decide (v2 = v2 ∧ v3 = v3)) → 
                              ((((((((((((((v52 = v53 ∧ v54 = true) ∧ v12 = v17) ∧ v55 = true) ∧ ((v25 = true ∧ v34 = 1) ∨ (¬ (v25 = true) ∧ ¬ (v34 = 1)))) ∧ ((¬ (v25 = true) ∧ (v22 = 0 ∧ (v23 = 0 ∧ v24 = 0))) ∨ ((v25 = true ∧ v34 = 1) ∧ (v22 = (v33 0 0) ∧ (v23 = (v33 0 1) ∧ v24 = (v33 0 2)))))) ∧ v56 = true) ∧ v28 = v37) ∧ v57 = true) ∧ v58 = true) ∧ v44 = v51) ∧ v61 = v59) ∧ v62 = v74) ∧ v75 = true) ↔ true = true) ∧ True)))))))))))))))))))))))))))))))))))))))))))))))))))))))))))
def VC7 : Prop :=
  ∀ (v0 : Int → Nat → Int) (v1 : Int) (v2 : Int) (v3 : Int) (v4 : Int) (v5 : Int) (v6 : Int) (v7 : Int),
  (True) →
  (0 ≤ v1 →
  (v1 ≤ 9223372036854775807 →
  (300 < v1 →
    (True ↔ true = true) ∧ True) ∧
  (¬ (300 < v1) →
    (v1 * 24) ≤ 140737488355328 ∧ ((v1 * 24) ≤ 140737488355328 →
    v1 ≤ 140737488355328 ∧ (v1 ≤ 140737488355328 →
    (True) ∧ (∀ (v8 : Int → Nat → Int) (v9 : Int) (v10 : Int) (v11 : Int) (v12 : Int), v8 = puA v0 v1 v4 v5 v6 → v9 = puN v0 v1 v2 v3 v5 v6 → v10 = puU v0 v1 v2 v3 v5 v6 → v11 = puK v0 v1 v2 v3 v5 v6 → v12 = puE v0 v1 v2 v3 v5 v6 → 
    (0 ≤ v9 →
    (True) ∧ (∀ (v13 : Int → Nat → Int) (v14 : Int) (v15 : Int) (v16 : Int) (v17 : Int), v13 = puA v0 v1 v4 v5 v6 → v14 = puN v0 v1 v2 v3 v5 v6 → v15 = puU v0 v1 v2 v3 v5 v6 → v16 = puK v0 v1 v2 v3 v5 v6 → v17 = puE v0 v1 v2 v3 v5 v6 → 
    (v9 ≤ 9223372036854775807 →
    (0 ≤ v14 →
    (True) ∧ (∀ (v18 : Int → Nat → Int) (v19 : Int) (v20 : Int) (v21 : Int) (v22 : Int) (v23 : Int) (v24 : Int) (v25 : Bool) (v26 : Int → Nat → Int) (v27 : Int) (v28 : Int), v18 = shA v0 (tkD v0 v1 v2 v3 v6 + 1) → v19 = tkN v0 v1 v2 v3 v6 → v20 = tkU v0 v1 v2 v3 v6 → v21 = tkK v0 v1 v2 v3 v6 → v22 = tkI v0 v1 v2 v3 v6 0 → v23 = tkI v0 v1 v2 v3 v6 1 → v24 = tkI v0 v1 v2 v3 v6 2 → v25 = decide (tkG v0 v1 v2 v3 v6 = 1) → v26 = v0 → v27 = tkD v0 v1 v2 v3 v6 → v28 = asE v0 v1 v2 v3 v6 → 
    (v14 ≤ 9223372036854775807 →
    (0 ≤ v19 →
    (0 ≤ v27 →
    (True) ∧ (∀ (v29 : Int → Nat → Int) (v30 : Int) (v31 : Int) (v32 : Int) (v33 : Int → Nat → Int) (v34 : Int) (v35 : Int → Nat → Int) (v36 : Int) (v37 : Int), v29 = shA v0 (tkD v0 v1 v2 v3 v6 + 1) → v30 = tkN v0 v1 v2 v3 v6 → v31 = tkU v0 v1 v2 v3 v6 → v32 = tkK v0 v1 v2 v3 v6 → v33 = (fun _ f => tkI v0 v1 v2 v3 v6 f) → v34 = tkG v0 v1 v2 v3 v6 → v35 = v0 → v36 = tkD v0 v1 v2 v3 v6 → v37 = asE v0 v1 v2 v3 v6 → 
    (v19 ≤ 9223372036854775807 →
    (0 ≤ v30 →
    (0 ≤ v34 →
    (0 ≤ v36 →
    (v27 ≤ 9223372036854775807 →
    (True) ∧ (∀ (v38 : Int → Nat → Int) (v39 : Int) (v40 : Int) (v41 : Int) (v42 : Int → Nat → Int) (v43 : Int) (v44 : Int), v38 = shA v0 (agD v0 v1 v6 v7) → v39 = agN v0 v1 v2 v3 v6 v7 → v40 = agU v0 v1 v2 v3 v6 v7 → v41 = agK v0 v1 v2 v3 v6 v7 → v42 = v0 → v43 = agC v0 v1 v2 v3 v6 v7 → v44 = agE v0 v1 v2 v3 v6 v7 → 
    (v30 ≤ 9223372036854775807 →
    (0 ≤ v39 →
    (0 ≤ v43 →
    (v34 ≤ 9223372036854775807 →
    (v36 ≤ 9223372036854775807 →
    (True) ∧ (∀ (v45 : Int → Nat → Int) (v46 : Int) (v47 : Int) (v48 : Int) (v49 : Int → Nat → Int) (v50 : Int) (v51 : Int), v45 = shA v0 (agD v0 v1 v6 v7) → v46 = agN v0 v1 v2 v3 v6 v7 → v47 = agU v0 v1 v2 v3 v6 v7 → v48 = agK v0 v1 v2 v3 v6 v7 → v49 = v0 → v50 = agC v0 v1 v2 v3 v6 v7 → v51 = agE v0 v1 v2 v3 v6 v7 → 
    (v39 ≤ 9223372036854775807 →
    (0 ≤ v46 →
    (0 ≤ v50 →
    (v43 ≤ 9223372036854775807 →
    (True) ∧ (∀ (v52 : Int), v52 = ckQ v0 v1 v2 v3 → 
    (True) ∧ (∀ (v53 : Int), v53 = ckQ v0 v1 v2 v3 → 
    ((v52 = v53 → True)) ∧ (∀ (v54 : Bool), v54 = (smI v8 v9 v13 v14 && decide (v10 = v15 ∧ v11 = v16)) → 
    (v46 ≤ 9223372036854775807 →
    (v50 ≤ 9223372036854775807 →
    ((((v52 = v53 ∧ v54 = true) ∧ v12 = v17) → True)) ∧ (∀ (v55 : Bool), v55 = (smI v18 v19 v29 v30 && decide (v20 = v31 ∧ v21 = v32)) → 
    (¬ (((((((v52 = v53 ∧ v54 = true) ∧ v12 = v17) ∧ v55 = true) ∧ ((v25 = true ∧ v34 = 1) ∨ (¬ (v25 = true) ∧ ¬ (v34 = 1)))) ∧ ¬ ((¬ (v25 = true) ∧ (v22 = 0 ∧ (v23 = 0 ∧ v24 = 0))))) ∧ (v25 = true ∧ v34 = 1))) ∨ 0 < v34) ∧ ((¬ (((((((v52 = v53 ∧ v54 = true) ∧ v12 = v17) ∧ v55 = true) ∧ ((v25 = true ∧ v34 = 1) ∨ (¬ (v25 = true) ∧ ¬ (v34 = 1)))) ∧ ¬ ((¬ (v25 = true) ∧ (v22 = 0 ∧ (v23 = 0 ∧ v24 = 0))))) ∧ (v25 = true ∧ v34 = 1))) ∨ 0 < v34) →
    (¬ (((((((v52 = v53 ∧ v54 = true) ∧ v12 = v17) ∧ v55 = true) ∧ ((v25 = true ∧ v34 = 1) ∨ (¬ (v25 = true) ∧ ¬ (v34 = 1)))) ∧ ¬ ((¬ (v25 = true) ∧ (v22 = 0 ∧ (v23 = 0 ∧ v24 = 0))))) ∧ (v25 = true ∧ v34 = 1))) ∨ 0 < v34) ∧ ((¬ (((((((v52 = v53 ∧ v54 = true) ∧ v12 = v17) ∧ v55 = true) ∧ ((v25 = true ∧ v34 = 1) ∨ (¬ (v25 = true) ∧ ¬ (v34 = 1)))) ∧ ¬ ((¬ (v25 = true) ∧ (v22 = 0 ∧ (v23 = 0 ∧ v24 = 0))))) ∧ (v25 = true ∧ v34 = 1))) ∨ 0 < v34) →
    (((((((v52 = v53 ∧ v54 = true) ∧ v12 = v17) ∧ v55 = true) ∧ ((v25 = true ∧ v34 = 1) ∨ (¬ (v25 = true) ∧ ¬ (v34 = 1)))) ∧ ((¬ (v25 = true) ∧ (v22 = 0 ∧ (v23 = 0 ∧ v24 = 0))) ∨ ((v25 = true ∧ v34 = 1) ∧ (v22 = (v33 0 0) ∧ (v23 = (v33 0 1) ∧ v24 = (v33 0 2)))))) → True)) ∧ (∀ (v56 : Bool), v56 = smI v26 v27 v35 v36 → 
    (((((((((v52 = v53 ∧ v54 = true) ∧ v12 = v17) ∧ v55 = true) ∧ ((v25 = true ∧ v34 = 1) ∨ (¬ (v25 = true) ∧ ¬ (v34 = 1)))) ∧ ((¬ (v25 = true) ∧ (v22 = 0 ∧ (v23 = 0 ∧ v24 = 0))) ∨ ((v25 = true ∧ v34 = 1) ∧ (v22 = (v33 0 0) ∧ (v23 = (v33 0 1) ∧ v24 = (v33 0 2)))))) ∧ v56 = true) ∧ v28 = v37) → True)) ∧ (∀ (v57 : Bool), v57 = (smI v38 v39 v45 v46 && decide (v40 = v47 ∧ v41 = v48)) → 
    ((((((((((v52 = v53 ∧ v54 = true) ∧ v12 = v17) ∧ v55 = true) ∧ ((v25 = true ∧ v34 = 1) ∨ (¬ (v25 = true) ∧ ¬ (v34 = 1)))) ∧ ((¬ (v25 = true) ∧ (v22 = 0 ∧ (v23 = 0 ∧ v24 = 0))) ∨ ((v25 = true ∧ v34 = 1) ∧ (v22 = (v33 0 0) ∧ (v23 = (v33 0 1) ∧ v24 = (v33 0 2)))))) ∧ v56 = true) ∧ v28 = v37) ∧ v57 = true) → True)) ∧ (∀ (v58 : Bool), v58 = smI v42 v43 v49 v50 → 
    ∃ (I0 : (Int) → (Int) → Prop) (μ0 : (Int) → (Int) → Nat), I0 (0 : Int) (0 : Int) ∧ (∀ (v59 : Int) (v60 : Int), I0 v59 v60 →
      (v60 < v1 →
        0 ≤ v60 ∧ (0 ≤ v60 →
        (-9223372036854775808 ≤ (v60 + 1) ∧ (v60 + 1) ≤ 9223372036854775807) ∧ ((-9223372036854775808 ≤ (v60 + 1) ∧ (v60 + 1) ≤ 9223372036854775807) →
        I0 (IntKind.wrap .i64 (v59 + (v0 v60 1))) (v60 + 1) ∧ μ0 (IntKind.wrap .i64 (v59 + (v0 v60 1))) (v60 + 1) < μ0 v59 v60))) ∧
      (¬ (v60 < v1) →
        (True) ∧ (∀ (v61 : Int) (v62 : Int), v61 = byS v0 v1 v2 v3 → v62 = ckQ v0 v1 v2 v3 → 
        (True) ∧ (∀ (v63 : Int), v63 = ckQ v0 v1 v2 v3 → 
        (¬ (v63 = 0) →
          ∃ (I1 : (Int → Nat → Int) → (Int) → Prop) (μ1 : (Int → Nat → Int) → (Int) → Nat), I1 v8 (0 : Int) ∧ (∀ (v64 : Int → Nat → Int) (v65 : Int), I1 v64 v65 →
            (v65 < v9 →
              0 ≤ v65 ∧ (0 ≤ v65 →
              (-9223372036854775808 ≤ (v65 + 1) ∧ (v65 + 1) ≤ 9223372036854775807) ∧ ((-9223372036854775808 ≤ (v65 + 1) ∧ (v65 + 1) ≤ 9223372036854775807) →
              I1 (setA v64 v65 0 (-7777)) (v65 + 1) ∧ μ1 (setA v64 v65 0 (-7777)) (v65 + 1) < μ1 v64 v65))) ∧
            (¬ (v65 < v9) →
              ∃ (I2 : (Int → Nat → Int) → (Int) → Prop) (μ2 : (Int → Nat → Int) → (Int) → Nat), I2 v18 (0 : Int) ∧ (∀ (v66 : Int → Nat → Int) (v67 : Int), I2 v66 v67 →
                (v67 < v19 →
                  0 ≤ v67 ∧ (0 ≤ v67 →
                  (-9223372036854775808 ≤ (v67 + 1) ∧ (v67 + 1) ≤ 9223372036854775807) ∧ ((-9223372036854775808 ≤ (v67 + 1) ∧ (v67 + 1) ≤ 9223372036854775807) →
                  I2 (setA v66 v67 0 (-7777)) (v67 + 1) ∧ μ2 (setA v66 v67 0 (-7777)) (v67 + 1) < μ2 v66 v67))) ∧
                (¬ (v67 < v19) →
                  ∃ (I3 : (Int → Nat → Int) → (Int) → Prop) (μ3 : (Int → Nat → Int) → (Int) → Nat), I3 v26 (0 : Int) ∧ (∀ (v68 : Int → Nat → Int) (v69 : Int), I3 v68 v69 →
                    (v69 < v27 →
                      0 ≤ v69 ∧ (0 ≤ v69 →
                      (-9223372036854775808 ≤ (v69 + 1) ∧ (v69 + 1) ≤ 9223372036854775807) ∧ ((-9223372036854775808 ≤ (v69 + 1) ∧ (v69 + 1) ≤ 9223372036854775807) →
                      I3 (setA v68 v69 0 (-7777)) (v69 + 1) ∧ μ3 (setA v68 v69 0 (-7777)) (v69 + 1) < μ3 v68 v69))) ∧
                    (¬ (v69 < v27) →
                      ∃ (I4 : (Int → Nat → Int) → (Int) → Prop) (μ4 : (Int → Nat → Int) → (Int) → Nat), I4 v38 (0 : Int) ∧ (∀ (v70 : Int → Nat → Int) (v71 : Int), I4 v70 v71 →
                        (v71 < v39 →
                          0 ≤ v71 ∧ (0 ≤ v71 →
                          (-9223372036854775808 ≤ (v71 + 1) ∧ (v71 + 1) ≤ 9223372036854775807) ∧ ((-9223372036854775808 ≤ (v71 + 1) ∧ (v71 + 1) ≤ 9223372036854775807) →
                          I4 (setA v70 v71 0 (-7777)) (v71 + 1) ∧ μ4 (setA v70 v71 0 (-7777)) (v71 + 1) < μ4 v70 v71))) ∧
                        (¬ (v71 < v39) →
                          ∃ (I5 : (Int → Nat → Int) → (Int) → Prop) (μ5 : (Int → Nat → Int) → (Int) → Nat), I5 v42 (0 : Int) ∧ (∀ (v72 : Int → Nat → Int) (v73 : Int), I5 v72 v73 →
                            (v73 < v43 →
                              0 ≤ v73 ∧ (0 ≤ v73 →
                              (-9223372036854775808 ≤ (v73 + 1) ∧ (v73 + 1) ≤ 9223372036854775807) ∧ ((-9223372036854775808 ≤ (v73 + 1) ∧ (v73 + 1) ≤ 9223372036854775807) →
                              I5 (setA v72 v73 0 (-7777)) (v73 + 1) ∧ μ5 (setA v72 v73 0 (-7777)) (v73 + 1) < μ5 v72 v73))) ∧
                            (¬ (v73 < v43) →
                              (((((((((((((v52 = v53 ∧ v54 = true) ∧ v12 = v17) ∧ v55 = true) ∧ ((v25 = true ∧ v34 = 1) ∨ (¬ (v25 = true) ∧ ¬ (v34 = 1)))) ∧ ((¬ (v25 = true) ∧ (v22 = 0 ∧ (v23 = 0 ∧ v24 = 0))) ∨ ((v25 = true ∧ v34 = 1) ∧ (v22 = (v33 0 0) ∧ (v23 = (v33 0 1) ∧ v24 = (v33 0 2)))))) ∧ v56 = true) ∧ v28 = v37) ∧ v57 = true) ∧ v58 = true) ∧ v44 = v51) ∧ v61 = 0) → True)) ∧ (∀ (v74 : Int), v74 = ckQ v0 v1 v2 v3 → 
                              ((((((((((((((v52 = v53 ∧ v54 = true) ∧ v12 = v17) ∧ v55 = true) ∧ ((v25 = true ∧ v34 = 1) ∨ (¬ (v25 = true) ∧ ¬ (v34 = 1)))) ∧ ((¬ (v25 = true) ∧ (v22 = 0 ∧ (v23 = 0 ∧ v24 = 0))) ∨ ((v25 = true ∧ v34 = 1) ∧ (v22 = (v33 0 0) ∧ (v23 = (v33 0 1) ∧ v24 = (v33 0 2)))))) ∧ v56 = true) ∧ v28 = v37) ∧ v57 = true) ∧ v58 = true) ∧ v44 = v51) ∧ v61 = 0) ∧ v62 = v74) → True)) ∧ (∀ (v75 : Bool), v75 = (smI v0 v1 v0 v1 && decide (v2 = v2 ∧ v3 = v3)) → 
                              ((((((((((((((v52 = v53 ∧ v54 = true) ∧ v12 = v17) ∧ v55 = true) ∧ ((v25 = true ∧ v34 = 1) ∨ (¬ (v25 = true) ∧ ¬ (v34 = 1)))) ∧ ((¬ (v25 = true) ∧ (v22 = 0 ∧ (v23 = 0 ∧ v24 = 0))) ∨ ((v25 = true ∧ v34 = 1) ∧ (v22 = (v33 0 0) ∧ (v23 = (v33 0 1) ∧ v24 = (v33 0 2)))))) ∧ v56 = true) ∧ v28 = v37) ∧ v57 = true) ∧ v58 = true) ∧ v44 = v51) ∧ v61 = 0) ∧ v62 = v74) ∧ v75 = true) ↔ true = true) ∧ True))))))))))))) ∧
        (¬ (¬ (v63 = 0)) →
          ∃ (I1 : (Int → Nat → Int) → (Int) → Prop) (μ1 : (Int → Nat → Int) → (Int) → Nat), I1 v8 (0 : Int) ∧ (∀ (v64 : Int → Nat → Int) (v65 : Int), I1 v64 v65 →
            (v65 < v9 →
              0 ≤ v65 ∧ (0 ≤ v65 →
              (-9223372036854775808 ≤ (v65 + 1) ∧ (v65 + 1) ≤ 9223372036854775807) ∧ ((-9223372036854775808 ≤ (v65 + 1) ∧ (v65 + 1) ≤ 9223372036854775807) →
              I1 (setA v64 v65 0 (-7777)) (v65 + 1) ∧ μ1 (setA v64 v65 0 (-7777)) (v65 + 1) < μ1 v64 v65))) ∧
            (¬ (v65 < v9) →
              ∃ (I2 : (Int → Nat → Int) → (Int) → Prop) (μ2 : (Int → Nat → Int) → (Int) → Nat), I2 v18 (0 : Int) ∧ (∀ (v66 : Int → Nat → Int) (v67 : Int), I2 v66 v67 →
                (v67 < v19 →
                  0 ≤ v67 ∧ (0 ≤ v67 →
                  (-9223372036854775808 ≤ (v67 + 1) ∧ (v67 + 1) ≤ 9223372036854775807) ∧ ((-9223372036854775808 ≤ (v67 + 1) ∧ (v67 + 1) ≤ 9223372036854775807) →
                  I2 (setA v66 v67 0 (-7777)) (v67 + 1) ∧ μ2 (setA v66 v67 0 (-7777)) (v67 + 1) < μ2 v66 v67))) ∧
                (¬ (v67 < v19) →
                  ∃ (I3 : (Int → Nat → Int) → (Int) → Prop) (μ3 : (Int → Nat → Int) → (Int) → Nat), I3 v26 (0 : Int) ∧ (∀ (v68 : Int → Nat → Int) (v69 : Int), I3 v68 v69 →
                    (v69 < v27 →
                      0 ≤ v69 ∧ (0 ≤ v69 →
                      (-9223372036854775808 ≤ (v69 + 1) ∧ (v69 + 1) ≤ 9223372036854775807) ∧ ((-9223372036854775808 ≤ (v69 + 1) ∧ (v69 + 1) ≤ 9223372036854775807) →
                      I3 (setA v68 v69 0 (-7777)) (v69 + 1) ∧ μ3 (setA v68 v69 0 (-7777)) (v69 + 1) < μ3 v68 v69))) ∧
                    (¬ (v69 < v27) →
                      ∃ (I4 : (Int → Nat → Int) → (Int) → Prop) (μ4 : (Int → Nat → Int) → (Int) → Nat), I4 v38 (0 : Int) ∧ (∀ (v70 : Int → Nat → Int) (v71 : Int), I4 v70 v71 →
                        (v71 < v39 →
                          0 ≤ v71 ∧ (0 ≤ v71 →
                          (-9223372036854775808 ≤ (v71 + 1) ∧ (v71 + 1) ≤ 9223372036854775807) ∧ ((-9223372036854775808 ≤ (v71 + 1) ∧ (v71 + 1) ≤ 9223372036854775807) →
                          I4 (setA v70 v71 0 (-7777)) (v71 + 1) ∧ μ4 (setA v70 v71 0 (-7777)) (v71 + 1) < μ4 v70 v71))) ∧
                        (¬ (v71 < v39) →
                          ∃ (I5 : (Int → Nat → Int) → (Int) → Prop) (μ5 : (Int → Nat → Int) → (Int) → Nat), I5 v42 (0 : Int) ∧ (∀ (v72 : Int → Nat → Int) (v73 : Int), I5 v72 v73 →
                            (v73 < v43 →
                              0 ≤ v73 ∧ (0 ≤ v73 →
                              (-9223372036854775808 ≤ (v73 + 1) ∧ (v73 + 1) ≤ 9223372036854775807) ∧ ((-9223372036854775808 ≤ (v73 + 1) ∧ (v73 + 1) ≤ 9223372036854775807) →
                              I5 (setA v72 v73 0 (-7777)) (v73 + 1) ∧ μ5 (setA v72 v73 0 (-7777)) (v73 + 1) < μ5 v72 v73))) ∧
                            (¬ (v73 < v43) →
                              (((((((((((((v52 = v53 ∧ v54 = true) ∧ v12 = v17) ∧ v55 = true) ∧ ((v25 = true ∧ v34 = 1) ∨ (¬ (v25 = true) ∧ ¬ (v34 = 1)))) ∧ ((¬ (v25 = true) ∧ (v22 = 0 ∧ (v23 = 0 ∧ v24 = 0))) ∨ ((v25 = true ∧ v34 = 1) ∧ (v22 = (v33 0 0) ∧ (v23 = (v33 0 1) ∧ v24 = (v33 0 2)))))) ∧ v56 = true) ∧ v28 = v37) ∧ v57 = true) ∧ v58 = true) ∧ v44 = v51) ∧ v61 = v59) → True)) ∧ (∀ (v74 : Int), v74 = ckQ v0 v1 v2 v3 → 
                              ((((((((((((((v52 = v53 ∧ v54 = true) ∧ v12 = v17) ∧ v55 = true) ∧ ((v25 = true ∧ v34 = 1) ∨ (¬ (v25 = true) ∧ ¬ (v34 = 1)))) ∧ ((¬ (v25 = true) ∧ (v22 = 0 ∧ (v23 = 0 ∧ v24 = 0))) ∨ ((v25 = true ∧ v34 = 1) ∧ (v22 = (v33 0 0) ∧ (v23 = (v33 0 1) ∧ v24 = (v33 0 2)))))) ∧ v56 = true) ∧ v28 = v37) ∧ v57 = true) ∧ v58 = true) ∧ v44 = v51) ∧ v61 = v59) ∧ v62 = v74) → True)) ∧ (∀ (v75 : Bool), v75 = (smI v0 v1 v0 v1 && decide (v2 = v2 ∧ v3 = v3)) → 
                              ((((((((((((((v52 = v53 ∧ v54 = true) ∧ v12 = v17) ∧ v55 = true) ∧ ((v25 = true ∧ v34 = 1) ∨ (¬ (v25 = true) ∧ ¬ (v34 = 1)))) ∧ ((¬ (v25 = true) ∧ (v22 = 0 ∧ (v23 = 0 ∧ v24 = 0))) ∨ ((v25 = true ∧ v34 = 1) ∧ (v22 = (v33 0 0) ∧ (v23 = (v33 0 1) ∧ v24 = (v33 0 2)))))) ∧ v56 = true) ∧ v28 = v37) ∧ v57 = true) ∧ v58 = true) ∧ v44 = v51) ∧ v61 = v59) ∧ v62 = v74) ∧ v75 = true) ↔ true = true) ∧ True)))))))))))))))))))))))))))))))))))))))))))))))))))))))))))
theorem vh7 (h : VC7) : VH7 := by
  unfold VH7
  rw [hidF_eq agC, hidF_eq agD, hidF_eq agE, hidF_eq agK, hidF_eq agN, hidF_eq agU, hidF_eq asE, hidF_eq byS, hidF_eq ckQ, hidF_eq puA, hidF_eq puE, hidF_eq puK, hidF_eq puN, hidF_eq puU, hidF_eq smI, hidF_eq tkD, hidF_eq tkG, hidF_eq tkI, hidF_eq tkK, hidF_eq tkN, hidF_eq tkU]
  exact h
end Go.Proofs.Ytjlljcencbppcaa
