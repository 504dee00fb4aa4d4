/- What the functions do, and what is left to show of each. -/
import Derived.Test.YtiiabaklipmbbaaDoorC
set_option linter.unusedVariables false
namespace Go.Proofs.YtiiabaklipmbbaaDoor
open Go Go.RowKit Go.Proofs.YtiiabaklipmbbaaDoor.Vc
/-! hotspotlaw15.ExchangeReserves -/
def sig4 : CSig := ⟨[⟨true, [.int .u8, .int .u8, .int .i64, .slc [.int .i64], .int .i64, .int .i64, .int .i64, .int .i64, .int .i64]⟩, ⟨true, [.int .u8, .int .u8, .int .u8, .int .u8, .int .u8, .int .u8]⟩, ⟨true, [.int .u8, .int .u8, .int .u8, .int .u8, .int .u8, .int .u8]⟩], [⟨false, [.bool]⟩]⟩
def pre4 : List AV → Prop
  | [.i v0, .i v1, .i v2, .a v3, .i v4, .i v5, .i v6, .i v7, .i v8, .i v9, .i v10, .i v11, .i v12, .i v13, .i v14, .i v15, .i v16, .i v17, .i v18, .i v19, .i v20, .i v21] => True
  | _ => False
noncomputable def raw4 : List AV → List AV
  | [.i v0, .i v1, .i v2, .a v3, .i v4, .i v5, .i v6, .i v7, .i v8, .i v9, .i v10, .i v11, .i v12, .i v13, .i v14, .i v15, .i v16, .i v17, .i v18, .i v19, .i v20, .i v21] => [.b (true)]
  | _ => []

def VH4 : Prop :=
  ∀ (v0 : Int) (v1 : Int) (v2 : Int) (v3 : Int → Nat → Int) (v4 : Int) (v5 : Int) (v6 : Int) (v7 : Int) (v8 : Int) (v9 : Int) (v10 : Int) (v11 : Int) (v12 : Int) (v13 : Int) (v14 : Int) (v15 : Int) (v16 : Int) (v17 : Int) (v18 : Int) (v19 : Int) (v20 : Int) (v21 : Int),
  (True) →
  (0 ≤ v4 →
  (True) ∧ (∀ (v22 : Bool), v22 = true → 
  (v4 ≤ 9223372036854775807 →
  (((20 < v4 ∨ (v10 = v16 ∧ (v11 = v17 ∧ (v12 = v18 ∧ (v13 = v19 ∧ (v14 = v20 ∧ v15 = v21)))))) ∨ ¬ (v22 = true)) →
    (v22 = true ↔ true = true) ∧ True) ∧
  (¬ (((20 < v4 ∨ (v10 = v16 ∧ (v11 = v17 ∧ (v12 = v18 ∧ (v13 = v19 ∧ (v14 = v20 ∧ v15 = v21)))))) ∨ ¬ (v22 = true))) →
    (True) ∧ (∀ (v23 : Int → Nat → Int) (v24 : Int) (v25 : Int), v23 = exRow (Xc.mk v0 v1 v2 v3 v4 v5 v6 v7 v8 v9) (plN (Xc.mk v0 v1 v2 v3 v4 v5 v6 v7 v8 v9)) → v24 = plL (Xc.mk v0 v1 v2 v3 v4 v5 v6 v7 v8 v9) → v25 = plE (Xc.mk v0 v1 v2 v3 v4 v5 v6 v7 v8 v9) → 
    (0 ≤ v24 →
    (v24 ≤ 9223372036854775807 →
    (¬ (v25 = 0) →
      (v22 = true ↔ true = true) ∧ True) ∧
    (¬ (¬ (v25 = 0)) →
      (lnP v23 v24) ∧ (∀ (v26 : Int), v26 = lnA v23 v24 → 
      ∃ (I0 : (Int) → Prop) (μ0 : (Int) → Nat), I0 (0 : Int) ∧ (∀ (v27 : Int), I0 v27 →
        (v27 < v24 →
          0 ≤ v27 ∧ (0 ≤ v27 →
          (0 ≤ (v23 v27 0) ∧ (v23 v27 0) ≤ 255) ∧ (∀ (v28 : Int) (v29 : Int) (v30 : Bool) (v31 : Bool) (v32 : Bool) (v33 : Bool) (v34 : Bool) (v35 : Bool) (v36 : Bool) (v37 : Int) (v38 : Int) (v39 : Int) (v40 : Int) (v41 : Int) (v42 : Int) (v43 : Int) (v44 : Int) (v45 : Int) (v46 : Int) (v47 : Int) (v48 : Int) (v49 : Int) (v50 : Int) (v51 : Int) (v52 : Int) (v53 : Int) (v54 : Int) (v55 : Int) (v56 : Int) (v57 : Int) (v58 : Int) (v59 : Int) (v60 : Int) (v61 : Int) (v62 : Int) (v63 : Int) (v64 : Int) (v65 : Int) (v66 : Bool) (v67 : Bool) (v68 : Int), v28 = (hidF hdK) (v23 v27 0) (v23 v27 5) → v29 = (hidF hdS) (v23 v27 0) (v23 v27 5) → v30 = false → v31 = false → v32 = false → v33 = false → v34 = false → v35 = false → v36 = false → v37 = (hidF hdD) (v23 v27 0) (v23 v27 5) → v38 = (hidF hdO) (v23 v27 0) (!(decide ((v23 v27 1) = 0))) (v23 v27 5) v10 v16 → v39 = (hidF hdO) (v23 v27 0) (!(decide ((v23 v27 1) = 0))) (v23 v27 5) v11 v17 → v40 = (hidF hdO) (v23 v27 0) (!(decide ((v23 v27 1) = 0))) (v23 v27 5) v12 v18 → v41 = (hidF hdO) (v23 v27 0) (!(decide ((v23 v27 1) = 0))) (v23 v27 5) v13 v19 → v42 = (hidF hdO) (v23 v27 0) (!(decide ((v23 v27 1) = 0))) (v23 v27 5) v14 v20 → v43 = (hidF hdO) (v23 v27 0) (!(decide ((v23 v27 1) = 0))) (v23 v27 5) v15 v21 → v44 = (hidF hdF) (v23 v27 0) (!(decide ((v23 v27 1) = 0))) (v23 v27 5) v10 v16 → v45 = (hidF hdF) (v23 v27 0) (!(decide ((v23 v27 1) = 0))) (v23 v27 5) v11 v17 → v46 = (hidF hdF) (v23 v27 0) (!(decide ((v23 v27 1) = 0))) (v23 v27 5) v12 v18 → v47 = (hidF hdF) (v23 v27 0) (!(decide ((v23 v27 1) = 0))) (v23 v27 5) v13 v19 → v48 = (hidF hdF) (v23 v27 0) (!(decide ((v23 v27 1) = 0))) (v23 v27 5) v14 v20 → v49 = (hidF hdF) (v23 v27 0) (!(decide ((v23 v27 1) = 0))) (v23 v27 5) v15 v21 → v50 = 0 → v51 = 0 → v52 = 0 → v53 = 0 → v54 = 0 → v55 = 0 → v56 = 0 → v57 = 0 → v58 = 0 → v59 = 0 → v60 = 0 → v61 = 0 → v62 = 0 → v63 = 0 → v64 = 0 → v65 = 0 → v66 = false → v67 = false → v68 = (hidF hdE) (v23 v27 0) (v23 v27 5) → 
          (¬ (v68 = 0) ∨ (-9223372036854775808 ≤ ((v23 v27 3) + (v23 v27 4)) ∧ ((v23 v27 3) + (v23 v27 4)) ≤ 9223372036854775807)) ∧ ((¬ (v68 = 0) ∨ (-9223372036854775808 ≤ ((v23 v27 3) + (v23 v27 4)) ∧ ((v23 v27 3) + (v23 v27 4)) ≤ 9223372036854775807)) →
          (¬ (v68 = 0) ∨ (-9223372036854775808 ≤ (((v23 v27 3) + (v23 v27 4)) + v37) ∧ (((v23 v27 3) + (v23 v27 4)) + v37) ≤ 9223372036854775807)) ∧ ((¬ (v68 = 0) ∨ (-9223372036854775808 ≤ (((v23 v27 3) + (v23 v27 4)) + v37) ∧ (((v23 v27 3) + (v23 v27 4)) + v37) ≤ 9223372036854775807)) →
          ((¬ (v68 = 0) ∨ ¬ ((((v23 v27 3) + (v23 v27 4)) + v37) = v26)) →
            (False ↔ true = true) ∧ True) ∧
          (¬ ((¬ (v68 = 0) ∨ ¬ ((((v23 v27 3) + (v23 v27 4)) + v37) = v26))) →
            ((¬ ((v23 v27 1) = 0) ∨ (v23 v27 0) = 3) →
              ((¬ ((v38 = v10 ∧ (v39 = v11 ∧ (v40 = v12 ∧ (v41 = v13 ∧ (v42 = v14 ∧ v43 = v15)))))) ∨ (¬ ((v44 = 0 ∧ (v45 = 0 ∧ (v46 = 0 ∧ (v47 = 0 ∧ (v48 = 0 ∧ v49 = 0)))))) ∧ (v44 = v38 ∧ (v45 = v39 ∧ (v46 = v40 ∧ (v47 = v41 ∧ (v48 = v42 ∧ v49 = v43))))))) →
                (False ↔ true = true) ∧ True) ∧
              (¬ ((¬ ((v38 = v10 ∧ (v39 = v11 ∧ (v40 = v12 ∧ (v41 = v13 ∧ (v42 = v14 ∧ v43 = v15)))))) ∨ (¬ ((v44 = 0 ∧ (v45 = 0 ∧ (v46 = 0 ∧ (v47 = 0 ∧ (v48 = 0 ∧ v49 = 0)))))) ∧ (v44 = v38 ∧ (v45 = v39 ∧ (v46 = v40 ∧ (v47 = v41 ∧ (v48 = v42 ∧ v49 = v43)))))))) →
                (-9223372036854775808 ≤ (v27 + 1) ∧ (v27 + 1) ≤ 9223372036854775807) ∧ ((-9223372036854775808 ≤ (v27 + 1) ∧ (v27 + 1) ≤ 9223372036854775807) →
                I0 (v27 + 1) ∧ μ0 (v27 + 1) < μ0 v27))) ∧
            (¬ ((¬ ((v23 v27 1) = 0) ∨ (v23 v27 0) = 3)) →
              ((¬ ((v38 = v16 ∧ (v39 = v17 ∧ (v40 = v18 ∧ (v41 = v19 ∧ (v42 = v20 ∧ v43 = v21)))))) ∨ (¬ ((v44 = 0 ∧ (v45 = 0 ∧ (v46 = 0 ∧ (v47 = 0 ∧ (v48 = 0 ∧ v49 = 0)))))) ∧ (v44 = v38 ∧ (v45 = v39 ∧ (v46 = v40 ∧ (v47 = v41 ∧ (v48 = v42 ∧ v49 = v43))))))) →
                (False ↔ true = true) ∧ True) ∧
              (¬ ((¬ ((v38 = v16 ∧ (v39 = v17 ∧ (v40 = v18 ∧ (v41 = v19 ∧ (v42 = v20 ∧ v43 = v21)))))) ∨ (¬ ((v44 = 0 ∧ (v45 = 0 ∧ (v46 = 0 ∧ (v47 = 0 ∧ (v48 = 0 ∧ v49 = 0)))))) ∧ (v44 = v38 ∧ (v45 = v39 ∧ (v46 = v40 ∧ (v47 = v41 ∧ (v48 = v42 ∧ v49 = v43)))))))) →
                (-9223372036854775808 ≤ (v27 + 1) ∧ (v27 + 1) ≤ 9223372036854775807) ∧ ((-9223372036854775808 ≤ (v27 + 1) ∧ (v27 + 1) ≤ 9223372036854775807) →
                I0 (v27 + 1) ∧ μ0 (v27 + 1) < μ0 v27))))))))) ∧
        (¬ (v27 < v24) →
          ((v22 = true → True)) ∧ (∀ (v28 : Bool), v28 = decide ((1 : Int) ≤ v26 ∧ v26 ≤ (65551 : Int)) → 
          ((v22 = true ∧ v28 = true) ↔ true = true) ∧ True))))))))))))
def VC4 : Prop :=
  ∀ (v0 : Int) (v1 : Int) (v2 : Int) (v3 : Int → Nat → Int) (v4 : Int) (v5 : Int) (v6 : Int) (v7 : Int) (v8 : Int) (v9 : Int) (v10 : Int) (v11 : Int) (v12 : Int) (v13 : Int) (v14 : Int) (v15 : Int) (v16 : Int) (v17 : Int) (v18 : Int) (v19 : Int) (v20 : Int) (v21 : Int),
  (True) →
  (0 ≤ v4 →
  (True) ∧ (∀ (v22 : Bool), v22 = true → 
  (v4 ≤ 9223372036854775807 →
  (((20 < v4 ∨ (v10 = v16 ∧ (v11 = v17 ∧ (v12 = v18 ∧ (v13 = v19 ∧ (v14 = v20 ∧ v15 = v21)))))) ∨ ¬ (v22 = true)) →
    (v22 = true ↔ true = true) ∧ True) ∧
  (¬ (((20 < v4 ∨ (v10 = v16 ∧ (v11 = v17 ∧ (v12 = v18 ∧ (v13 = v19 ∧ (v14 = v20 ∧ v15 = v21)))))) ∨ ¬ (v22 = true))) →
    (True) ∧ (∀ (v23 : Int → Nat → Int) (v24 : Int) (v25 : Int), v23 = exRow (Xc.mk v0 v1 v2 v3 v4 v5 v6 v7 v8 v9) (plN (Xc.mk v0 v1 v2 v3 v4 v5 v6 v7 v8 v9)) → v24 = plL (Xc.mk v0 v1 v2 v3 v4 v5 v6 v7 v8 v9) → v25 = plE (Xc.mk v0 v1 v2 v3 v4 v5 v6 v7 v8 v9) → 
    (0 ≤ v24 →
    (v24 ≤ 9223372036854775807 →
    (¬ (v25 = 0) →
      (v22 = true ↔ true = true) ∧ True) ∧
    (¬ (¬ (v25 = 0)) →
      (lnP v23 v24) ∧ (∀ (v26 : Int), v26 = lnA v23 v24 → 
      ∃ (I0 : (Int) → Prop) (μ0 : (Int) → Nat), I0 (0 : Int) ∧ (∀ (v27 : Int), I0 v27 →
        (v27 < v24 →
          0 ≤ v27 ∧ (0 ≤ v27 →
          (0 ≤ (v23 v27 0) ∧ (v23 v27 0) ≤ 255) ∧ (∀ (v28 : Int) (v29 : Int) (v30 : Bool) (v31 : Bool) (v32 : Bool) (v33 : Bool) (v34 : Bool) (v35 : Bool) (v36 : Bool) (v37 : Int) (v38 : Int) (v39 : Int) (v40 : Int) (v41 : Int) (v42 : Int) (v43 : Int) (v44 : Int) (v45 : Int) (v46 : Int) (v47 : Int) (v48 : Int) (v49 : Int) (v50 : Int) (v51 : Int) (v52 : Int) (v53 : Int) (v54 : Int) (v55 : Int) (v56 : Int) (v57 : Int) (v58 : Int) (v59 : Int) (v60 : Int) (v61 : Int) (v62 : Int) (v63 : Int) (v64 : Int) (v65 : Int) (v66 : Bool) (v67 : Bool) (v68 : Int), v28 = hdK (v23 v27 0) (v23 v27 5) → v29 = hdS (v23 v27 0) (v23 v27 5) → v30 = false → v31 = false → v32 = false → v33 = false → v34 = false → v35 = false → v36 = false → v37 = hdD (v23 v27 0) (v23 v27 5) → v38 = hdO (v23 v27 0) (!(decide ((v23 v27 1) = 0))) (v23 v27 5) v10 v16 → v39 = hdO (v23 v27 0) (!(decide ((v23 v27 1) = 0))) (v23 v27 5) v11 v17 → v40 = hdO (v23 v27 0) (!(decide ((v23 v27 1) = 0))) (v23 v27 5) v12 v18 → v41 = hdO (v23 v27 0) (!(decide ((v23 v27 1) = 0))) (v23 v27 5) v13 v19 → v42 = hdO (v23 v27 0) (!(decide ((v23 v27 1) = 0))) (v23 v27 5) v14 v20 → v43 = hdO (v23 v27 0) (!(decide ((v23 v27 1) = 0))) (v23 v27 5) v15 v21 → v44 = hdF (v23 v27 0) (!(decide ((v23 v27 1) = 0))) (v23 v27 5) v10 v16 → v45 = hdF (v23 v27 0) (!(decide ((v23 v27 1) = 0))) (v23 v27 5) v11 v17 → v46 = hdF (v23 v27 0) (!(decide ((v23 v27 1) = 0))) (v23 v27 5) v12 v18 → v47 = hdF (v23 v27 0) (!(decide ((v23 v27 1) = 0))) (v23 v27 5) v13 v19 → v48 = hdF (v23 v27 0) (!(decide ((v23 v27 1) = 0))) (v23 v27 5) v14 v20 → v49 = hdF (v23 v27 0) (!(decide ((v23 v27 1) = 0))) (v23 v27 5) v15 v21 → v50 = 0 → v51 = 0 → v52 = 0 → v53 = 0 → v54 = 0 → v55 = 0 → v56 = 0 → v57 = 0 → v58 = 0 → v59 = 0 → v60 = 0 → v61 = 0 → v62 = 0 → v63 = 0 → v64 = 0 → v65 = 0 → v66 = false → v67 = false → v68 = hdE (v23 v27 0) (v23 v27 5) → 
          (¬ (v68 = 0) ∨ (-9223372036854775808 ≤ ((v23 v27 3) + (v23 v27 4)) ∧ ((v23 v27 3) + (v23 v27 4)) ≤ 9223372036854775807)) ∧ ((¬ (v68 = 0) ∨ (-9223372036854775808 ≤ ((v23 v27 3) + (v23 v27 4)) ∧ ((v23 v27 3) + (v23 v27 4)) ≤ 9223372036854775807)) →
          (¬ (v68 = 0) ∨ (-9223372036854775808 ≤ (((v23 v27 3) + (v23 v27 4)) + v37) ∧ (((v23 v27 3) + (v23 v27 4)) + v37) ≤ 9223372036854775807)) ∧ ((¬ (v68 = 0) ∨ (-9223372036854775808 ≤ (((v23 v27 3) + (v23 v27 4)) + v37) ∧ (((v23 v27 3) + (v23 v27 4)) + v37) ≤ 9223372036854775807)) →
          ((¬ (v68 = 0) ∨ ¬ ((((v23 v27 3) + (v23 v27 4)) + v37) = v26)) →
            (False ↔ true = true) ∧ True) ∧
          (¬ ((¬ (v68 = 0) ∨ ¬ ((((v23 v27 3) + (v23 v27 4)) + v37) = v26))) →
            ((¬ ((v23 v27 1) = 0) ∨ (v23 v27 0) = 3) →
              ((¬ ((v38 = v10 ∧ (v39 = v11 ∧ (v40 = v12 ∧ (v41 = v13 ∧ (v42 = v14 ∧ v43 = v15)))))) ∨ (¬ ((v44 = 0 ∧ (v45 = 0 ∧ (v46 = 0 ∧ (v47 = 0 ∧ (v48 = 0 ∧ v49 = 0)))))) ∧ (v44 = v38 ∧ (v45 = v39 ∧ (v46 = v40 ∧ (v47 = v41 ∧ (v48 = v42 ∧ v49 = v43))))))) →
                (False ↔ true = true) ∧ True) ∧
              (¬ ((¬ ((v38 = v10 ∧ (v39 = v11 ∧ (v40 = v12 ∧ (v41 = v13 ∧ (v42 = v14 ∧ v43 = v15)))))) ∨ (¬ ((v44 = 0 ∧ (v45 = 0 ∧ (v46 = 0 ∧ (v47 = 0 ∧ (v48 = 0 ∧ v49 = 0)))))) ∧ (v44 = v38 ∧ (v45 = v39 ∧ (v46 = v40 ∧ (v47 = v41 ∧ (v48 = v42 ∧ v49 = v43)))))))) →
                (-9223372036854775808 ≤ (v27 + 1) ∧ (v27 + 1) ≤ 9223372036854775807) ∧ ((-9223372036854775808 ≤ (v27 + 1) ∧ (v27 + 1) ≤ 9223372036854775807) →
                I0 (v27 + 1) ∧ μ0 (v27 + 1) < μ0 v27))) ∧
            (¬ ((¬ ((v23 v27 1) = 0) ∨ (v23 v27 0) = 3)) →
              ((¬ ((v38 = v16 ∧ (v39 = v17 ∧ (v40 = v18 ∧ (v41 = v19 ∧ (v42 = v20 ∧ v43 = v21)))))) ∨ (¬ ((v44 = 0 ∧ (v45 = 0 ∧ (v46 = 0 ∧ (v47 = 0 ∧ (v48 = 0 ∧ v49 = 0)))))) ∧ (v44 = v38 ∧ (v45 = v39 ∧ (v46 = v40 ∧ (v47 = v41 ∧ (v48 = v42 ∧ v49 = v43))))))) →
                (False ↔ true = true) ∧ True) ∧
              (¬ ((¬ ((v38 = v16 ∧ (v39 = v17 ∧ (v40 = v18 ∧ (v41 = v19 ∧ (v42 = v20 ∧ v43 = v21)))))) ∨ (¬ ((v44 = 0 ∧ (v45 = 0 ∧ (v46 = 0 ∧ (v47 = 0 ∧ (v48 = 0 ∧ v49 = 0)))))) ∧ (v44 = v38 ∧ (v45 = v39 ∧ (v46 = v40 ∧ (v47 = v41 ∧ (v48 = v42 ∧ v49 = v43)))))))) →
                (-9223372036854775808 ≤ (v27 + 1) ∧ (v27 + 1) ≤ 9223372036854775807) ∧ ((-9223372036854775808 ≤ (v27 + 1) ∧ (v27 + 1) ≤ 9223372036854775807) →
                I0 (v27 + 1) ∧ μ0 (v27 + 1) < μ0 v27))))))))) ∧
        (¬ (v27 < v24) →
          ((v22 = true → True)) ∧ (∀ (v28 : Bool), v28 = decide ((1 : Int) ≤ v26 ∧ v26 ≤ (65551 : Int)) → 
          ((v22 = true ∧ v28 = true) ↔ true = true) ∧ True))))))))))))
theorem vh4 (h : VC4) : VH4 := by
  unfold VH4
  rw [hidF_eq hdD, hidF_eq hdE, hidF_eq hdF, hidF_eq hdK, hidF_eq hdO, hidF_eq hdS]
  exact h
end Go.Proofs.YtiiabaklipmbbaaDoor
