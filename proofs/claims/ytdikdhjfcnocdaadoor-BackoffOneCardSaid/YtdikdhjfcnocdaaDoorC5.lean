/- What the functions do, and what is left to show of each. -/
import Derived.Test.YtdikdhjfcnocdaaDoorC
set_option linter.unusedVariables false
namespace Go.Proofs.YtdikdhjfcnocdaaDoor
open Go Go.RowKit Go.Proofs.YtdikdhjfcnocdaaDoor.Vc
/-! hotspotlaw14.BackoffOne -/
def sig7 : CSig := ⟨[⟨true, [.int .u8, .int .i64, .int .i64, .int .i64, .int .u8, .int .i64, .int .i64, .int .i64, .int .u8, .int .i64, .int .i64, .int .i64, .int .u8, .int .i64, .int .i64, .int .i64]⟩, ⟨true, [.bool, .bool, .bool, .bool]⟩, ⟨false, [.slc [.int .i64]]⟩], [⟨false, [.bool]⟩]⟩
def pre7 : List AV → Prop
  | [.i v0, .i v1, .i v2, .i v3, .i v4, .i v5, .i v6, .i v7, .i v8, .i v9, .i v10, .i v11, .i v12, .i v13, .i v14, .i v15, .b v16, .b v17, .b v18, .b v19, .a v20, .i v21] => rvP v0 v4 v8 v12
  | _ => False
noncomputable def raw7 : List AV → List AV
  | [.i v0, .i v1, .i v2, .i v3, .i v4, .i v5, .i v6, .i v7, .i v8, .i v9, .i v10, .i v11, .i v12, .i v13, .i v14, .i v15, .b v16, .b v17, .b v18, .b v19, .a v20, .i v21] => [.b (true)]
  | _ => []

def VC7 : Prop :=
  ∀ (v0 : Int) (v1 : Int) (v2 : Int) (v3 : Int) (v4 : Int) (v5 : Int) (v6 : Int) (v7 : Int) (v8 : Int) (v9 : Int) (v10 : Int) (v11 : Int) (v12 : Int) (v13 : Int) (v14 : Int) (v15 : Int) (v16 : Bool) (v17 : Bool) (v18 : Bool) (v19 : Bool) (v20 : Int → Nat → Int) (v21 : Int),
  (rvP v0 v4 v8 v12) →
  (0 ≤ v21 →
  (True) ∧ (∀ (v22 : Bool), v22 = true → 
  (v21 ≤ 9223372036854775807 →
  ((100 < v21 ∨ ¬ (v22 = true)) →
    (v22 = true ↔ true = true) ∧ True) ∧
  (¬ ((100 < v21 ∨ ¬ (v22 = true))) →
    (rvP v0 v4 v8 v12) ∧ (∀ (v23 : Int) (v24 : Int) (v25 : Int) (v26 : Int) (v27 : Int) (v28 : Int) (v29 : Int) (v30 : Int) (v31 : Int) (v32 : Int) (v33 : Int) (v34 : Int) (v35 : Int) (v36 : Int) (v37 : Int) (v38 : Int) (v39 : Int) (v40 : Bool) (v41 : Bool) (v42 : Bool) (v43 : Bool) (v44 : Int), v23 = rvC v0 v1 v2 v3 v4 v5 v6 v7 v8 v9 v10 v11 v12 v13 v14 v15 v16 v17 v18 v19 v20 v21 → v24 = fxC (rvE v0 v1 v2 v3 v4 v5 v6 v7 v8 v9 v10 v11 v12 v13 v14 v15 v16 v17 v18 v19 v20 v21) v0 → v25 = fxW (rvE v0 v1 v2 v3 v4 v5 v6 v7 v8 v9 v10 v11 v12 v13 v14 v15 v16 v17 v18 v19 v20 v21) (rvC v0 v1 v2 v3 v4 v5 v6 v7 v8 v9 v10 v11 v12 v13 v14 v15 v16 v17 v18 v19 v20 v21) 0 (rd v16 v2) v0 v1 v2 v3 (drA v20 v21 0) → v26 = fxN (rvE v0 v1 v2 v3 v4 v5 v6 v7 v8 v9 v10 v11 v12 v13 v14 v15 v16 v17 v18 v19 v20 v21) (rvC v0 v1 v2 v3 v4 v5 v6 v7 v8 v9 v10 v11 v12 v13 v14 v15 v16 v17 v18 v19 v20 v21) 0 (rd v16 v2) v0 v1 v2 v3 (drA v20 v21 0) → v27 = fxT (rvE v0 v1 v2 v3 v4 v5 v6 v7 v8 v9 v10 v11 v12 v13 v14 v15 v16 v17 v18 v19 v20 v21) (rvC v0 v1 v2 v3 v4 v5 v6 v7 v8 v9 v10 v11 v12 v13 v14 v15 v16 v17 v18 v19 v20 v21) 0 (rd v16 v2) v0 v1 v2 v3 (drA v20 v21 0) → v28 = fxC (rvE v0 v1 v2 v3 v4 v5 v6 v7 v8 v9 v10 v11 v12 v13 v14 v15 v16 v17 v18 v19 v20 v21) v4 → v29 = fxW (rvE v0 v1 v2 v3 v4 v5 v6 v7 v8 v9 v10 v11 v12 v13 v14 v15 v16 v17 v18 v19 v20 v21) (rvC v0 v1 v2 v3 v4 v5 v6 v7 v8 v9 v10 v11 v12 v13 v14 v15 v16 v17 v18 v19 v20 v21) 1 (rd v17 v6) v4 v5 v6 v7 (drA v20 v21 (rk v16 v2)) → v30 = fxN (rvE v0 v1 v2 v3 v4 v5 v6 v7 v8 v9 v10 v11 v12 v13 v14 v15 v16 v17 v18 v19 v20 v21) (rvC v0 v1 v2 v3 v4 v5 v6 v7 v8 v9 v10 v11 v12 v13 v14 v15 v16 v17 v18 v19 v20 v21) 1 (rd v17 v6) v4 v5 v6 v7 (drA v20 v21 (rk v16 v2)) → v31 = fxT (rvE v0 v1 v2 v3 v4 v5 v6 v7 v8 v9 v10 v11 v12 v13 v14 v15 v16 v17 v18 v19 v20 v21) (rvC v0 v1 v2 v3 v4 v5 v6 v7 v8 v9 v10 v11 v12 v13 v14 v15 v16 v17 v18 v19 v20 v21) 1 (rd v17 v6) v4 v5 v6 v7 (drA v20 v21 (rk v16 v2)) → v32 = fxC (rvE v0 v1 v2 v3 v4 v5 v6 v7 v8 v9 v10 v11 v12 v13 v14 v15 v16 v17 v18 v19 v20 v21) v8 → v33 = fxW (rvE v0 v1 v2 v3 v4 v5 v6 v7 v8 v9 v10 v11 v12 v13 v14 v15 v16 v17 v18 v19 v20 v21) (rvC v0 v1 v2 v3 v4 v5 v6 v7 v8 v9 v10 v11 v12 v13 v14 v15 v16 v17 v18 v19 v20 v21) 2 (rd v18 v10) v8 v9 v10 v11 (drA v20 v21 (rk v16 v2 + rk v17 v6)) → v34 = fxN (rvE v0 v1 v2 v3 v4 v5 v6 v7 v8 v9 v10 v11 v12 v13 v14 v15 v16 v17 v18 v19 v20 v21) (rvC v0 v1 v2 v3 v4 v5 v6 v7 v8 v9 v10 v11 v12 v13 v14 v15 v16 v17 v18 v19 v20 v21) 2 (rd v18 v10) v8 v9 v10 v11 (drA v20 v21 (rk v16 v2 + rk v17 v6)) → v35 = fxT (rvE v0 v1 v2 v3 v4 v5 v6 v7 v8 v9 v10 v11 v12 v13 v14 v15 v16 v17 v18 v19 v20 v21) (rvC v0 v1 v2 v3 v4 v5 v6 v7 v8 v9 v10 v11 v12 v13 v14 v15 v16 v17 v18 v19 v20 v21) 2 (rd v18 v10) v8 v9 v10 v11 (drA v20 v21 (rk v16 v2 + rk v17 v6)) → v36 = fxC (rvE v0 v1 v2 v3 v4 v5 v6 v7 v8 v9 v10 v11 v12 v13 v14 v15 v16 v17 v18 v19 v20 v21) v12 → v37 = fxW (rvE v0 v1 v2 v3 v4 v5 v6 v7 v8 v9 v10 v11 v12 v13 v14 v15 v16 v17 v18 v19 v20 v21) (rvC v0 v1 v2 v3 v4 v5 v6 v7 v8 v9 v10 v11 v12 v13 v14 v15 v16 v17 v18 v19 v20 v21) 3 (rd v19 v14) v12 v13 v14 v15 0 → v38 = fxN (rvE v0 v1 v2 v3 v4 v5 v6 v7 v8 v9 v10 v11 v12 v13 v14 v15 v16 v17 v18 v19 v20 v21) (rvC v0 v1 v2 v3 v4 v5 v6 v7 v8 v9 v10 v11 v12 v13 v14 v15 v16 v17 v18 v19 v20 v21) 3 (rd v19 v14) v12 v13 v14 v15 0 → v39 = fxT (rvE v0 v1 v2 v3 v4 v5 v6 v7 v8 v9 v10 v11 v12 v13 v14 v15 v16 v17 v18 v19 v20 v21) (rvC v0 v1 v2 v3 v4 v5 v6 v7 v8 v9 v10 v11 v12 v13 v14 v15 v16 v17 v18 v19 v20 v21) 3 (rd v19 v14) v12 v13 v14 v15 0 → v40 = fxG (rvE v0 v1 v2 v3 v4 v5 v6 v7 v8 v9 v10 v11 v12 v13 v14 v15 v16 v17 v18 v19 v20 v21) (rvC v0 v1 v2 v3 v4 v5 v6 v7 v8 v9 v10 v11 v12 v13 v14 v15 v16 v17 v18 v19 v20 v21) 0 (rd v16 v2) v0 v1 v2 v3 (drA v20 v21 0) → v41 = fxG (rvE v0 v1 v2 v3 v4 v5 v6 v7 v8 v9 v10 v11 v12 v13 v14 v15 v16 v17 v18 v19 v20 v21) (rvC v0 v1 v2 v3 v4 v5 v6 v7 v8 v9 v10 v11 v12 v13 v14 v15 v16 v17 v18 v19 v20 v21) 1 (rd v17 v6) v4 v5 v6 v7 (drA v20 v21 (rk v16 v2)) → v42 = fxG (rvE v0 v1 v2 v3 v4 v5 v6 v7 v8 v9 v10 v11 v12 v13 v14 v15 v16 v17 v18 v19 v20 v21) (rvC v0 v1 v2 v3 v4 v5 v6 v7 v8 v9 v10 v11 v12 v13 v14 v15 v16 v17 v18 v19 v20 v21) 2 (rd v18 v10) v8 v9 v10 v11 (drA v20 v21 (rk v16 v2 + rk v17 v6)) → v43 = fxG (rvE v0 v1 v2 v3 v4 v5 v6 v7 v8 v9 v10 v11 v12 v13 v14 v15 v16 v17 v18 v19 v20 v21) (rvC v0 v1 v2 v3 v4 v5 v6 v7 v8 v9 v10 v11 v12 v13 v14 v15 v16 v17 v18 v19 v20 v21) 3 (rd v19 v14) v12 v13 v14 v15 0 → v44 = rvE v0 v1 v2 v3 v4 v5 v6 v7 v8 v9 v10 v11 v12 v13 v14 v15 v16 v17 v18 v19 v20 v21 → 
    (¬ (v44 = 0) →
      ((((v22 = true ∧ v23 = 0) ∧ (v24 = 0 ∧ (v25 = 0 ∧ (v26 = 0 ∧ (v27 = 0 ∧ (v28 = 0 ∧ (v29 = 0 ∧ (v30 = 0 ∧ (v31 = 0 ∧ (v32 = 0 ∧ (v33 = 0 ∧ (v34 = 0 ∧ (v35 = 0 ∧ (v36 = 0 ∧ (v37 = 0 ∧ (v38 = 0 ∧ v39 = 0)))))))))))))))) ∧ (¬ (v40 = true) ∧ (¬ (v41 = true) ∧ (¬ (v42 = true) ∧ ¬ (v43 = true))))) ↔ true = true) ∧ True) ∧
    (¬ (¬ (v44 = 0)) →
      ((¬ ((((v16 = true ∧ v2 = 0) ∧ v23 < 0) ∨ (0 = v23 ∧ ¬ ((v16 = true ∧ v2 = 0))))) → 0 ≤ v24 ∧ v24 ≤ 255)) ∧ (∀ (v45 : Int), v45 = chkE v24 v25 v26 v27 → 
      (((((v16 = true ∧ v2 = 0) ∧ v23 < 0) ∨ (0 = v23 ∧ ¬ ((v16 = true ∧ v2 = 0)))) ∨ ¬ (v45 = 0)) →
        (False ↔ true = true) ∧ True) ∧
      (¬ (((((v16 = true ∧ v2 = 0) ∧ v23 < 0) ∨ (0 = v23 ∧ ¬ ((v16 = true ∧ v2 = 0)))) ∨ ¬ (v45 = 0))) →
        ((¬ ((v16 = true ∧ v2 = 0)) ∨ 0 = v23) →
          ((¬ ((v24 = v0 ∧ (v25 = v1 ∧ (v26 = v2 ∧ v27 = v3)))) ∨ v40 = true) →
            (False ↔ true = true) ∧ True) ∧
          (¬ ((¬ ((v24 = v0 ∧ (v25 = v1 ∧ (v26 = v2 ∧ v27 = v3)))) ∨ v40 = true)) →
            ((¬ ((((v17 = true ∧ v6 = 0) ∧ v23 < 1) ∨ (1 = v23 ∧ ¬ ((v17 = true ∧ v6 = 0))))) → 0 ≤ v28 ∧ v28 ≤ 255)) ∧ (∀ (v46 : Int), v46 = chkE v28 v29 v30 v31 → 
            (((((v17 = true ∧ v6 = 0) ∧ v23 < 1) ∨ (1 = v23 ∧ ¬ ((v17 = true ∧ v6 = 0)))) ∨ ¬ (v46 = 0)) →
              (False ↔ true = true) ∧ True) ∧
            (¬ (((((v17 = true ∧ v6 = 0) ∧ v23 < 1) ∨ (1 = v23 ∧ ¬ ((v17 = true ∧ v6 = 0)))) ∨ ¬ (v46 = 0))) →
              ((¬ ((v17 = true ∧ v6 = 0)) ∨ 1 = v23) →
                ((¬ ((v28 = v4 ∧ (v29 = v5 ∧ (v30 = v6 ∧ v31 = v7)))) ∨ v41 = true) →
                  (False ↔ true = true) ∧ True) ∧
                (¬ ((¬ ((v28 = v4 ∧ (v29 = v5 ∧ (v30 = v6 ∧ v31 = v7)))) ∨ v41 = true)) →
                  ((¬ ((((v18 = true ∧ v10 = 0) ∧ v23 < 2) ∨ (2 = v23 ∧ ¬ ((v18 = true ∧ v10 = 0))))) → 0 ≤ v32 ∧ v32 ≤ 255)) ∧ (∀ (v47 : Int), v47 = chkE v32 v33 v34 v35 → 
                  (((((v18 = true ∧ v10 = 0) ∧ v23 < 2) ∨ (2 = v23 ∧ ¬ ((v18 = true ∧ v10 = 0)))) ∨ ¬ (v47 = 0)) →
                    (False ↔ true = true) ∧ True) ∧
                  (¬ (((((v18 = true ∧ v10 = 0) ∧ v23 < 2) ∨ (2 = v23 ∧ ¬ ((v18 = true ∧ v10 = 0)))) ∨ ¬ (v47 = 0))) →
                    ((¬ ((v18 = true ∧ v10 = 0)) ∨ 2 = v23) →
                      ((¬ ((v32 = v8 ∧ (v33 = v9 ∧ (v34 = v10 ∧ v35 = v11)))) ∨ v42 = true) →
                        (False ↔ true = true) ∧ True) ∧
                      (¬ ((¬ ((v32 = v8 ∧ (v33 = v9 ∧ (v34 = v10 ∧ v35 = v11)))) ∨ v42 = true)) →
                        ((¬ ((((v19 = true ∧ v14 = 0) ∧ v23 < 3) ∨ (3 = v23 ∧ ¬ ((v19 = true ∧ v14 = 0))))) → 0 ≤ v36 ∧ v36 ≤ 255)) ∧ (∀ (v48 : Int), v48 = chkE v36 v37 v38 v39 → 
                        (((((v19 = true ∧ v14 = 0) ∧ v23 < 3) ∨ (3 = v23 ∧ ¬ ((v19 = true ∧ v14 = 0)))) ∨ ¬ (v48 = 0)) →
                          (False ↔ true = true) ∧ True) ∧
                        (¬ (((((v19 = true ∧ v14 = 0) ∧ v23 < 3) ∨ (3 = v23 ∧ ¬ ((v19 = true ∧ v14 = 0)))) ∨ ¬ (v48 = 0))) →
                          ((¬ ((v19 = true ∧ v14 = 0)) ∨ 3 = v23) →
                            ((¬ ((v36 = v12 ∧ (v37 = v13 ∧ (v38 = v14 ∧ v39 = v15)))) ∨ v43 = true) →
                              (False ↔ true = true) ∧ True) ∧
                            (¬ ((¬ ((v36 = v12 ∧ (v37 = v13 ∧ (v38 = v14 ∧ v39 = v15)))) ∨ v43 = true)) →
                              ((v22 = true ∧ ((((((v16 = true ∧ v2 = 0) ∨ (v17 = true ∧ v6 = 0)) ∨ (v18 = true ∧ v10 = 0)) ∨ (v19 = true ∧ v14 = 0)) ∧ 0 ≤ v23) ∨ (¬ (((((v16 = true ∧ v2 = 0) ∨ (v17 = true ∧ v6 = 0)) ∨ (v18 = true ∧ v10 = 0)) ∨ (v19 = true ∧ v14 = 0))) ∧ ¬ (0 ≤ v23)))) ↔ true = true) ∧ True)) ∧
                          (¬ ((¬ ((v19 = true ∧ v14 = 0)) ∨ 3 = v23)) →
                            (¬ ((((v43 = true ∧ v15 = 6) ∨ (¬ (v43 = true) ∧ ¬ (v15 = 6))) ∧ ¬ (v43 = true))) ∨ (-9223372036854775808 ≤ (v15 + 1) ∧ (v15 + 1) ≤ 9223372036854775807)) ∧ ((¬ ((((v43 = true ∧ v15 = 6) ∨ (¬ (v43 = true) ∧ ¬ (v15 = 6))) ∧ ¬ (v43 = true))) ∨ (-9223372036854775808 ≤ (v15 + 1) ∧ (v15 + 1) ≤ 9223372036854775807)) →
                            (((¬ (((v43 = true ∧ v15 = 6) ∨ (¬ (v43 = true) ∧ ¬ (v15 = 6)))) ∨ (¬ (v43 = true) ∧ ¬ (v39 = (v15 + 1)))) ∨ (v43 = true ∧ ¬ (v39 = 0))) →
                              (False ↔ true = true) ∧ True) ∧
                            (¬ (((¬ (((v43 = true ∧ v15 = 6) ∨ (¬ (v43 = true) ∧ ¬ (v15 = 6)))) ∨ (¬ (v43 = true) ∧ ¬ (v39 = (v15 + 1)))) ∨ (v43 = true ∧ ¬ (v39 = 0)))) →
                              ((v22 = true ∧ ((((((v16 = true ∧ v2 = 0) ∨ (v17 = true ∧ v6 = 0)) ∨ (v18 = true ∧ v10 = 0)) ∨ (v19 = true ∧ v14 = 0)) ∧ 0 ≤ v23) ∨ (¬ (((((v16 = true ∧ v2 = 0) ∨ (v17 = true ∧ v6 = 0)) ∨ (v18 = true ∧ v10 = 0)) ∨ (v19 = true ∧ v14 = 0))) ∧ ¬ (0 ≤ v23)))) ↔ true = true) ∧ True))))))) ∧
                    (¬ ((¬ ((v18 = true ∧ v10 = 0)) ∨ 2 = v23)) →
                      (¬ ((((v42 = true ∧ v11 = 6) ∨ (¬ (v42 = true) ∧ ¬ (v11 = 6))) ∧ ¬ (v42 = true))) ∨ (-9223372036854775808 ≤ (v11 + 1) ∧ (v11 + 1) ≤ 9223372036854775807)) ∧ ((¬ ((((v42 = true ∧ v11 = 6) ∨ (¬ (v42 = true) ∧ ¬ (v11 = 6))) ∧ ¬ (v42 = true))) ∨ (-9223372036854775808 ≤ (v11 + 1) ∧ (v11 + 1) ≤ 9223372036854775807)) →
                      (((¬ (((v42 = true ∧ v11 = 6) ∨ (¬ (v42 = true) ∧ ¬ (v11 = 6)))) ∨ (¬ (v42 = true) ∧ ¬ (v35 = (v11 + 1)))) ∨ (v42 = true ∧ ¬ (v35 = 0))) →
                        (False ↔ true = true) ∧ True) ∧
                      (¬ (((¬ (((v42 = true ∧ v11 = 6) ∨ (¬ (v42 = true) ∧ ¬ (v11 = 6)))) ∨ (¬ (v42 = true) ∧ ¬ (v35 = (v11 + 1)))) ∨ (v42 = true ∧ ¬ (v35 = 0)))) →
                        ((¬ ((((v19 = true ∧ v14 = 0) ∧ v23 < 3) ∨ (3 = v23 ∧ ¬ ((v19 = true ∧ v14 = 0))))) → 0 ≤ v36 ∧ v36 ≤ 255)) ∧ (∀ (v48 : Int), v48 = chkE v36 v37 v38 v39 → 
                        (((((v19 = true ∧ v14 = 0) ∧ v23 < 3) ∨ (3 = v23 ∧ ¬ ((v19 = true ∧ v14 = 0)))) ∨ ¬ (v48 = 0)) →
                          (False ↔ true = true) ∧ True) ∧
                        (¬ (((((v19 = true ∧ v14 = 0) ∧ v23 < 3) ∨ (3 = v23 ∧ ¬ ((v19 = true ∧ v14 = 0)))) ∨ ¬ (v48 = 0))) →
                          ((¬ ((v19 = true ∧ v14 = 0)) ∨ 3 = v23) →
                            ((¬ ((v36 = v12 ∧ (v37 = v13 ∧ (v38 = v14 ∧ v39 = v15)))) ∨ v43 = true) →
                              (False ↔ true = true) ∧ True) ∧
                            (¬ ((¬ ((v36 = v12 ∧ (v37 = v13 ∧ (v38 = v14 ∧ v39 = v15)))) ∨ v43 = true)) →
                              ((v22 = true ∧ ((((((v16 = true ∧ v2 = 0) ∨ (v17 = true ∧ v6 = 0)) ∨ (v18 = true ∧ v10 = 0)) ∨ (v19 = true ∧ v14 = 0)) ∧ 0 ≤ v23) ∨ (¬ (((((v16 = true ∧ v2 = 0) ∨ (v17 = true ∧ v6 = 0)) ∨ (v18 = true ∧ v10 = 0)) ∨ (v19 = true ∧ v14 = 0))) ∧ ¬ (0 ≤ v23)))) ↔ true = true) ∧ True)) ∧
                          (¬ ((¬ ((v19 = true ∧ v14 = 0)) ∨ 3 = v23)) →
                            (¬ ((((v43 = true ∧ v15 = 6) ∨ (¬ (v43 = true) ∧ ¬ (v15 = 6))) ∧ ¬ (v43 = true))) ∨ (-9223372036854775808 ≤ (v15 + 1) ∧ (v15 + 1) ≤ 9223372036854775807)) ∧ ((¬ ((((v43 = true ∧ v15 = 6) ∨ (¬ (v43 = true) ∧ ¬ (v15 = 6))) ∧ ¬ (v43 = true))) ∨ (-9223372036854775808 ≤ (v15 + 1) ∧ (v15 + 1) ≤ 9223372036854775807)) →
                            (((¬ (((v43 = true ∧ v15 = 6) ∨ (¬ (v43 = true) ∧ ¬ (v15 = 6)))) ∨ (¬ (v43 = true) ∧ ¬ (v39 = (v15 + 1)))) ∨ (v43 = true ∧ ¬ (v39 = 0))) →
                              (False ↔ true = true) ∧ True) ∧
                            (¬ (((¬ (((v43 = true ∧ v15 = 6) ∨ (¬ (v43 = true) ∧ ¬ (v15 = 6)))) ∨ (¬ (v43 = true) ∧ ¬ (v39 = (v15 + 1)))) ∨ (v43 = true ∧ ¬ (v39 = 0)))) →
                              ((v22 = true ∧ ((((((v16 = true ∧ v2 = 0) ∨ (v17 = true ∧ v6 = 0)) ∨ (v18 = true ∧ v10 = 0)) ∨ (v19 = true ∧ v14 = 0)) ∧ 0 ≤ v23) ∨ (¬ (((((v16 = true ∧ v2 = 0) ∨ (v17 = true ∧ v6 = 0)) ∨ (v18 = true ∧ v10 = 0)) ∨ (v19 = true ∧ v14 = 0))) ∧ ¬ (0 ≤ v23)))) ↔ true = true) ∧ True)))))))))))) ∧
              (¬ ((¬ ((v17 = true ∧ v6 = 0)) ∨ 1 = v23)) →
                (¬ ((((v41 = true ∧ v7 = 6) ∨ (¬ (v41 = true) ∧ ¬ (v7 = 6))) ∧ ¬ (v41 = true))) ∨ (-9223372036854775808 ≤ (v7 + 1) ∧ (v7 + 1) ≤ 9223372036854775807)) ∧ ((¬ ((((v41 = true ∧ v7 = 6) ∨ (¬ (v41 = true) ∧ ¬ (v7 = 6))) ∧ ¬ (v41 = true))) ∨ (-9223372036854775808 ≤ (v7 + 1) ∧ (v7 + 1) ≤ 9223372036854775807)) →
                (((¬ (((v41 = true ∧ v7 = 6) ∨ (¬ (v41 = true) ∧ ¬ (v7 = 6)))) ∨ (¬ (v41 = true) ∧ ¬ (v31 = (v7 + 1)))) ∨ (v41 = true ∧ ¬ (v31 = 0))) →
                  (False ↔ true = true) ∧ True) ∧
                (¬ (((¬ (((v41 = true ∧ v7 = 6) ∨ (¬ (v41 = true) ∧ ¬ (v7 = 6)))) ∨ (¬ (v41 = true) ∧ ¬ (v31 = (v7 + 1)))) ∨ (v41 = true ∧ ¬ (v31 = 0)))) →
                  ((¬ ((((v18 = true ∧ v10 = 0) ∧ v23 < 2) ∨ (2 = v23 ∧ ¬ ((v18 = true ∧ v10 = 0))))) → 0 ≤ v32 ∧ v32 ≤ 255)) ∧ (∀ (v47 : Int), v47 = chkE v32 v33 v34 v35 → 
                  (((((v18 = true ∧ v10 = 0) ∧ v23 < 2) ∨ (2 = v23 ∧ ¬ ((v18 = true ∧ v10 = 0)))) ∨ ¬ (v47 = 0)) →
                    (False ↔ true = true) ∧ True) ∧
                  (¬ (((((v18 = true ∧ v10 = 0) ∧ v23 < 2) ∨ (2 = v23 ∧ ¬ ((v18 = true ∧ v10 = 0)))) ∨ ¬ (v47 = 0))) →
                    ((¬ ((v18 = true ∧ v10 = 0)) ∨ 2 = v23) →
                      ((¬ ((v32 = v8 ∧ (v33 = v9 ∧ (v34 = v10 ∧ v35 = v11)))) ∨ v42 = true) →
                        (False ↔ true = true) ∧ True) ∧
                      (¬ ((¬ ((v32 = v8 ∧ (v33 = v9 ∧ (v34 = v10 ∧ v35 = v11)))) ∨ v42 = true)) →
                        ((¬ ((((v19 = true ∧ v14 = 0) ∧ v23 < 3) ∨ (3 = v23 ∧ ¬ ((v19 = true ∧ v14 = 0))))) → 0 ≤ v36 ∧ v36 ≤ 255)) ∧ (∀ (v48 : Int), v48 = chkE v36 v37 v38 v39 → 
                        (((((v19 = true ∧ v14 = 0) ∧ v23 < 3) ∨ (3 = v23 ∧ ¬ ((v19 = true ∧ v14 = 0)))) ∨ ¬ (v48 = 0)) →
                          (False ↔ true = true) ∧ True) ∧
                        (¬ (((((v19 = true ∧ v14 = 0) ∧ v23 < 3) ∨ (3 = v23 ∧ ¬ ((v19 = true ∧ v14 = 0)))) ∨ ¬ (v48 = 0))) →
                          ((¬ ((v19 = true ∧ v14 = 0)) ∨ 3 = v23) →
                            ((¬ ((v36 = v12 ∧ (v37 = v13 ∧ (v38 = v14 ∧ v39 = v15)))) ∨ v43 = true) →
                              (False ↔ true = true) ∧ True) ∧
                            (¬ ((¬ ((v36 = v12 ∧ (v37 = v13 ∧ (v38 = v14 ∧ v39 = v15)))) ∨ v43 = true)) →
                              ((v22 = true ∧ ((((((v16 = true ∧ v2 = 0) ∨ (v17 = true ∧ v6 = 0)) ∨ (v18 = true ∧ v10 = 0)) ∨ (v19 = true ∧ v14 = 0)) ∧ 0 ≤ v23) ∨ (¬ (((((v16 = true ∧ v2 = 0) ∨ (v17 = true ∧ v6 = 0)) ∨ (v18 = true ∧ v10 = 0)) ∨ (v19 = true ∧ v14 = 0))) ∧ ¬ (0 ≤ v23)))) ↔ true = true) ∧ True)) ∧
                          (¬ ((¬ ((v19 = true ∧ v14 = 0)) ∨ 3 = v23)) →
                            (¬ ((((v43 = true ∧ v15 = 6) ∨ (¬ (v43 = true) ∧ ¬ (v15 = 6))) ∧ ¬ (v43 = true))) ∨ (-9223372036854775808 ≤ (v15 + 1) ∧ (v15 + 1) ≤ 9223372036854775807)) ∧ ((¬ ((((v43 = true ∧ v15 = 6) ∨ (¬ (v43 = true) ∧ ¬ (v15 = 6))) ∧ ¬ (v43 = true))) ∨ (-9223372036854775808 ≤ (v15 + 1) ∧ (v15 + 1) ≤ 9223372036854775807)) →
                            (((¬ (((v43 = true ∧ v15 = 6) ∨ (¬ (v43 = true) ∧ ¬ (v15 = 6)))) ∨ (¬ (v43 = true) ∧ ¬ (v39 = (v15 + 1)))) ∨ (v43 = true ∧ ¬ (v39 = 0))) →
                              (False ↔ true = true) ∧ True) ∧
                            (¬ (((¬ (((v43 = true ∧ v15 = 6) ∨ (¬ (v43 = true) ∧ ¬ (v15 = 6)))) ∨ (¬ (v43 = true) ∧ ¬ (v39 = (v15 + 1)))) ∨ (v43 = true ∧ ¬ (v39 = 0)))) →
                              ((v22 = true ∧ ((((((v16 = true ∧ v2 = 0) ∨ (v17 = true ∧ v6 = 0)) ∨ (v18 = true ∧ v10 = 0)) ∨ (v19 = true ∧ v14 = 0)) ∧ 0 ≤ v23) ∨ (¬ (((((v16 = true ∧ v2 = 0) ∨ (v17 = true ∧ v6 = 0)) ∨ (v18 = true ∧ v10 = 0)) ∨ (v19 = true ∧ v14 = 0))) ∧ ¬ (0 ≤ v23)))) ↔ true = true) ∧ True))))))) ∧
                    (¬ ((¬ ((v18 = true ∧ v10 = 0)) ∨ 2 = v23)) →
                      (¬ ((((v42 = true ∧ v11 = 6) ∨ (¬ (v42 = true) ∧ ¬ (v11 = 6))) ∧ ¬ (v42 = true))) ∨ (-9223372036854775808 ≤ (v11 + 1) ∧ (v11 + 1) ≤ 9223372036854775807)) ∧ ((¬ ((((v42 = true ∧ v11 = 6) ∨ (¬ (v42 = true) ∧ ¬ (v11 = 6))) ∧ ¬ (v42 = true))) ∨ (-9223372036854775808 ≤ (v11 + 1) ∧ (v11 + 1) ≤ 9223372036854775807)) →
                      (((¬ (((v42 = true ∧ v11 = 6) ∨ (¬ (v42 = true) ∧ ¬ (v11 = 6)))) ∨ (¬ (v42 = true) ∧ ¬ (v35 = (v11 + 1)))) ∨ (v42 = true ∧ ¬ (v35 = 0))) →
                        (False ↔ true = true) ∧ True) ∧
                      (¬ (((¬ (((v42 = true ∧ v11 = 6) ∨ (¬ (v42 = true) ∧ ¬ (v11 = 6)))) ∨ (¬ (v42 = true) ∧ ¬ (v35 = (v11 + 1)))) ∨ (v42 = true ∧ ¬ (v35 = 0)))) →
                        ((¬ ((((v19 = true ∧ v14 = 0) ∧ v23 < 3) ∨ (3 = v23 ∧ ¬ ((v19 = true ∧ v14 = 0))))) → 0 ≤ v36 ∧ v36 ≤ 255)) ∧ (∀ (v48 : Int), v48 = chkE v36 v37 v38 v39 → 
                        (((((v19 = true ∧ v14 = 0) ∧ v23 < 3) ∨ (3 = v23 ∧ ¬ ((v19 = true ∧ v14 = 0)))) ∨ ¬ (v48 = 0)) →
                          (False ↔ true = true) ∧ True) ∧
                        (¬ (((((v19 = true ∧ v14 = 0) ∧ v23 < 3) ∨ (3 = v23 ∧ ¬ ((v19 = true ∧ v14 = 0)))) ∨ ¬ (v48 = 0))) →
                          ((¬ ((v19 = true ∧ v14 = 0)) ∨ 3 = v23) →
                            ((¬ ((v36 = v12 ∧ (v37 = v13 ∧ (v38 = v14 ∧ v39 = v15)))) ∨ v43 = true) →
                              (False ↔ true = true) ∧ True) ∧
                            (¬ ((¬ ((v36 = v12 ∧ (v37 = v13 ∧ (v38 = v14 ∧ v39 = v15)))) ∨ v43 = true)) →
                              ((v22 = true ∧ ((((((v16 = true ∧ v2 = 0) ∨ (v17 = true ∧ v6 = 0)) ∨ (v18 = true ∧ v10 = 0)) ∨ (v19 = true ∧ v14 = 0)) ∧ 0 ≤ v23) ∨ (¬ (((((v16 = true ∧ v2 = 0) ∨ (v17 = true ∧ v6 = 0)) ∨ (v18 = true ∧ v10 = 0)) ∨ (v19 = true ∧ v14 = 0))) ∧ ¬ (0 ≤ v23)))) ↔ true = true) ∧ True)) ∧
                          (¬ ((¬ ((v19 = true ∧ v14 = 0)) ∨ 3 = v23)) →
                            (¬ ((((v43 = true ∧ v15 = 6) ∨ (¬ (v43 = true) ∧ ¬ (v15 = 6))) ∧ ¬ (v43 = true))) ∨ (-9223372036854775808 ≤ (v15 + 1) ∧ (v15 + 1) ≤ 9223372036854775807)) ∧ ((¬ ((((v43 = true ∧ v15 = 6) ∨ (¬ (v43 = true) ∧ ¬ (v15 = 6))) ∧ ¬ (v43 = true))) ∨ (-9223372036854775808 ≤ (v15 + 1) ∧ (v15 + 1) ≤ 9223372036854775807)) →
                            (((¬ (((v43 = true ∧ v15 = 6) ∨ (¬ (v43 = true) ∧ ¬ (v15 = 6)))) ∨ (¬ (v43 = true) ∧ ¬ (v39 = (v15 + 1)))) ∨ (v43 = true ∧ ¬ (v39 = 0))) →
                              (False ↔ true = true) ∧ True) ∧
                            (¬ (((¬ (((v43 = true ∧ v15 = 6) ∨ (¬ (v43 = true) ∧ ¬ (v15 = 6)))) ∨ (¬ (v43 = true) ∧ ¬ (v39 = (v15 + 1)))) ∨ (v43 = true ∧ ¬ (v39 = 0)))) →
                              ((v22 = true ∧ ((((((v16 = true ∧ v2 = 0) ∨ (v17 = true ∧ v6 = 0)) ∨ (v18 = true ∧ v10 = 0)) ∨ (v19 = true ∧ v14 = 0)) ∧ 0 ≤ v23) ∨ (¬ (((((v16 = true ∧ v2 = 0) ∨ (v17 = true ∧ v6 = 0)) ∨ (v18 = true ∧ v10 = 0)) ∨ (v19 = true ∧ v14 = 0))) ∧ ¬ (0 ≤ v23)))) ↔ true = true) ∧ True))))))))))))))))) ∧
        (¬ ((¬ ((v16 = true ∧ v2 = 0)) ∨ 0 = v23)) →
          (¬ ((((v40 = true ∧ v3 = 6) ∨ (¬ (v40 = true) ∧ ¬ (v3 = 6))) ∧ ¬ (v40 = true))) ∨ (-9223372036854775808 ≤ (v3 + 1) ∧ (v3 + 1) ≤ 9223372036854775807)) ∧ ((¬ ((((v40 = true ∧ v3 = 6) ∨ (¬ (v40 = true) ∧ ¬ (v3 = 6))) ∧ ¬ (v40 = true))) ∨ (-9223372036854775808 ≤ (v3 + 1) ∧ (v3 + 1) ≤ 9223372036854775807)) →
          (((¬ (((v40 = true ∧ v3 = 6) ∨ (¬ (v40 = true) ∧ ¬ (v3 = 6)))) ∨ (¬ (v40 = true) ∧ ¬ (v27 = (v3 + 1)))) ∨ (v40 = true ∧ ¬ (v27 = 0))) →
            (False ↔ true = true) ∧ True) ∧
          (¬ (((¬ (((v40 = true ∧ v3 = 6) ∨ (¬ (v40 = true) ∧ ¬ (v3 = 6)))) ∨ (¬ (v40 = true) ∧ ¬ (v27 = (v3 + 1)))) ∨ (v40 = true ∧ ¬ (v27 = 0)))) →
            ((¬ ((((v17 = true ∧ v6 = 0) ∧ v23 < 1) ∨ (1 = v23 ∧ ¬ ((v17 = true ∧ v6 = 0))))) → 0 ≤ v28 ∧ v28 ≤ 255)) ∧ (∀ (v46 : Int), v46 = chkE v28 v29 v30 v31 → 
            (((((v17 = true ∧ v6 = 0) ∧ v23 < 1) ∨ (1 = v23 ∧ ¬ ((v17 = true ∧ v6 = 0)))) ∨ ¬ (v46 = 0)) →
              (False ↔ true = true) ∧ True) ∧
            (¬ (((((v17 = true ∧ v6 = 0) ∧ v23 < 1) ∨ (1 = v23 ∧ ¬ ((v17 = true ∧ v6 = 0)))) ∨ ¬ (v46 = 0))) →
              ((¬ ((v17 = true ∧ v6 = 0)) ∨ 1 = v23) →
                ((¬ ((v28 = v4 ∧ (v29 = v5 ∧ (v30 = v6 ∧ v31 = v7)))) ∨ v41 = true) →
                  (False ↔ true = true) ∧ True) ∧
                (¬ ((¬ ((v28 = v4 ∧ (v29 = v5 ∧ (v30 = v6 ∧ v31 = v7)))) ∨ v41 = true)) →
                  ((¬ ((((v18 = true ∧ v10 = 0) ∧ v23 < 2) ∨ (2 = v23 ∧ ¬ ((v18 = true ∧ v10 = 0))))) → 0 ≤ v32 ∧ v32 ≤ 255)) ∧ (∀ (v47 : Int), v47 = chkE v32 v33 v34 v35 → 
                  (((((v18 = true ∧ v10 = 0) ∧ v23 < 2) ∨ (2 = v23 ∧ ¬ ((v18 = true ∧ v10 = 0)))) ∨ ¬ (v47 = 0)) →
                    (False ↔ true = true) ∧ True) ∧
                  (¬ (((((v18 = true ∧ v10 = 0) ∧ v23 < 2) ∨ (2 = v23 ∧ ¬ ((v18 = true ∧ v10 = 0)))) ∨ ¬ (v47 = 0))) →
                    ((¬ ((v18 = true ∧ v10 = 0)) ∨ 2 = v23) →
                      ((¬ ((v32 = v8 ∧ (v33 = v9 ∧ (v34 = v10 ∧ v35 = v11)))) ∨ v42 = true) →
                        (False ↔ true = true) ∧ True) ∧
                      (¬ ((¬ ((v32 = v8 ∧ (v33 = v9 ∧ (v34 = v10 ∧ v35 = v11)))) ∨ v42 = true)) →
                        ((¬ ((((v19 = true ∧ v14 = 0) ∧ v23 < 3) ∨ (3 = v23 ∧ ¬ ((v19 = true ∧ v14 = 0))))) → 0 ≤ v36 ∧ v36 ≤ 255)) ∧ (∀ (v48 : Int), v48 = chkE v36 v37 v38 v39 → 
                        (((((v19 = true ∧ v14 = 0) ∧ v23 < 3) ∨ (3 = v23 ∧ ¬ ((v19 = true ∧ v14 = 0)))) ∨ ¬ (v48 = 0)) →
                          (False ↔ true = true) ∧ True) ∧
                        (¬ (((((v19 = true ∧ v14 = 0) ∧ v23 < 3) ∨ (3 = v23 ∧ ¬ ((v19 = true ∧ v14 = 0)))) ∨ ¬ (v48 = 0))) →
                          ((¬ ((v19 = true ∧ v14 = 0)) ∨ 3 = v23) →
                            ((¬ ((v36 = v12 ∧ (v37 = v13 ∧ (v38 = v14 ∧ v39 = v15)))) ∨ v43 = true) →
                              (False ↔ true = true) ∧ True) ∧
                            (¬ ((¬ ((v36 = v12 ∧ (v37 = v13 ∧ (v38 = v14 ∧ v39 = v15)))) ∨ v43 = true)) →
                              ((v22 = true ∧ ((((((v16 = true ∧ v2 = 0) ∨ (v17 = true ∧ v6 = 0)) ∨ (v18 = true ∧ v10 = 0)) ∨ (v19 = true ∧ v14 = 0)) ∧ 0 ≤ v23) ∨ (¬ (((((v16 = true ∧ v2 = 0) ∨ (v17 = true ∧ v6 = 0)) ∨ (v18 = true ∧ v10 = 0)) ∨ (v19 = true ∧ v14 = 0))) ∧ ¬ (0 ≤ v23)))) ↔ true = true) ∧ True)) ∧
                          (¬ ((¬ ((v19 = true ∧ v14 = 0)) ∨ 3 = v23)) →
                            (¬ ((((v43 = true ∧ v15 = 6) ∨ (¬ (v43 = true) ∧ ¬ (v15 = 6))) ∧ ¬ (v43 = true))) ∨ (-9223372036854775808 ≤ (v15 + 1) ∧ (v15 + 1) ≤ 9223372036854775807)) ∧ ((¬ ((((v43 = true ∧ v15 = 6) ∨ (¬ (v43 = true) ∧ ¬ (v15 = 6))) ∧ ¬ (v43 = true))) ∨ (-9223372036854775808 ≤ (v15 + 1) ∧ (v15 + 1) ≤ 9223372036854775807)) →
                            (((¬ (((v43 = true ∧ v15 = 6) ∨ (¬ (v43 = true) ∧ ¬ (v15 = 6)))) ∨ (¬ (v43 = true) ∧ ¬ (v39 = (v15 + 1)))) ∨ (v43 = true ∧ ¬ (v39 = 0))) →
                              (False ↔ true = true) ∧ True) ∧
                            (¬ (((¬ (((v43 = true ∧ v15 = 6) ∨ (¬ (v43 = true) ∧ ¬ (v15 = 6)))) ∨ (¬ (v43 = true) ∧ ¬ (v39 = (v15 + 1)))) ∨ (v43 = true ∧ ¬ (v39 = 0)))) →
                              ((v22 = true ∧ ((((((v16 = true ∧ v2 = 0) ∨ (v17 = true ∧ v6 = 0)) ∨ (v18 = true ∧ v10 = 0)) ∨ (v19 = true ∧ v14 = 0)) ∧ 0 ≤ v23) ∨ (¬ (((((v16 = true ∧ v2 = 0) ∨ (v17 = true ∧ v6 = 0)) ∨ (v18 = true ∧ v10 = 0)) ∨ (v19 = true ∧ v14 = 0))) ∧ ¬ (0 ≤ v23)))) ↔ true = true) ∧ True))))))) ∧
                    (¬ ((¬ ((v18 = true ∧ v10 = 0)) ∨ 2 = v23)) →
                      (¬ ((((v42 = true ∧ v11 = 6) ∨ (¬ (v42 = true) ∧ ¬ (v11 = 6))) ∧ ¬ (v42 = true))) ∨ (-9223372036854775808 ≤ (v11 + 1) ∧ (v11 + 1) ≤ 9223372036854775807)) ∧ ((¬ ((((v42 = true ∧ v11 = 6) ∨ (¬ (v42 = true) ∧ ¬ (v11 = 6))) ∧ ¬ (v42 = true))) ∨ (-9223372036854775808 ≤ (v11 + 1) ∧ (v11 + 1) ≤ 9223372036854775807)) →
                      (((¬ (((v42 = true ∧ v11 = 6) ∨ (¬ (v42 = true) ∧ ¬ (v11 = 6)))) ∨ (¬ (v42 = true) ∧ ¬ (v35 = (v11 + 1)))) ∨ (v42 = true ∧ ¬ (v35 = 0))) →
                        (False ↔ true = true) ∧ True) ∧
                      (¬ (((¬ (((v42 = true ∧ v11 = 6) ∨ (¬ (v42 = true) ∧ ¬ (v11 = 6)))) ∨ (¬ (v42 = true) ∧ ¬ (v35 = (v11 + 1)))) ∨ (v42 = true ∧ ¬ (v35 = 0)))) →
                        ((¬ ((((v19 = true ∧ v14 = 0) ∧ v23 < 3) ∨ (3 = v23 ∧ ¬ ((v19 = true ∧ v14 = 0))))) → 0 ≤ v36 ∧ v36 ≤ 255)) ∧ (∀ (v48 : Int), v48 = chkE v36 v37 v38 v39 → 
                        (((((v19 = true ∧ v14 = 0) ∧ v23 < 3) ∨ (3 = v23 ∧ ¬ ((v19 = true ∧ v14 = 0)))) ∨ ¬ (v48 = 0)) →
                          (False ↔ true = true) ∧ True) ∧
                        (¬ (((((v19 = true ∧ v14 = 0) ∧ v23 < 3) ∨ (3 = v23 ∧ ¬ ((v19 = true ∧ v14 = 0)))) ∨ ¬ (v48 = 0))) →
                          ((¬ ((v19 = true ∧ v14 = 0)) ∨ 3 = v23) →
                            ((¬ ((v36 = v12 ∧ (v37 = v13 ∧ (v38 = v14 ∧ v39 = v15)))) ∨ v43 = true) →
                              (False ↔ true = true) ∧ True) ∧
                            (¬ ((¬ ((v36 = v12 ∧ (v37 = v13 ∧ (v38 = v14 ∧ v39 = v15)))) ∨ v43 = true)) →
                              ((v22 = true ∧ ((((((v16 = true ∧ v2 = 0) ∨ (v17 = true ∧ v6 = 0)) ∨ (v18 = true ∧ v10 = 0)) ∨ (v19 = true ∧ v14 = 0)) ∧ 0 ≤ v23) ∨ (¬ (((((v16 = true ∧ v2 = 0) ∨ (v17 = true ∧ v6 = 0)) ∨ (v18 = true ∧ v10 = 0)) ∨ (v19 = true ∧ v14 = 0))) ∧ ¬ (0 ≤ v23)))) ↔ true = true) ∧ True)) ∧
                          (¬ ((¬ ((v19 = true ∧ v14 = 0)) ∨ 3 = v23)) →
                            (¬ ((((v43 = true ∧ v15 = 6) ∨ (¬ (v43 = true) ∧ ¬ (v15 = 6))) ∧ ¬ (v43 = true))) ∨ (-9223372036854775808 ≤ (v15 + 1) ∧ (v15 + 1) ≤ 9223372036854775807)) ∧ ((¬ ((((v43 = true ∧ v15 = 6) ∨ (¬ (v43 = true) ∧ ¬ (v15 = 6))) ∧ ¬ (v43 = true))) ∨ (-9223372036854775808 ≤ (v15 + 1) ∧ (v15 + 1) ≤ 9223372036854775807)) →
                            (((¬ (((v43 = true ∧ v15 = 6) ∨ (¬ (v43 = true) ∧ ¬ (v15 = 6)))) ∨ (¬ (v43 = true) ∧ ¬ (v39 = (v15 + 1)))) ∨ (v43 = true ∧ ¬ (v39 = 0))) →
                              (False ↔ true = true) ∧ True) ∧
                            (¬ (((¬ (((v43 = true ∧ v15 = 6) ∨ (¬ (v43 = true) ∧ ¬ (v15 = 6)))) ∨ (¬ (v43 = true) ∧ ¬ (v39 = (v15 + 1)))) ∨ (v43 = true ∧ ¬ (v39 = 0)))) →
                              ((v22 = true ∧ ((((((v16 = true ∧ v2 = 0) ∨ (v17 = true ∧ v6 = 0)) ∨ (v18 = true ∧ v10 = 0)) ∨ (v19 = true ∧ v14 = 0)) ∧ 0 ≤ v23) ∨ (¬ (((((v16 = true ∧ v2 = 0) ∨ (v17 = true ∧ v6 = 0)) ∨ (v18 = true ∧ v10 = 0)) ∨ (v19 = true ∧ v14 = 0))) ∧ ¬ (0 ≤ v23)))) ↔ true = true) ∧ True)))))))))))) ∧
              (¬ ((¬ ((v17 = true ∧ v6 = 0)) ∨ 1 = v23)) →
                (¬ ((((v41 = true ∧ v7 = 6) ∨ (¬ (v41 = true) ∧ ¬ (v7 = 6))) ∧ ¬ (v41 = true))) ∨ (-9223372036854775808 ≤ (v7 + 1) ∧ (v7 + 1) ≤ 9223372036854775807)) ∧ ((¬ ((((v41 = true ∧ v7 = 6) ∨ (¬ (v41 = true) ∧ ¬ (v7 = 6))) ∧ ¬ (v41 = true))) ∨ (-9223372036854775808 ≤ (v7 + 1) ∧ (v7 + 1) ≤ 9223372036854775807)) →
                (((¬ (((v41 = true ∧ v7 = 6) ∨ (¬ (v41 = true) ∧ ¬ (v7 = 6)))) ∨ (¬ (v41 = true) ∧ ¬ (v31 = (v7 + 1)))) ∨ (v41 = true ∧ ¬ (v31 = 0))) →
                  (False ↔ true = true) ∧ True) ∧
                (¬ (((¬ (((v41 = true ∧ v7 = 6) ∨ (¬ (v41 = true) ∧ ¬ (v7 = 6)))) ∨ (¬ (v41 = true) ∧ ¬ (v31 = (v7 + 1)))) ∨ (v41 = true ∧ ¬ (v31 = 0)))) →
                  ((¬ ((((v18 = true ∧ v10 = 0) ∧ v23 < 2) ∨ (2 = v23 ∧ ¬ ((v18 = true ∧ v10 = 0))))) → 0 ≤ v32 ∧ v32 ≤ 255)) ∧ (∀ (v47 : Int), v47 = chkE v32 v33 v34 v35 → 
                  (((((v18 = true ∧ v10 = 0) ∧ v23 < 2) ∨ (2 = v23 ∧ ¬ ((v18 = true ∧ v10 = 0)))) ∨ ¬ (v47 = 0)) →
                    (False ↔ true = true) ∧ True) ∧
                  (¬ (((((v18 = true ∧ v10 = 0) ∧ v23 < 2) ∨ (2 = v23 ∧ ¬ ((v18 = true ∧ v10 = 0)))) ∨ ¬ (v47 = 0))) →
                    ((¬ ((v18 = true ∧ v10 = 0)) ∨ 2 = v23) →
                      ((¬ ((v32 = v8 ∧ (v33 = v9 ∧ (v34 = v10 ∧ v35 = v11)))) ∨ v42 = true) →
                        (False ↔ true = true) ∧ True) ∧
                      (¬ ((¬ ((v32 = v8 ∧ (v33 = v9 ∧ (v34 = v10 ∧ v35 = v11)))) ∨ v42 = true)) →
                        ((¬ ((((v19 = true ∧ v14 = 0) ∧ v23 < 3) ∨ (3 = v23 ∧ ¬ ((v19 = true ∧ v14 = 0))))) → 0 ≤ v36 ∧ v36 ≤ 255)) ∧ (∀ (v48 : Int), v48 = chkE v36 v37 v38 v39 → 
                        (((((v19 = true ∧ v14 = 0) ∧ v23 < 3) ∨ (3 = v23 ∧ ¬ ((v19 = true ∧ v14 = 0)))) ∨ ¬ (v48 = 0)) →
                          (False ↔ true = true) ∧ True) ∧
                        (¬ (((((v19 = true ∧ v14 = 0) ∧ v23 < 3) ∨ (3 = v23 ∧ ¬ ((v19 = true ∧ v14 = 0)))) ∨ ¬ (v48 = 0))) →
                          ((¬ ((v19 = true ∧ v14 = 0)) ∨ 3 = v23) →
                            ((¬ ((v36 = v12 ∧ (v37 = v13 ∧ (v38 = v14 ∧ v39 = v15)))) ∨ v43 = true) →
                              (False ↔ true = true) ∧ True) ∧
                            (¬ ((¬ ((v36 = v12 ∧ (v37 = v13 ∧ (v38 = v14 ∧ v39 = v15)))) ∨ v43 = true)) →
                              ((v22 = true ∧ ((((((v16 = true ∧ v2 = 0) ∨ (v17 = true ∧ v6 = 0)) ∨ (v18 = true ∧ v10 = 0)) ∨ (v19 = true ∧ v14 = 0)) ∧ 0 ≤ v23) ∨ (¬ (((((v16 = true ∧ v2 = 0) ∨ (v17 = true ∧ v6 = 0)) ∨ (v18 = true ∧ v10 = 0)) ∨ (v19 = true ∧ v14 = 0))) ∧ ¬ (0 ≤ v23)))) ↔ true = true) ∧ True)) ∧
                          (¬ ((¬ ((v19 = true ∧ v14 = 0)) ∨ 3 = v23)) →
                            (¬ ((((v43 = true ∧ v15 = 6) ∨ (¬ (v43 = true) ∧ ¬ (v15 = 6))) ∧ ¬ (v43 = true))) ∨ (-9223372036854775808 ≤ (v15 + 1) ∧ (v15 + 1) ≤ 9223372036854775807)) ∧ ((¬ ((((v43 = true ∧ v15 = 6) ∨ (¬ (v43 = true) ∧ ¬ (v15 = 6))) ∧ ¬ (v43 = true))) ∨ (-9223372036854775808 ≤ (v15 + 1) ∧ (v15 + 1) ≤ 9223372036854775807)) →
                            (((¬ (((v43 = true ∧ v15 = 6) ∨ (¬ (v43 = true) ∧ ¬ (v15 = 6)))) ∨ (¬ (v43 = true) ∧ ¬ (v39 = (v15 + 1)))) ∨ (v43 = true ∧ ¬ (v39 = 0))) →
                              (False ↔ true = true) ∧ True) ∧
                            (¬ (((¬ (((v43 = true ∧ v15 = 6) ∨ (¬ (v43 = true) ∧ ¬ (v15 = 6)))) ∨ (¬ (v43 = true) ∧ ¬ (v39 = (v15 + 1)))) ∨ (v43 = true ∧ ¬ (v39 = 0)))) →
                              ((v22 = true ∧ ((((((v16 = true ∧ v2 = 0) ∨ (v17 = true ∧ v6 = 0)) ∨ (v18 = true ∧ v10 = 0)) ∨ (v19 = true ∧ v14 = 0)) ∧ 0 ≤ v23) ∨ (¬ (((((v16 = true ∧ v2 = 0) ∨ (v17 = true ∧ v6 = 0)) ∨ (v18 = true ∧ v10 = 0)) ∨ (v19 = true ∧ v14 = 0))) ∧ ¬ (0 ≤ v23)))) ↔ true = true) ∧ True))))))) ∧
                    (¬ ((¬ ((v18 = true ∧ v10 = 0)) ∨ 2 = v23)) →
                      (¬ ((((v42 = true ∧ v11 = 6) ∨ (¬ (v42 = true) ∧ ¬ (v11 = 6))) ∧ ¬ (v42 = true))) ∨ (-9223372036854775808 ≤ (v11 + 1) ∧ (v11 + 1) ≤ 9223372036854775807)) ∧ ((¬ ((((v42 = true ∧ v11 = 6) ∨ (¬ (v42 = true) ∧ ¬ (v11 = 6))) ∧ ¬ (v42 = true))) ∨ (-9223372036854775808 ≤ (v11 + 1) ∧ (v11 + 1) ≤ 9223372036854775807)) →
                      (((¬ (((v42 = true ∧ v11 = 6) ∨ (¬ (v42 = true) ∧ ¬ (v11 = 6)))) ∨ (¬ (v42 = true) ∧ ¬ (v35 = (v11 + 1)))) ∨ (v42 = true ∧ ¬ (v35 = 0))) →
                        (False ↔ true = true) ∧ True) ∧
                      (¬ (((¬ (((v42 = true ∧ v11 = 6) ∨ (¬ (v42 = true) ∧ ¬ (v11 = 6)))) ∨ (¬ (v42 = true) ∧ ¬ (v35 = (v11 + 1)))) ∨ (v42 = true ∧ ¬ (v35 = 0)))) →
                        ((¬ ((((v19 = true ∧ v14 = 0) ∧ v23 < 3) ∨ (3 = v23 ∧ ¬ ((v19 = true ∧ v14 = 0))))) → 0 ≤ v36 ∧ v36 ≤ 255)) ∧ (∀ (v48 : Int), v48 = chkE v36 v37 v38 v39 → 
                        (((((v19 = true ∧ v14 = 0) ∧ v23 < 3) ∨ (3 = v23 ∧ ¬ ((v19 = true ∧ v14 = 0)))) ∨ ¬ (v48 = 0)) →
                          (False ↔ true = true) ∧ True) ∧
                        (¬ (((((v19 = true ∧ v14 = 0) ∧ v23 < 3) ∨ (3 = v23 ∧ ¬ ((v19 = true ∧ v14 = 0)))) ∨ ¬ (v48 = 0))) →
                          ((¬ ((v19 = true ∧ v14 = 0)) ∨ 3 = v23) →
                            ((¬ ((v36 = v12 ∧ (v37 = v13 ∧ (v38 = v14 ∧ v39 = v15)))) ∨ v43 = true) →
                              (False ↔ true = true) ∧ True) ∧
                            (¬ ((¬ ((v36 = v12 ∧ (v37 = v13 ∧ (v38 = v14 ∧ v39 = v15)))) ∨ v43 = true)) →
                              ((v22 = true ∧ ((((((v16 = true ∧ v2 = 0) ∨ (v17 = true ∧ v6 = 0)) ∨ (v18 = true ∧ v10 = 0)) ∨ (v19 = true ∧ v14 = 0)) ∧ 0 ≤ v23) ∨ (¬ (((((v16 = true ∧ v2 = 0) ∨ (v17 = true ∧ v6 = 0)) ∨ (v18 = true ∧ v10 = 0)) ∨ (v19 = true ∧ v14 = 0))) ∧ ¬ (0 ≤ v23)))) ↔ true = true) ∧ True)) ∧
                          (¬ ((¬ ((v19 = true ∧ v14 = 0)) ∨ 3 = v23)) →
                            (¬ ((((v43 = true ∧ v15 = 6) ∨ (¬ (v43 = true) ∧ ¬ (v15 = 6))) ∧ ¬ (v43 = true))) ∨ (-9223372036854775808 ≤ (v15 + 1) ∧ (v15 + 1) ≤ 9223372036854775807)) ∧ ((¬ ((((v43 = true ∧ v15 = 6) ∨ (¬ (v43 = true) ∧ ¬ (v15 = 6))) ∧ ¬ (v43 = true))) ∨ (-9223372036854775808 ≤ (v15 + 1) ∧ (v15 + 1) ≤ 9223372036854775807)) →
                            (((¬ (((v43 = true ∧ v15 = 6) ∨ (¬ (v43 = true) ∧ ¬ (v15 = 6)))) ∨ (¬ (v43 = true) ∧ ¬ (v39 = (v15 + 1)))) ∨ (v43 = true ∧ ¬ (v39 = 0))) →
                              (False ↔ true = true) ∧ True) ∧
                            (¬ (((¬ (((v43 = true ∧ v15 = 6) ∨ (¬ (v43 = true) ∧ ¬ (v15 = 6)))) ∨ (¬ (v43 = true) ∧ ¬ (v39 = (v15 + 1)))) ∨ (v43 = true ∧ ¬ (v39 = 0)))) →
                              ((v22 = true ∧ ((((((v16 = true ∧ v2 = 0) ∨ (v17 = true ∧ v6 = 0)) ∨ (v18 = true ∧ v10 = 0)) ∨ (v19 = true ∧ v14 = 0)) ∧ 0 ≤ v23) ∨ (¬ (((((v16 = true ∧ v2 = 0) ∨ (v17 = true ∧ v6 = 0)) ∨ (v18 = true ∧ v10 = 0)) ∨ (v19 = true ∧ v14 = 0))) ∧ ¬ (0 ≤ v23)))) ↔ true = true) ∧ True))))))))))))))))))))))))))
end Go.Proofs.YtdikdhjfcnocdaaDoor
