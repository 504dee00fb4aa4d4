/- What the functions do, and what is left to show of each. -/
import Derived.Test.YtccmgepknjkakaaC
set_option linter.unusedVariables false
namespace Go.Proofs.Ytccmgepknjkakaa
open Go Go.RowKit Go.Proofs.Ytccmgepknjkakaa.Vc
/-! hotspotlaw44.AirtimeTells -/
def sig6 : CSig := ⟨[⟨true, [.slc [.int .i64, .int .i64], .int .i64]⟩, ⟨false, [.slc [.int .i64]]⟩, ⟨false, [.slc [.bool]]⟩, ⟨false, [.int .i64]⟩, ⟨false, [.int .i64]⟩], [⟨false, [.bool]⟩]⟩
def pre6 : List AV → Prop
  | [.a v0, .i v1, .i v2, .a v3, .i v4, .a v5, .i v6, .i v7, .i v8] => True
  | _ => False
noncomputable def raw6 : List AV → List AV
  | [.a v0, .i v1, .i v2, .a v3, .i v4, .a v5, .i v6, .i v7, .i v8] => [.b (true)]
  | _ => []

def VH6 : Prop :=
  ∀ (v0 : Int → Nat → Int) (v1 : Int) (v2 : Int) (v3 : Int → Nat → Int) (v4 : Int) (v5 : Int → Nat → Int) (v6 : Int) (v7 : Int) (v8 : Int),
  (True) →
  (0 ≤ v1 →
  (0 ≤ v4 →
  (0 ≤ v6 →
  (v1 ≤ 9223372036854775807 →
  (v4 ≤ 9223372036854775807 →
  (v6 ≤ 9223372036854775807 →
  (((40 < v1 ∨ 40 < v4) ∨ 40 < v6) →
    (True ↔ true = true) ∧ True) ∧
  (¬ (((40 < v1 ∨ 40 < v4) ∨ 40 < v6)) →
    (v1 ≤ 40) ∧ (∀ (v9 : Int → Nat → Int) (v10 : Int) (v11 : Int), v9 = v0 → v10 = v1 → v11 = v2 → 
    (0 ≤ v10 →
    (v4 ≤ 40) ∧ (∀ (v12 : Int → Nat → Int) (v13 : Int) (v14 : Int) (v15 : Int), v12 = (hidF nwA) v3 → v13 = (hidF nwN) v3 v4 v4 → v14 = 0 → v15 = (hidF nwE) v3 v4 → 
    (v10 ≤ 9223372036854775807 →
    (0 ≤ v13 →
    (v4 ≤ 40) ∧ (∀ (v16 : Int → Nat → Int) (v17 : Int) (v18 : Int) (v19 : Int), v16 = (hidF nwA) v3 → v17 = (hidF nwN) v3 v4 v4 → v18 = 0 → v19 = (hidF nwE) v3 v4 → 
    (v13 ≤ 9223372036854775807 →
    (0 ≤ v17 →
    (True) ∧ (∀ (v20 : Int) (v21 : Int → Nat → Int) (v22 : Int) (v23 : Int) (v24 : Int), v20 = (hidF pcW) v9 v10 v11 v5 v6 → v21 = (hidF pcA) v9 v10 v11 v5 v6 → v22 = (hidF pcN) v9 v10 v11 v5 v6 v10 → v23 = (hidF pcT) v9 v10 v11 v5 v6 → v24 = (hidF pcE) v9 v10 v11 v5 v6 → 
    (v17 ≤ 9223372036854775807 →
    (0 ≤ v22 →
    (True) ∧ (∀ (v25 : Int) (v26 : Int → Nat → Int) (v27 : Int) (v28 : Int) (v29 : Int), v25 = (hidF pcW) v0 v1 v2 v5 v6 → v26 = (hidF pcA) v0 v1 v2 v5 v6 → v27 = (hidF pcN) v0 v1 v2 v5 v6 v1 → v28 = (hidF pcT) v0 v1 v2 v5 v6 → v29 = (hidF pcE) v0 v1 v2 v5 v6 → 
    (v22 ≤ 9223372036854775807 →
    (0 ≤ v27 →
    (True) ∧ (∀ (v30 : Int → Nat → Int) (v31 : Int) (v32 : Int) (v33 : Int), v30 = (hidF chA) v9 v7 v8 → v31 = (hidF chN) v9 v10 v11 v7 v8 v10 → v32 = (hidF chN) v9 v10 v11 v7 v8 v11 → v33 = (hidF chE) v9 v10 v11 v7 v8 → 
    (v27 ≤ 9223372036854775807 →
    (0 ≤ v31 →
    (True) ∧ (∀ (v34 : Int → Nat → Int) (v35 : Int) (v36 : Int) (v37 : Int), v34 = (hidF chA) v0 v7 v8 → v35 = (hidF chN) v0 v1 v2 v7 v8 v1 → v36 = (hidF chN) v0 v1 v2 v7 v8 v2 → v37 = (hidF chE) v0 v1 v2 v7 v8 → 
    (v31 ≤ 9223372036854775807 →
    (0 ≤ v35 →
    (True) ∧ (∀ (v38 : Int), v38 = (hidF ckA) v9 v10 v11 → 
    (True) ∧ (∀ (v39 : Int), v39 = (hidF ckA) v0 v1 v2 → 
    ((v38 = v39 → True)) ∧ (∀ (v40 : Bool), v40 = (hidF smA) v12 v13 v14 v16 v17 v18 → 
    (((((v38 = v39 ∧ v40 = true) ∧ v15 = v19) ∧ v20 = v25) → True)) ∧ (∀ (v41 : Bool), v41 = (hidF smA) v21 v22 v23 v26 v27 v28 → 
    (((((((v38 = v39 ∧ v40 = true) ∧ v15 = v19) ∧ v20 = v25) ∧ v41 = true) ∧ v24 = v29) → True)) ∧ (∀ (v42 : Bool), v42 = (hidF smA) v30 v31 v32 v34 v35 v36 → 
    (v35 ≤ 9223372036854775807 →
    ∃ (I0 : (Int → Nat → Int) → (Int) → Prop) (μ0 : (Int → Nat → Int) → (Int) → Nat), I0 v21 (0 : Int) ∧ (∀ (v43 : Int → Nat → Int) (v44 : Int), I0 v43 v44 →
      (v44 < v22 →
        0 ≤ v44 ∧ (0 ≤ v44 →
        (-9223372036854775808 ≤ (v44 + 1) ∧ (v44 + 1) ≤ 9223372036854775807) ∧ ((-9223372036854775808 ≤ (v44 + 1) ∧ (v44 + 1) ≤ 9223372036854775807) →
        I0 (setA v43 v44 0 (-7777)) (v44 + 1) ∧ μ0 (setA v43 v44 0 (-7777)) (v44 + 1) < μ0 v43 v44))) ∧
      (¬ (v44 < v22) →
        ∃ (I1 : (Int → Nat → Int) → (Int) → Prop) (μ1 : (Int → Nat → Int) → (Int) → Nat), I1 v30 (0 : Int) ∧ (∀ (v45 : Int → Nat → Int) (v46 : Int), I1 v45 v46 →
          (v46 < v31 →
            0 ≤ v46 ∧ (0 ≤ v46 →
            (-9223372036854775808 ≤ (v46 + 1) ∧ (v46 + 1) ≤ 9223372036854775807) ∧ ((-9223372036854775808 ≤ (v46 + 1) ∧ (v46 + 1) ≤ 9223372036854775807) →
            I1 (setA v45 v46 0 (-7777)) (v46 + 1) ∧ μ1 (setA v45 v46 0 (-7777)) (v46 + 1) < μ1 v45 v46))) ∧
          (¬ (v46 < v31) →
            (((((((((v38 = v39 ∧ v40 = true) ∧ v15 = v19) ∧ v20 = v25) ∧ v41 = true) ∧ v24 = v29) ∧ v42 = true) ∧ v33 = v37) → True)) ∧ (∀ (v47 : Bool), v47 = (hidF smA) v9 v10 v11 v0 v1 v2 → 
            (((((((((v38 = v39 ∧ v40 = true) ∧ v15 = v19) ∧ v20 = v25) ∧ v41 = true) ∧ v24 = v29) ∧ v42 = true) ∧ v33 = v37) ∧ v47 = true) ↔ true = true) ∧ True))))))))))))))))))))))))))))))))))))))
def VC6 : Prop :=
  ∀ (v0 : Int → Nat → Int) (v1 : Int) (v2 : Int) (v3 : Int → Nat → Int) (v4 : Int) (v5 : Int → Nat → Int) (v6 : Int) (v7 : Int) (v8 : Int),
  (True) →
  (0 ≤ v1 →
  (0 ≤ v4 →
  (0 ≤ v6 →
  (v1 ≤ 9223372036854775807 →
  (v4 ≤ 9223372036854775807 →
  (v6 ≤ 9223372036854775807 →
  (((40 < v1 ∨ 40 < v4) ∨ 40 < v6) →
    (True ↔ true = true) ∧ True) ∧
  (¬ (((40 < v1 ∨ 40 < v4) ∨ 40 < v6)) →
    (v1 ≤ 40) ∧ (∀ (v9 : Int → Nat → Int) (v10 : Int) (v11 : Int), v9 = v0 → v10 = v1 → v11 = v2 → 
    (0 ≤ v10 →
    (v4 ≤ 40) ∧ (∀ (v12 : Int → Nat → Int) (v13 : Int) (v14 : Int) (v15 : Int), v12 = nwA v3 → v13 = nwN v3 v4 v4 → v14 = 0 → v15 = nwE v3 v4 → 
    (v10 ≤ 9223372036854775807 →
    (0 ≤ v13 →
    (v4 ≤ 40) ∧ (∀ (v16 : Int → Nat → Int) (v17 : Int) (v18 : Int) (v19 : Int), v16 = nwA v3 → v17 = nwN v3 v4 v4 → v18 = 0 → v19 = nwE v3 v4 → 
    (v13 ≤ 9223372036854775807 →
    (0 ≤ v17 →
    (True) ∧ (∀ (v20 : Int) (v21 : Int → Nat → Int) (v22 : Int) (v23 : Int) (v24 : Int), v20 = pcW v9 v10 v11 v5 v6 → v21 = pcA v9 v10 v11 v5 v6 → v22 = pcN v9 v10 v11 v5 v6 v10 → v23 = pcT v9 v10 v11 v5 v6 → v24 = pcE v9 v10 v11 v5 v6 → 
    (v17 ≤ 9223372036854775807 →
    (0 ≤ v22 →
    (True) ∧ (∀ (v25 : Int) (v26 : Int → Nat → Int) (v27 : Int) (v28 : Int) (v29 : Int), v25 = pcW v0 v1 v2 v5 v6 → v26 = pcA v0 v1 v2 v5 v6 → v27 = pcN v0 v1 v2 v5 v6 v1 → v28 = pcT v0 v1 v2 v5 v6 → v29 = pcE v0 v1 v2 v5 v6 → 
    (v22 ≤ 9223372036854775807 →
    (0 ≤ v27 →
    (True) ∧ (∀ (v30 : Int → Nat → Int) (v31 : Int) (v32 : Int) (v33 : Int), v30 = chA v9 v7 v8 → v31 = chN v9 v10 v11 v7 v8 v10 → v32 = chN v9 v10 v11 v7 v8 v11 → v33 = chE v9 v10 v11 v7 v8 → 
    (v27 ≤ 9223372036854775807 →
    (0 ≤ v31 →
    (True) ∧ (∀ (v34 : Int → Nat → Int) (v35 : Int) (v36 : Int) (v37 : Int), v34 = chA v0 v7 v8 → v35 = chN v0 v1 v2 v7 v8 v1 → v36 = chN v0 v1 v2 v7 v8 v2 → v37 = chE v0 v1 v2 v7 v8 → 
    (v31 ≤ 9223372036854775807 →
    (0 ≤ v35 →
    (True) ∧ (∀ (v38 : Int), v38 = ckA v9 v10 v11 → 
    (True) ∧ (∀ (v39 : Int), v39 = ckA v0 v1 v2 → 
    ((v38 = v39 → True)) ∧ (∀ (v40 : Bool), v40 = smA v12 v13 v14 v16 v17 v18 → 
    (((((v38 = v39 ∧ v40 = true) ∧ v15 = v19) ∧ v20 = v25) → True)) ∧ (∀ (v41 : Bool), v41 = smA v21 v22 v23 v26 v27 v28 → 
    (((((((v38 = v39 ∧ v40 = true) ∧ v15 = v19) ∧ v20 = v25) ∧ v41 = true) ∧ v24 = v29) → True)) ∧ (∀ (v42 : Bool), v42 = smA v30 v31 v32 v34 v35 v36 → 
    (v35 ≤ 9223372036854775807 →
    ∃ (I0 : (Int → Nat → Int) → (Int) → Prop) (μ0 : (Int → Nat → Int) → (Int) → Nat), I0 v21 (0 : Int) ∧ (∀ (v43 : Int → Nat → Int) (v44 : Int), I0 v43 v44 →
      (v44 < v22 →
        0 ≤ v44 ∧ (0 ≤ v44 →
        (-9223372036854775808 ≤ (v44 + 1) ∧ (v44 + 1) ≤ 9223372036854775807) ∧ ((-9223372036854775808 ≤ (v44 + 1) ∧ (v44 + 1) ≤ 9223372036854775807) →
        I0 (setA v43 v44 0 (-7777)) (v44 + 1) ∧ μ0 (setA v43 v44 0 (-7777)) (v44 + 1) < μ0 v43 v44))) ∧
      (¬ (v44 < v22) →
        ∃ (I1 : (Int → Nat → Int) → (Int) → Prop) (μ1 : (Int → Nat → Int) → (Int) → Nat), I1 v30 (0 : Int) ∧ (∀ (v45 : Int → Nat → Int) (v46 : Int), I1 v45 v46 →
          (v46 < v31 →
            0 ≤ v46 ∧ (0 ≤ v46 →
            (-9223372036854775808 ≤ (v46 + 1) ∧ (v46 + 1) ≤ 9223372036854775807) ∧ ((-9223372036854775808 ≤ (v46 + 1) ∧ (v46 + 1) ≤ 9223372036854775807) →
            I1 (setA v45 v46 0 (-7777)) (v46 + 1) ∧ μ1 (setA v45 v46 0 (-7777)) (v46 + 1) < μ1 v45 v46))) ∧
          (¬ (v46 < v31) →
            (((((((((v38 = v39 ∧ v40 = true) ∧ v15 = v19) ∧ v20 = v25) ∧ v41 = true) ∧ v24 = v29) ∧ v42 = true) ∧ v33 = v37) → True)) ∧ (∀ (v47 : Bool), v47 = smA v9 v10 v11 v0 v1 v2 → 
            (((((((((v38 = v39 ∧ v40 = true) ∧ v15 = v19) ∧ v20 = v25) ∧ v41 = true) ∧ v24 = v29) ∧ v42 = true) ∧ v33 = v37) ∧ v47 = true) ↔ true = true) ∧ True))))))))))))))))))))))))))))))))))))))
theorem vh6 (h : VC6) : VH6 := by
  unfold VH6
  rw [hidF_eq chA, hidF_eq chE, hidF_eq chN, hidF_eq ckA, hidF_eq nwA, hidF_eq nwE, hidF_eq nwN, hidF_eq pcA, hidF_eq pcE, hidF_eq pcN, hidF_eq pcT, hidF_eq pcW, hidF_eq smA]
  exact h
end Go.Proofs.Ytccmgepknjkakaa
