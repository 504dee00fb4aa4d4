/- What the functions do, and what is left to show of each. -/
import Derived.Test.YtccmgepknjkakaaC
set_option linter.unusedVariables false
namespace Go.Proofs.Ytccmgepknjkakaa
open Go Go.RowKit Go.Proofs.Ytccmgepknjkakaa.Vc
/-! airtime.Pick -/
def sig20 : CSig := ⟨[⟨true, [.slc [.int .i64, .int .i64], .int .i64]⟩, ⟨false, [.slc [.bool]]⟩], [⟨false, [.int .i64]⟩, ⟨true, [.slc [.int .i64, .int .i64], .int .i64]⟩, ⟨false, [.int .i64]⟩]⟩
def pre20 : List AV → Prop
  | [.a v0, .i v1, .i v2, .a v3, .i v4] => True
  | _ => False
noncomputable def raw20 : List AV → List AV
  | [.a v0, .i v1, .i v2, .a v3, .i v4] => [.i ((hidF pcW) v0 v1 v2 v3 v4), .a ((hidF pcA) v0 v1 v2 v3 v4), .i ((hidF pcN) v0 v1 v2 v3 v4 v1), .i ((hidF pcT) v0 v1 v2 v3 v4), .i ((hidF pcE) v0 v1 v2 v3 v4)]
  | _ => []

def VH20 : Prop :=
  ∀ (v0 : Int → Nat → Int) (v1 : Int) (v2 : Int) (v3 : Int → Nat → Int) (v4 : Int),
  (True) →
  (0 ≤ v1 →
  (0 ≤ v4 →
  (True) ∧ (∀ (v5 : Int), v5 = (hidF ckA) v0 v1 v2 → 
  (v1 ≤ 9223372036854775807 →
  (v4 ≤ 9223372036854775807 →
  (¬ (v5 = 0) →
    (0 : Int) = (hidF pcW) v0 v1 v2 v3 v4 ∧ (0 : Int) = (hidF pcN) v0 v1 v2 v3 v4 v1 ∧ (∀ (i : Int) (f : Nat), 0 ≤ i → i < (hidF pcN) v0 v1 v2 v3 v4 v1 → f < 2 → zA i f = (hidF pcA) v0 v1 v2 v3 v4 i f) ∧ (0 : Int) = (hidF pcT) v0 v1 v2 v3 v4 ∧ v5 = (hidF pcE) v0 v1 v2 v3 v4 ∧ True) ∧
  (¬ (¬ (v5 = 0)) →
    (¬ (v4 = v1) →
      (0 : Int) = (hidF pcW) v0 v1 v2 v3 v4 ∧ (0 : Int) = (hidF pcN) v0 v1 v2 v3 v4 v1 ∧ (∀ (i : Int) (f : Nat), 0 ≤ i → i < (hidF pcN) v0 v1 v2 v3 v4 v1 → f < 2 → zA i f = (hidF pcA) v0 v1 v2 v3 v4 i f) ∧ (0 : Int) = (hidF pcT) v0 v1 v2 v3 v4 ∧ (2 : Int) = (hidF pcE) v0 v1 v2 v3 v4 ∧ True) ∧
    (¬ (¬ (v4 = v1)) →
      (v1 ≤ 1000) ∧ (∀ (v6 : Int → Nat → Int) (v7 : Int), v6 = v0 → v7 = v1 → 
      (0 ≤ v7 →
      (v7 ≤ 9223372036854775807 →
      ∃ (I0 : (Int) → Prop) (μ0 : (Int) → Nat), I0 (0 : Int) ∧ (∀ (v8 : Int), I0 v8 →
        (v8 < v4 →
          0 ≤ v8 ∧ (0 ≤ v8 →
          (¬ ((v3 v8 0) = 0) →
            ∃ (I1 : (Int → Nat → Int) → (Int) → Prop) (μ1 : (Int → Nat → Int) → (Int) → Nat), I1 v6 v2 ∧ (∀ (v9 : Int → Nat → Int) (v10 : Int), I1 v9 v10 →
              0 ≤ v10 ∧ (0 ≤ v10 →
              v10 < v7 ∧ (v10 < v7 →
              v10 < v4 ∧ (v10 < v4 →
              ((v3 v10 0) = 0 →
                (-9223372036854775808 ≤ (v10 + 1) ∧ (v10 + 1) ≤ 9223372036854775807) ∧ ((-9223372036854775808 ≤ (v10 + 1) ∧ (v10 + 1) ≤ 9223372036854775807) →
                ¬ (v7 = 0) ∧ (¬ (v7 = 0) →
                I1 (setA v9 v10 1 (min (v9 v10 1) 0)) (Int.tmod (v10 + 1) v7) ∧ μ1 (setA v9 v10 1 (min (v9 v10 1) 0)) (Int.tmod (v10 + 1) v7) < μ1 v9 v10))) ∧
              (¬ ((v3 v10 0) = 0) →
                (0 < (v9 v10 1) →
                  v10 = (hidF pcW) v0 v1 v2 v3 v4 ∧ v7 = (hidF pcN) v0 v1 v2 v3 v4 v1 ∧ (∀ (i : Int) (f : Nat), 0 ≤ i → i < (hidF pcN) v0 v1 v2 v3 v4 v1 → f < 2 → v9 i f = (hidF pcA) v0 v1 v2 v3 v4 i f) ∧ v10 = (hidF pcT) v0 v1 v2 v3 v4 ∧ (0 : Int) = (hidF pcE) v0 v1 v2 v3 v4 ∧ True) ∧
                (¬ (0 < (v9 v10 1)) →
                  (-9223372036854775808 ≤ (1000 * (v9 v10 0)) ∧ (1000 * (v9 v10 0)) ≤ 9223372036854775807) ∧ ((-9223372036854775808 ≤ (1000 * (v9 v10 0)) ∧ (1000 * (v9 v10 0)) ≤ 9223372036854775807) →
                  (-9223372036854775808 ≤ ((v9 v10 1) + (1000 * (v9 v10 0))) ∧ ((v9 v10 1) + (1000 * (v9 v10 0))) ≤ 9223372036854775807) ∧ ((-9223372036854775808 ≤ ((v9 v10 1) + (1000 * (v9 v10 0))) ∧ ((v9 v10 1) + (1000 * (v9 v10 0))) ≤ 9223372036854775807) →
                  (-9223372036854775808 ≤ (v10 + 1) ∧ (v10 + 1) ≤ 9223372036854775807) ∧ ((-9223372036854775808 ≤ (v10 + 1) ∧ (v10 + 1) ≤ 9223372036854775807) →
                  ¬ (v7 = 0) ∧ (¬ (v7 = 0) →
                  I1 (setA v9 v10 1 ((v9 v10 1) + (1000 * (v9 v10 0)))) (Int.tmod (v10 + 1) v7) ∧ μ1 (setA v9 v10 1 ((v9 v10 1) + (1000 * (v9 v10 0)))) (Int.tmod (v10 + 1) v7) < μ1 v9 v10))))))))))) ∧
          (¬ (¬ ((v3 v8 0) = 0)) →
            (-9223372036854775808 ≤ (v8 + 1) ∧ (v8 + 1) ≤ 9223372036854775807) ∧ ((-9223372036854775808 ≤ (v8 + 1) ∧ (v8 + 1) ≤ 9223372036854775807) →
            I0 (v8 + 1) ∧ μ0 (v8 + 1) < μ0 v8)))) ∧
        (¬ (v8 < v4) →
          (-1 : Int) = (hidF pcW) v0 v1 v2 v3 v4 ∧ v7 = (hidF pcN) v0 v1 v2 v3 v4 v1 ∧ (∀ (i : Int) (f : Nat), 0 ≤ i → i < (hidF pcN) v0 v1 v2 v3 v4 v1 → f < 2 → v6 i f = (hidF pcA) v0 v1 v2 v3 v4 i f) ∧ v2 = (hidF pcT) v0 v1 v2 v3 v4 ∧ (0 : Int) = (hidF pcE) v0 v1 v2 v3 v4 ∧ True))))))))))))
def VC20 : Prop :=
  ∀ (v0 : Int → Nat → Int) (v1 : Int) (v2 : Int) (v3 : Int → Nat → Int) (v4 : Int),
  (True) →
  (0 ≤ v1 →
  (0 ≤ v4 →
  (True) ∧ (∀ (v5 : Int), v5 = ckA v0 v1 v2 → 
  (v1 ≤ 9223372036854775807 →
  (v4 ≤ 9223372036854775807 →
  (¬ (v5 = 0) →
    (0 : Int) = pcW v0 v1 v2 v3 v4 ∧ (0 : Int) = pcN v0 v1 v2 v3 v4 v1 ∧ (∀ (i : Int) (f : Nat), 0 ≤ i → i < pcN v0 v1 v2 v3 v4 v1 → f < 2 → zA i f = pcA v0 v1 v2 v3 v4 i f) ∧ (0 : Int) = pcT v0 v1 v2 v3 v4 ∧ v5 = pcE v0 v1 v2 v3 v4 ∧ True) ∧
  (¬ (¬ (v5 = 0)) →
    (¬ (v4 = v1) →
      (0 : Int) = pcW v0 v1 v2 v3 v4 ∧ (0 : Int) = pcN v0 v1 v2 v3 v4 v1 ∧ (∀ (i : Int) (f : Nat), 0 ≤ i → i < pcN v0 v1 v2 v3 v4 v1 → f < 2 → zA i f = pcA v0 v1 v2 v3 v4 i f) ∧ (0 : Int) = pcT v0 v1 v2 v3 v4 ∧ (2 : Int) = pcE v0 v1 v2 v3 v4 ∧ True) ∧
    (¬ (¬ (v4 = v1)) →
      (v1 ≤ 1000) ∧ (∀ (v6 : Int → Nat → Int) (v7 : Int), v6 = v0 → v7 = v1 → 
      (0 ≤ v7 →
      (v7 ≤ 9223372036854775807 →
      ∃ (I0 : (Int) → Prop) (μ0 : (Int) → Nat), I0 (0 : Int) ∧ (∀ (v8 : Int), I0 v8 →
        (v8 < v4 →
          0 ≤ v8 ∧ (0 ≤ v8 →
          (¬ ((v3 v8 0) = 0) →
            ∃ (I1 : (Int → Nat → Int) → (Int) → Prop) (μ1 : (Int → Nat → Int) → (Int) → Nat), I1 v6 v2 ∧ (∀ (v9 : Int → Nat → Int) (v10 : Int), I1 v9 v10 →
              0 ≤ v10 ∧ (0 ≤ v10 →
              v10 < v7 ∧ (v10 < v7 →
              v10 < v4 ∧ (v10 < v4 →
              ((v3 v10 0) = 0 →
                (-9223372036854775808 ≤ (v10 + 1) ∧ (v10 + 1) ≤ 9223372036854775807) ∧ ((-9223372036854775808 ≤ (v10 + 1) ∧ (v10 + 1) ≤ 9223372036854775807) →
                ¬ (v7 = 0) ∧ (¬ (v7 = 0) →
                I1 (setA v9 v10 1 (min (v9 v10 1) 0)) (Int.tmod (v10 + 1) v7) ∧ μ1 (setA v9 v10 1 (min (v9 v10 1) 0)) (Int.tmod (v10 + 1) v7) < μ1 v9 v10))) ∧
              (¬ ((v3 v10 0) = 0) →
                (0 < (v9 v10 1) →
                  v10 = pcW v0 v1 v2 v3 v4 ∧ v7 = pcN v0 v1 v2 v3 v4 v1 ∧ (∀ (i : Int) (f : Nat), 0 ≤ i → i < pcN v0 v1 v2 v3 v4 v1 → f < 2 → v9 i f = pcA v0 v1 v2 v3 v4 i f) ∧ v10 = pcT v0 v1 v2 v3 v4 ∧ (0 : Int) = pcE v0 v1 v2 v3 v4 ∧ True) ∧
                (¬ (0 < (v9 v10 1)) →
                  (-9223372036854775808 ≤ (1000 * (v9 v10 0)) ∧ (1000 * (v9 v10 0)) ≤ 9223372036854775807) ∧ ((-9223372036854775808 ≤ (1000 * (v9 v10 0)) ∧ (1000 * (v9 v10 0)) ≤ 9223372036854775807) →
                  (-9223372036854775808 ≤ ((v9 v10 1) + (1000 * (v9 v10 0))) ∧ ((v9 v10 1) + (1000 * (v9 v10 0))) ≤ 9223372036854775807) ∧ ((-9223372036854775808 ≤ ((v9 v10 1) + (1000 * (v9 v10 0))) ∧ ((v9 v10 1) + (1000 * (v9 v10 0))) ≤ 9223372036854775807) →
                  (-9223372036854775808 ≤ (v10 + 1) ∧ (v10 + 1) ≤ 9223372036854775807) ∧ ((-9223372036854775808 ≤ (v10 + 1) ∧ (v10 + 1) ≤ 9223372036854775807) →
                  ¬ (v7 = 0) ∧ (¬ (v7 = 0) →
                  I1 (setA v9 v10 1 ((v9 v10 1) + (1000 * (v9 v10 0)))) (Int.tmod (v10 + 1) v7) ∧ μ1 (setA v9 v10 1 ((v9 v10 1) + (1000 * (v9 v10 0)))) (Int.tmod (v10 + 1) v7) < μ1 v9 v10))))))))))) ∧
          (¬ (¬ ((v3 v8 0) = 0)) →
            (-9223372036854775808 ≤ (v8 + 1) ∧ (v8 + 1) ≤ 9223372036854775807) ∧ ((-9223372036854775808 ≤ (v8 + 1) ∧ (v8 + 1) ≤ 9223372036854775807) →
            I0 (v8 + 1) ∧ μ0 (v8 + 1) < μ0 v8)))) ∧
        (¬ (v8 < v4) →
          (-1 : Int) = pcW v0 v1 v2 v3 v4 ∧ v7 = pcN v0 v1 v2 v3 v4 v1 ∧ (∀ (i : Int) (f : Nat), 0 ≤ i → i < pcN v0 v1 v2 v3 v4 v1 → f < 2 → v6 i f = pcA v0 v1 v2 v3 v4 i f) ∧ v2 = pcT v0 v1 v2 v3 v4 ∧ (0 : Int) = pcE v0 v1 v2 v3 v4 ∧ True))))))))))))
theorem vh20 (h : VC20) : VH20 := by
  unfold VH20
  rw [hidF_eq ckA, hidF_eq pcA, hidF_eq pcE, hidF_eq pcN, hidF_eq pcT, hidF_eq pcW]
  exact h
/-! hotspotref44.Pick -/
def sig21 : CSig := ⟨[⟨true, [.slc [.int .i64, .int .i64], .int .i64]⟩, ⟨false, [.slc [.bool]]⟩], [⟨false, [.int .i64]⟩, ⟨true, [.slc [.int .i64, .int .i64], .int .i64]⟩, ⟨false, [.int .i64]⟩]⟩
def pre21 : List AV → Prop
  | [.a v0, .i v1, .i v2, .a v3, .i v4] => True
  | _ => False
noncomputable def raw21 : List AV → List AV
  | [.a v0, .i v1, .i v2, .a v3, .i v4] => [.i ((hidF pcW) v0 v1 v2 v3 v4), .a ((hidF pcA) v0 v1 v2 v3 v4), .i ((hidF pcN) v0 v1 v2 v3 v4 v1), .i ((hidF pcT) v0 v1 v2 v3 v4), .i ((hidF pcE) v0 v1 v2 v3 v4)]
  | _ => []

def VH21 : Prop :=
  ∀ (v0 : Int → Nat → Int) (v1 : Int) (v2 : Int) (v3 : Int → Nat → Int) (v4 : Int),
  (True) →
  (0 ≤ v1 →
  (0 ≤ v4 →
  (True) ∧ (∀ (v5 : Int), v5 = (hidF ckA) v0 v1 v2 → 
  (v1 ≤ 9223372036854775807 →
  (v4 ≤ 9223372036854775807 →
  (¬ (v5 = 0) →
    (0 : Int) = (hidF pcW) v0 v1 v2 v3 v4 ∧ (0 : Int) = (hidF pcN) v0 v1 v2 v3 v4 v1 ∧ (∀ (i : Int) (f : Nat), 0 ≤ i → i < (hidF pcN) v0 v1 v2 v3 v4 v1 → f < 2 → zA i f = (hidF pcA) v0 v1 v2 v3 v4 i f) ∧ (0 : Int) = (hidF pcT) v0 v1 v2 v3 v4 ∧ (8 : Int) = (hidF pcE) v0 v1 v2 v3 v4 ∧ True) ∧
  (¬ (¬ (v5 = 0)) →
    (¬ (v4 = v1) →
      (0 : Int) = (hidF pcW) v0 v1 v2 v3 v4 ∧ (0 : Int) = (hidF pcN) v0 v1 v2 v3 v4 v1 ∧ (∀ (i : Int) (f : Nat), 0 ≤ i → i < (hidF pcN) v0 v1 v2 v3 v4 v1 → f < 2 → zA i f = (hidF pcA) v0 v1 v2 v3 v4 i f) ∧ (0 : Int) = (hidF pcT) v0 v1 v2 v3 v4 ∧ (2 : Int) = (hidF pcE) v0 v1 v2 v3 v4 ∧ True) ∧
    (¬ (¬ (v4 = v1)) →
      ∃ (I0 : (Bool) → (Int) → Prop) (μ0 : (Bool) → (Int) → Nat), I0 false (0 : Int) ∧ (∀ (v6 : Bool) (v7 : Int), I0 v6 v7 →
        (v7 < v4 →
          (v6 = true ∨ 0 ≤ v7) ∧ ((v6 = true ∨ 0 ≤ v7) →
          (v6 = true ∨ 0 ≤ v7) ∧ ((v6 = true ∨ 0 ≤ v7) →
          (-9223372036854775808 ≤ (v7 + 1) ∧ (v7 + 1) ≤ 9223372036854775807) ∧ ((-9223372036854775808 ≤ (v7 + 1) ∧ (v7 + 1) ≤ 9223372036854775807) →
          I0 (v6 || (!(decide ((v3 v7 0) = 0)))) (v7 + 1) ∧ μ0 (v6 || (!(decide ((v3 v7 0) = 0)))) (v7 + 1) < μ0 v6 v7)))) ∧
        (¬ (v7 < v4) →
          (v1 ≤ 40) ∧ (∀ (v8 : Int → Nat → Int) (v9 : Int) (v10 : Int), v8 = v0 → v9 = v1 → v10 = v2 → 
          (0 ≤ v9 →
          ∃ (I1 : (Int → Nat → Int) → (Int) → (Int) → (Bool) → Prop) (μ1 : (Int → Nat → Int) → (Int) → (Int) → (Bool) → Nat), I1 v8 v9 v10 false ∧ (∀ (v11 : Int → Nat → Int) (v12 : Int) (v13 : Int) (v14 : Bool), I1 v11 v12 v13 v14 →
            (0 ≤ v12 →
            (v12 ≤ 9223372036854775807 →
            ((v6 = true ∧ ¬ (v14 = true)) →
              0 ≤ v13 ∧ (0 ≤ v13 →
              v13 < v4 ∧ (v13 < v4 →
              (v12 ≤ 40 ∧ 0 ≤ v13 ∧ v13 < v12 ∧ okS v11 v12) ∧ (∀ (v15 : Int → Nat → Int) (v16 : Int) (v17 : Int) (v18 : Bool), v15 = (hidF stA) (!(decide ((v3 v13 0) = 0))) v11 v13 → v16 = v12 → v17 = (hidF stT) (!(decide ((v3 v13 0) = 0))) v11 v12 v13 → v18 = (hidF cho) (!(decide ((v3 v13 0) = 0))) v11 v13 → 
              (0 ≤ v16 →
              (v16 ≤ 9223372036854775807 →
              I1 v15 v16 v17 v18 ∧ μ1 v15 v16 v17 v18 < μ1 v11 v12 v13 v14)))))) ∧
            (¬ ((v6 = true ∧ ¬ (v14 = true))) →
              (¬ (v6 = true) →
                (-1 : Int) = (hidF pcW) v0 v1 v2 v3 v4 ∧ v12 = (hidF pcN) v0 v1 v2 v3 v4 v1 ∧ (∀ (i : Int) (f : Nat), 0 ≤ i → i < (hidF pcN) v0 v1 v2 v3 v4 v1 → f < 2 → v11 i f = (hidF pcA) v0 v1 v2 v3 v4 i f) ∧ v13 = (hidF pcT) v0 v1 v2 v3 v4 ∧ (0 : Int) = (hidF pcE) v0 v1 v2 v3 v4 ∧ True) ∧
              (¬ (¬ (v6 = true)) →
                v13 = (hidF pcW) v0 v1 v2 v3 v4 ∧ v12 = (hidF pcN) v0 v1 v2 v3 v4 v1 ∧ (∀ (i : Int) (f : Nat), 0 ≤ i → i < (hidF pcN) v0 v1 v2 v3 v4 v1 → f < 2 → v11 i f = (hidF pcA) v0 v1 v2 v3 v4 i f) ∧ v13 = (hidF pcT) v0 v1 v2 v3 v4 ∧ (0 : Int) = (hidF pcE) v0 v1 v2 v3 v4 ∧ True))))))))))))))))
def VC21 : Prop :=
  ∀ (v0 : Int → Nat → Int) (v1 : Int) (v2 : Int) (v3 : Int → Nat → Int) (v4 : Int),
  (True) →
  (0 ≤ v1 →
  (0 ≤ v4 →
  (True) ∧ (∀ (v5 : Int), v5 = ckA v0 v1 v2 → 
  (v1 ≤ 9223372036854775807 →
  (v4 ≤ 9223372036854775807 →
  (¬ (v5 = 0) →
    (0 : Int) = pcW v0 v1 v2 v3 v4 ∧ (0 : Int) = pcN v0 v1 v2 v3 v4 v1 ∧ (∀ (i : Int) (f : Nat), 0 ≤ i → i < pcN v0 v1 v2 v3 v4 v1 → f < 2 → zA i f = pcA v0 v1 v2 v3 v4 i f) ∧ (0 : Int) = pcT v0 v1 v2 v3 v4 ∧ (8 : Int) = pcE v0 v1 v2 v3 v4 ∧ True) ∧
  (¬ (¬ (v5 = 0)) →
    (¬ (v4 = v1) →
      (0 : Int) = pcW v0 v1 v2 v3 v4 ∧ (0 : Int) = pcN v0 v1 v2 v3 v4 v1 ∧ (∀ (i : Int) (f : Nat), 0 ≤ i → i < pcN v0 v1 v2 v3 v4 v1 → f < 2 → zA i f = pcA v0 v1 v2 v3 v4 i f) ∧ (0 : Int) = pcT v0 v1 v2 v3 v4 ∧ (2 : Int) = pcE v0 v1 v2 v3 v4 ∧ True) ∧
    (¬ (¬ (v4 = v1)) →
      ∃ (I0 : (Bool) → (Int) → Prop) (μ0 : (Bool) → (Int) → Nat), I0 false (0 : Int) ∧ (∀ (v6 : Bool) (v7 : Int), I0 v6 v7 →
        (v7 < v4 →
          (v6 = true ∨ 0 ≤ v7) ∧ ((v6 = true ∨ 0 ≤ v7) →
          (v6 = true ∨ 0 ≤ v7) ∧ ((v6 = true ∨ 0 ≤ v7) →
          (-9223372036854775808 ≤ (v7 + 1) ∧ (v7 + 1) ≤ 9223372036854775807) ∧ ((-9223372036854775808 ≤ (v7 + 1) ∧ (v7 + 1) ≤ 9223372036854775807) →
          I0 (v6 || (!(decide ((v3 v7 0) = 0)))) (v7 + 1) ∧ μ0 (v6 || (!(decide ((v3 v7 0) = 0)))) (v7 + 1) < μ0 v6 v7)))) ∧
        (¬ (v7 < v4) →
          (v1 ≤ 40) ∧ (∀ (v8 : Int → Nat → Int) (v9 : Int) (v10 : Int), v8 = v0 → v9 = v1 → v10 = v2 → 
          (0 ≤ v9 →
          ∃ (I1 : (Int → Nat → Int) → (Int) → (Int) → (Bool) → Prop) (μ1 : (Int → Nat → Int) → (Int) → (Int) → (Bool) → Nat), I1 v8 v9 v10 false ∧ (∀ (v11 : Int → Nat → Int) (v12 : Int) (v13 : Int) (v14 : Bool), I1 v11 v12 v13 v14 →
            (0 ≤ v12 →
            (v12 ≤ 9223372036854775807 →
            ((v6 = true ∧ ¬ (v14 = true)) →
              0 ≤ v13 ∧ (0 ≤ v13 →
              v13 < v4 ∧ (v13 < v4 →
              (v12 ≤ 40 ∧ 0 ≤ v13 ∧ v13 < v12 ∧ okS v11 v12) ∧ (∀ (v15 : Int → Nat → Int) (v16 : Int) (v17 : Int) (v18 : Bool), v15 = stA (!(decide ((v3 v13 0) = 0))) v11 v13 → v16 = v12 → v17 = stT (!(decide ((v3 v13 0) = 0))) v11 v12 v13 → v18 = cho (!(decide ((v3 v13 0) = 0))) v11 v13 → 
              (0 ≤ v16 →
              (v16 ≤ 9223372036854775807 →
              I1 v15 v16 v17 v18 ∧ μ1 v15 v16 v17 v18 < μ1 v11 v12 v13 v14)))))) ∧
            (¬ ((v6 = true ∧ ¬ (v14 = true))) →
              (¬ (v6 = true) →
                (-1 : Int) = pcW v0 v1 v2 v3 v4 ∧ v12 = pcN v0 v1 v2 v3 v4 v1 ∧ (∀ (i : Int) (f : Nat), 0 ≤ i → i < pcN v0 v1 v2 v3 v4 v1 → f < 2 → v11 i f = pcA v0 v1 v2 v3 v4 i f) ∧ v13 = pcT v0 v1 v2 v3 v4 ∧ (0 : Int) = pcE v0 v1 v2 v3 v4 ∧ True) ∧
              (¬ (¬ (v6 = true)) →
                v13 = pcW v0 v1 v2 v3 v4 ∧ v12 = pcN v0 v1 v2 v3 v4 v1 ∧ (∀ (i : Int) (f : Nat), 0 ≤ i → i < pcN v0 v1 v2 v3 v4 v1 → f < 2 → v11 i f = pcA v0 v1 v2 v3 v4 i f) ∧ v13 = pcT v0 v1 v2 v3 v4 ∧ (0 : Int) = pcE v0 v1 v2 v3 v4 ∧ True))))))))))))))))
theorem vh21 (h : VC21) : VH21 := by
  unfold VH21
  rw [hidF_eq cho, hidF_eq ckA, hidF_eq pcA, hidF_eq pcE, hidF_eq pcN, hidF_eq pcT, hidF_eq pcW, hidF_eq stA, hidF_eq stT]
  exact h
end Go.Proofs.Ytccmgepknjkakaa
