/- What Due does, and what is left to show. -/
import Derived.Test.YtpbpmabnmakdoaaD3
set_option linter.unusedVariables false
namespace Go.Proofs.Ytpbpmabnmakdoaa
open Go Go.RowKit Go.Proofs.Ytpbpmabnmakdoaa.Vc
/-! hotspot/clock.CheckTimers -/
def sig36 : CSig := ⟨[⟨true, [.int .i64, .slc [.int .i64, .int .i64, .int .i64]]⟩], [⟨false, [.int .i64]⟩]⟩
def pre36 : List AV → Prop
  | [.i v0, .a v1, .i v2] => True
  | _ => False
noncomputable def raw36 : List AV → List AV
  | [.i v0, .a v1, .i v2] => [.i (chkT v0 v1 v2)]
  | _ => []

def VC36 : Prop :=
  ∀ (v0 : Int) (v1 : Int → Nat → Int) (v2 : Int),
  (True) →
  (0 ≤ v2 →
  (v2 ≤ 9223372036854775807 →
  (((256 < v2 ∨ v0 < 0) ∨ 1099511627776 < v0) →
    (8 : Int) = chkT v0 v1 v2 ∧ True) ∧
  (¬ (((256 < v2 ∨ v0 < 0) ∨ 1099511627776 < v0)) →
    ∃ (I0 : (Int) → (Int) → Prop) (μ0 : (Int) → (Int) → Nat), I0 (0 : Int) (-1 : Int) ∧ (∀ (v3 : Int) (v4 : Int), I0 v3 v4 →
      (v3 < v2 →
        0 ≤ v3 ∧ (0 ≤ v3 →
        (((((v1 v3 0) < 0 ∨ 1099511627776 < (v1 v3 0)) ∨ (v1 v3 2) ≤ v4) ∨ v0 ≤ (v1 v3 2)) →
          (8 : Int) = chkT v0 v1 v2 ∧ True) ∧
        (¬ (((((v1 v3 0) < 0 ∨ 1099511627776 < (v1 v3 0)) ∨ (v1 v3 2) ≤ v4) ∨ v0 ≤ (v1 v3 2))) →
          (-9223372036854775808 ≤ (v3 + 1) ∧ (v3 + 1) ≤ 9223372036854775807) ∧ ((-9223372036854775808 ≤ (v3 + 1) ∧ (v3 + 1) ≤ 9223372036854775807) →
          I0 (v3 + 1) (v1 v3 2) ∧ μ0 (v3 + 1) (v1 v3 2) < μ0 v3 v4)))) ∧
      (¬ (v3 < v2) →
        (0 : Int) = chkT v0 v1 v2 ∧ True)))))
/-! hotspot/clock.Due -/
def sig22 : CSig := ⟨[⟨true, [.int .i64, .slc [.int .i64, .int .i64, .int .i64]]⟩, ⟨false, [.int .i64]⟩], [⟨false, [.slc [.int .i64]]⟩, ⟨true, [.int .i64, .slc [.int .i64, .int .i64, .int .i64]]⟩, ⟨false, [.int .i64]⟩]⟩
def pre22 : List AV → Prop
  | [.i v0, .a v1, .i v2, .i v3] => True
  | _ => False
noncomputable def raw22 : List AV → List AV
  | [.i v0, .a v1, .i v2, .i v3] => [.a (dueF v0 v1 v2 v3), .i (dueN v0 v1 v2 v3), .i (dueX v0 v1 v2), .a (stF v0 v1 v2 v3), .i (stN v0 v1 v2 v3), .i (chkT v0 v1 v2)]
  | _ => []

def VC22 : Prop :=
  ∀ (v0 : Int) (v1 : Int → Nat → Int) (v2 : Int) (v3 : Int),
  (True) →
  (0 ≤ v2 →
  (True) ∧ (∀ (v4 : Int), v4 = chkT v0 v1 v2 → 
  (v2 ≤ 9223372036854775807 →
  (¬ (v4 = 0) →
    (0 : Int) = dueN v0 v1 v2 v3 ∧ (∀ (i : Int) (f : Nat), 0 ≤ i → i < dueN v0 v1 v2 v3 → f < 1 → zA i f = dueF v0 v1 v2 v3 i f) ∧ (0 : Int) = dueX v0 v1 v2 ∧ (0 : Int) = stN v0 v1 v2 v3 ∧ (∀ (i : Int) (f : Nat), 0 ≤ i → i < stN v0 v1 v2 v3 → f < 3 → zA i f = stF v0 v1 v2 v3 i f) ∧ v4 = chkT v0 v1 v2 ∧ True) ∧
  (¬ (¬ (v4 = 0)) →
    (∀ (v5 : Bool),
    ((¬ (v5 = true) ∨ v2 = 0) →
    (v5 = true →
      ∃ (I0 : (Int) → Prop) (μ0 : (Int) → Nat), I0 (0 : Int) ∧ (∀ (v6 : Int), I0 v6 →
        (v6 < 0 →
          False) ∧
        (¬ (v6 < 0) →
          (Stb zA (0 : Int) (0 : Int)) ∧ (∀ (v7 : Int → Nat → Int) (v8 : Int), v7 = srtA zA 0 (0 : Int) → v8 = (0 : Int) → 
          ∃ (I1 : (Int → Nat → Int) → (Int) → (Int) → Prop) (μ1 : (Int → Nat → Int) → (Int) → (Int) → Nat), I1 zA (0 : Int) (0 : Int) ∧ (∀ (v9 : Int → Nat → Int) (v10 : Int) (v11 : Int), I1 v9 v10 v11 →
            (0 ≤ v10 →
            (v10 ≤ 9223372036854775807 →
            (v11 < 0 →
              False) ∧
            (¬ (v11 < 0) →
              (∀ (v12 : Bool),
              ((¬ (v12 = true) ∨ v2 = 0) →
              (v12 = true →
                ∃ (I2 : (Int) → Prop) (μ2 : (Int) → Nat), I2 (0 : Int) ∧ (∀ (v13 : Int), I2 v13 →
                  (v13 < 0 →
                    False) ∧
                  (¬ (v13 < 0) →
                    v10 = dueN v0 v1 v2 v3 ∧ (∀ (i : Int) (f : Nat), 0 ≤ i → i < dueN v0 v1 v2 v3 → f < 1 → v9 i f = dueF v0 v1 v2 v3 i f) ∧ v0 = dueX v0 v1 v2 ∧ (0 : Int) = stN v0 v1 v2 v3 ∧ (∀ (i : Int) (f : Nat), 0 ≤ i → i < stN v0 v1 v2 v3 → f < 3 → zA i f = stF v0 v1 v2 v3 i f) ∧ (0 : Int) = chkT v0 v1 v2 ∧ True))) ∧
              (¬ (v12 = true) →
                (v2 * 24) ≤ 140737488355328 ∧ ((v2 * 24) ≤ 140737488355328 →
                v2 ≤ 140737488355328 ∧ (v2 ≤ 140737488355328 →
                ∃ (I2 : (Int) → Prop) (μ2 : (Int) → Nat), I2 (0 : Int) ∧ (∀ (v13 : Int), I2 v13 →
                  (v13 < v2 →
                    0 ≤ v13 ∧ (0 ≤ v13 →
                    ((v1 v13 0) ≤ v3 →
                      (v13 = (-1) →
                        v10 = dueN v0 v1 v2 v3 ∧ (∀ (i : Int) (f : Nat), 0 ≤ i → i < dueN v0 v1 v2 v3 → f < 1 → v9 i f = dueF v0 v1 v2 v3 i f) ∧ v0 = dueX v0 v1 v2 ∧ v2 = stN v0 v1 v2 v3 ∧ (∀ (i : Int) (f : Nat), 0 ≤ i → i < stN v0 v1 v2 v3 → f < 3 → v1 i f = stF v0 v1 v2 v3 i f) ∧ (0 : Int) = chkT v0 v1 v2 ∧ True) ∧
                      (¬ (v13 = (-1)) →
                        (-9223372036854775808 ≤ (v13 + 1) ∧ (v13 + 1) ≤ 9223372036854775807) ∧ ((-9223372036854775808 ≤ (v13 + 1) ∧ (v13 + 1) ≤ 9223372036854775807) →
                        ∃ (I3 : (Int → Nat → Int) → (Int) → (Int) → (Int → Nat → Int) → Prop) (μ3 : (Int → Nat → Int) → (Int) → (Int) → (Int → Nat → Int) → Nat), I3 v1 v13 (v13 + 1) v1 ∧ (∀ (v14 : Int → Nat → Int) (v15 : Int) (v16 : Int) (v17 : Int → Nat → Int), I3 v14 v15 v16 v17 →
                          (v16 < v2 →
                            0 ≤ v16 ∧ (0 ≤ v16 →
                            (¬ ((v17 v16 0) ≤ v3) →
                              0 ≤ v15 ∧ (0 ≤ v15 →
                              v15 < v2 ∧ (v15 < v2 →
                              (-9223372036854775808 ≤ (v15 + 1) ∧ (v15 + 1) ≤ 9223372036854775807) ∧ ((-9223372036854775808 ≤ (v15 + 1) ∧ (v15 + 1) ≤ 9223372036854775807) →
                              (-9223372036854775808 ≤ (v16 + 1) ∧ (v16 + 1) ≤ 9223372036854775807) ∧ ((-9223372036854775808 ≤ (v16 + 1) ∧ (v16 + 1) ≤ 9223372036854775807) →
                              I3 (setA (setA (setA v17 v15 0 (v17 v16 0)) v15 1 (v17 v16 1)) v15 2 (v17 v16 2)) (v15 + 1) (v16 + 1) (setA (setA (setA v17 v15 0 (v17 v16 0)) v15 1 (v17 v16 1)) v15 2 (v17 v16 2)) ∧ μ3 (setA (setA (setA v17 v15 0 (v17 v16 0)) v15 1 (v17 v16 1)) v15 2 (v17 v16 2)) (v15 + 1) (v16 + 1) (setA (setA (setA v17 v15 0 (v17 v16 0)) v15 1 (v17 v16 1)) v15 2 (v17 v16 2)) < μ3 v14 v15 v16 v17))))) ∧
                            (¬ (¬ ((v17 v16 0) ≤ v3)) →
                              (-9223372036854775808 ≤ (v16 + 1) ∧ (v16 + 1) ≤ 9223372036854775807) ∧ ((-9223372036854775808 ≤ (v16 + 1) ∧ (v16 + 1) ≤ 9223372036854775807) →
                              I3 v17 v15 (v16 + 1) v17 ∧ μ3 v17 v15 (v16 + 1) v17 < μ3 v14 v15 v16 v17)))) ∧
                          (¬ (v16 < v2) →
                            0 ≤ v15 ∧ (0 ≤ v15 →
                            v15 ≤ v2 ∧ (v15 ≤ v2 →
                            v2 ≤ v2 ∧ (v2 ≤ v2 →
                            v15 ≤ v2 ∧ (v15 ≤ v2 →
                            v10 = dueN v0 v1 v2 v3 ∧ (∀ (i : Int) (f : Nat), 0 ≤ i → i < dueN v0 v1 v2 v3 → f < 1 → v9 i f = dueF v0 v1 v2 v3 i f) ∧ v0 = dueX v0 v1 v2 ∧ v15 = stN v0 v1 v2 v3 ∧ (∀ (i : Int) (f : Nat), 0 ≤ i → i < stN v0 v1 v2 v3 → f < 3 → v17 i f = stF v0 v1 v2 v3 i f) ∧ (0 : Int) = chkT v0 v1 v2 ∧ True))))))))) ∧
                    (¬ ((v1 v13 0) ≤ v3) →
                      (-9223372036854775808 ≤ (v13 + 1) ∧ (v13 + 1) ≤ 9223372036854775807) ∧ ((-9223372036854775808 ≤ (v13 + 1) ∧ (v13 + 1) ≤ 9223372036854775807) →
                      I2 (v13 + 1) ∧ μ2 (v13 + 1) < μ2 v13)))) ∧
                  (¬ (v13 < v2) →
                    v10 = dueN v0 v1 v2 v3 ∧ (∀ (i : Int) (f : Nat), 0 ≤ i → i < dueN v0 v1 v2 v3 → f < 1 → v9 i f = dueF v0 v1 v2 v3 i f) ∧ v0 = dueX v0 v1 v2 ∧ v2 = stN v0 v1 v2 v3 ∧ (∀ (i : Int) (f : Nat), 0 ≤ i → i < stN v0 v1 v2 v3 → f < 3 → v1 i f = stF v0 v1 v2 v3 i f) ∧ (0 : Int) = chkT v0 v1 v2 ∧ True))))))))))))))) ∧
    (¬ (v5 = true) →
      (v2 * 24) ≤ 140737488355328 ∧ ((v2 * 24) ≤ 140737488355328 →
      v2 ≤ 140737488355328 ∧ (v2 ≤ 140737488355328 →
      ∃ (I0 : (Int) → Prop) (μ0 : (Int) → Nat), I0 (0 : Int) ∧ (∀ (v6 : Int), I0 v6 →
        (v6 < v2 →
          0 ≤ v6 ∧ (0 ≤ v6 →
          (v3 < (v1 v6 0) →
            (v6 = (-1) →
              0 ≤ v2 ∧ (0 ≤ v2 →
              v2 ≤ v2 ∧ (v2 ≤ v2 →
              (Stb v1 v2 v2) ∧ (∀ (v7 : Int → Nat → Int) (v8 : Int), v7 = srtA v1 0 v2 → v8 = v2 → 
              ∃ (I1 : (Int → Nat → Int) → (Int) → (Int) → Prop) (μ1 : (Int → Nat → Int) → (Int) → (Int) → Nat), I1 zA (0 : Int) (0 : Int) ∧ (∀ (v9 : Int → Nat → Int) (v10 : Int) (v11 : Int), I1 v9 v10 v11 →
                (0 ≤ v10 →
                (v10 ≤ 9223372036854775807 →
                (v11 < v2 →
                  0 ≤ v11 ∧ (0 ≤ v11 →
                  ((v10 + 1) * 8) ≤ 140737488355328 ∧ (((v10 + 1) * 8) ≤ 140737488355328 →
                  (v10 + 1) ≤ 140737488355328 ∧ ((v10 + 1) ≤ 140737488355328 →
                  (-9223372036854775808 ≤ (v11 + 1) ∧ (v11 + 1) ≤ 9223372036854775807) ∧ ((-9223372036854775808 ≤ (v11 + 1) ∧ (v11 + 1) ≤ 9223372036854775807) →
                  I1 (appA v9 v10 (setA zA 0 0 (v7 v11 1))) (v10 + 1) (v11 + 1) ∧ μ1 (appA v9 v10 (setA zA 0 0 (v7 v11 1))) (v10 + 1) (v11 + 1) < μ1 v9 v10 v11))))) ∧
                (¬ (v11 < v2) →
                  (∀ (v12 : Bool),
                  ((¬ (v12 = true) ∨ v2 = 0) →
                  (v12 = true →
                    ∃ (I2 : (Int) → Prop) (μ2 : (Int) → Nat), I2 (0 : Int) ∧ (∀ (v13 : Int), I2 v13 →
                      (v13 < 0 →
                        False) ∧
                      (¬ (v13 < 0) →
                        v10 = dueN v0 v1 v2 v3 ∧ (∀ (i : Int) (f : Nat), 0 ≤ i → i < dueN v0 v1 v2 v3 → f < 1 → v9 i f = dueF v0 v1 v2 v3 i f) ∧ v0 = dueX v0 v1 v2 ∧ (0 : Int) = stN v0 v1 v2 v3 ∧ (∀ (i : Int) (f : Nat), 0 ≤ i → i < stN v0 v1 v2 v3 → f < 3 → zA i f = stF v0 v1 v2 v3 i f) ∧ (0 : Int) = chkT v0 v1 v2 ∧ True))) ∧
                  (¬ (v12 = true) →
                    ∃ (I2 : (Int) → Prop) (μ2 : (Int) → Nat), I2 (0 : Int) ∧ (∀ (v13 : Int), I2 v13 →
                      (v13 < v2 →
                        0 ≤ v13 ∧ (0 ≤ v13 →
                        ((v1 v13 0) ≤ v3 →
                          (v13 = (-1) →
                            v10 = dueN v0 v1 v2 v3 ∧ (∀ (i : Int) (f : Nat), 0 ≤ i → i < dueN v0 v1 v2 v3 → f < 1 → v9 i f = dueF v0 v1 v2 v3 i f) ∧ v0 = dueX v0 v1 v2 ∧ v2 = stN v0 v1 v2 v3 ∧ (∀ (i : Int) (f : Nat), 0 ≤ i → i < stN v0 v1 v2 v3 → f < 3 → v1 i f = stF v0 v1 v2 v3 i f) ∧ (0 : Int) = chkT v0 v1 v2 ∧ True) ∧
                          (¬ (v13 = (-1)) →
                            (-9223372036854775808 ≤ (v13 + 1) ∧ (v13 + 1) ≤ 9223372036854775807) ∧ ((-9223372036854775808 ≤ (v13 + 1) ∧ (v13 + 1) ≤ 9223372036854775807) →
                            ∃ (I3 : (Int → Nat → Int) → (Int) → (Int) → (Int → Nat → Int) → Prop) (μ3 : (Int → Nat → Int) → (Int) → (Int) → (Int → Nat → Int) → Nat), I3 v1 v13 (v13 + 1) v1 ∧ (∀ (v14 : Int → Nat → Int) (v15 : Int) (v16 : Int) (v17 : Int → Nat → Int), I3 v14 v15 v16 v17 →
                              (v16 < v2 →
                                0 ≤ v16 ∧ (0 ≤ v16 →
                                (¬ ((v17 v16 0) ≤ v3) →
                                  0 ≤ v15 ∧ (0 ≤ v15 →
                                  v15 < v2 ∧ (v15 < v2 →
                                  (-9223372036854775808 ≤ (v15 + 1) ∧ (v15 + 1) ≤ 9223372036854775807) ∧ ((-9223372036854775808 ≤ (v15 + 1) ∧ (v15 + 1) ≤ 9223372036854775807) →
                                  (-9223372036854775808 ≤ (v16 + 1) ∧ (v16 + 1) ≤ 9223372036854775807) ∧ ((-9223372036854775808 ≤ (v16 + 1) ∧ (v16 + 1) ≤ 9223372036854775807) →
                                  I3 (setA (setA (setA v17 v15 0 (v17 v16 0)) v15 1 (v17 v16 1)) v15 2 (v17 v16 2)) (v15 + 1) (v16 + 1) (setA (setA (setA v17 v15 0 (v17 v16 0)) v15 1 (v17 v16 1)) v15 2 (v17 v16 2)) ∧ μ3 (setA (setA (setA v17 v15 0 (v17 v16 0)) v15 1 (v17 v16 1)) v15 2 (v17 v16 2)) (v15 + 1) (v16 + 1) (setA (setA (setA v17 v15 0 (v17 v16 0)) v15 1 (v17 v16 1)) v15 2 (v17 v16 2)) < μ3 v14 v15 v16 v17))))) ∧
                                (¬ (¬ ((v17 v16 0) ≤ v3)) →
                                  (-9223372036854775808 ≤ (v16 + 1) ∧ (v16 + 1) ≤ 9223372036854775807) ∧ ((-9223372036854775808 ≤ (v16 + 1) ∧ (v16 + 1) ≤ 9223372036854775807) →
                                  I3 v17 v15 (v16 + 1) v17 ∧ μ3 v17 v15 (v16 + 1) v17 < μ3 v14 v15 v16 v17)))) ∧
                              (¬ (v16 < v2) →
                                0 ≤ v15 ∧ (0 ≤ v15 →
                                v15 ≤ v2 ∧ (v15 ≤ v2 →
                                v2 ≤ v2 ∧ (v2 ≤ v2 →
                                v15 ≤ v2 ∧ (v15 ≤ v2 →
                                v10 = dueN v0 v1 v2 v3 ∧ (∀ (i : Int) (f : Nat), 0 ≤ i → i < dueN v0 v1 v2 v3 → f < 1 → v9 i f = dueF v0 v1 v2 v3 i f) ∧ v0 = dueX v0 v1 v2 ∧ v15 = stN v0 v1 v2 v3 ∧ (∀ (i : Int) (f : Nat), 0 ≤ i → i < stN v0 v1 v2 v3 → f < 3 → v17 i f = stF v0 v1 v2 v3 i f) ∧ (0 : Int) = chkT v0 v1 v2 ∧ True))))))))) ∧
                        (¬ ((v1 v13 0) ≤ v3) →
                          (-9223372036854775808 ≤ (v13 + 1) ∧ (v13 + 1) ≤ 9223372036854775807) ∧ ((-9223372036854775808 ≤ (v13 + 1) ∧ (v13 + 1) ≤ 9223372036854775807) →
                          I2 (v13 + 1) ∧ μ2 (v13 + 1) < μ2 v13)))) ∧
                      (¬ (v13 < v2) →
                        v10 = dueN v0 v1 v2 v3 ∧ (∀ (i : Int) (f : Nat), 0 ≤ i → i < dueN v0 v1 v2 v3 → f < 1 → v9 i f = dueF v0 v1 v2 v3 i f) ∧ v0 = dueX v0 v1 v2 ∧ v2 = stN v0 v1 v2 v3 ∧ (∀ (i : Int) (f : Nat), 0 ≤ i → i < stN v0 v1 v2 v3 → f < 3 → v1 i f = stF v0 v1 v2 v3 i f) ∧ (0 : Int) = chkT v0 v1 v2 ∧ True))))))))))))) ∧
            (¬ (v6 = (-1)) →
              (-9223372036854775808 ≤ (v6 + 1) ∧ (v6 + 1) ≤ 9223372036854775807) ∧ ((-9223372036854775808 ≤ (v6 + 1) ∧ (v6 + 1) ≤ 9223372036854775807) →
              ∃ (I1 : (Int → Nat → Int) → (Int) → (Int) → (Int → Nat → Int) → Prop) (μ1 : (Int → Nat → Int) → (Int) → (Int) → (Int → Nat → Int) → Nat), I1 v1 v6 (v6 + 1) v1 ∧ (∀ (v7 : Int → Nat → Int) (v8 : Int) (v9 : Int) (v10 : Int → Nat → Int), I1 v7 v8 v9 v10 →
                (v9 < v2 →
                  0 ≤ v9 ∧ (0 ≤ v9 →
                  (¬ (v3 < (v10 v9 0)) →
                    0 ≤ v8 ∧ (0 ≤ v8 →
                    v8 < v2 ∧ (v8 < v2 →
                    (-9223372036854775808 ≤ (v8 + 1) ∧ (v8 + 1) ≤ 9223372036854775807) ∧ ((-9223372036854775808 ≤ (v8 + 1) ∧ (v8 + 1) ≤ 9223372036854775807) →
                    (-9223372036854775808 ≤ (v9 + 1) ∧ (v9 + 1) ≤ 9223372036854775807) ∧ ((-9223372036854775808 ≤ (v9 + 1) ∧ (v9 + 1) ≤ 9223372036854775807) →
                    I1 (setA (setA (setA v10 v8 0 (v10 v9 0)) v8 1 (v10 v9 1)) v8 2 (v10 v9 2)) (v8 + 1) (v9 + 1) (setA (setA (setA v10 v8 0 (v10 v9 0)) v8 1 (v10 v9 1)) v8 2 (v10 v9 2)) ∧ μ1 (setA (setA (setA v10 v8 0 (v10 v9 0)) v8 1 (v10 v9 1)) v8 2 (v10 v9 2)) (v8 + 1) (v9 + 1) (setA (setA (setA v10 v8 0 (v10 v9 0)) v8 1 (v10 v9 1)) v8 2 (v10 v9 2)) < μ1 v7 v8 v9 v10))))) ∧
                  (¬ (¬ (v3 < (v10 v9 0))) →
                    (-9223372036854775808 ≤ (v9 + 1) ∧ (v9 + 1) ≤ 9223372036854775807) ∧ ((-9223372036854775808 ≤ (v9 + 1) ∧ (v9 + 1) ≤ 9223372036854775807) →
                    I1 v10 v8 (v9 + 1) v10 ∧ μ1 v10 v8 (v9 + 1) v10 < μ1 v7 v8 v9 v10)))) ∧
                (¬ (v9 < v2) →
                  0 ≤ v8 ∧ (0 ≤ v8 →
                  v8 ≤ v2 ∧ (v8 ≤ v2 →
                  v2 ≤ v2 ∧ (v2 ≤ v2 →
                  v8 ≤ v2 ∧ (v8 ≤ v2 →
                  0 ≤ v8 ∧ (0 ≤ v8 →
                  v8 ≤ v8 ∧ (v8 ≤ v8 →
                  (Stb v10 v8 v8) ∧ (∀ (v11 : Int → Nat → Int) (v12 : Int), v11 = srtA v10 0 v8 → v12 = v8 → 
                  ∃ (I2 : (Int → Nat → Int) → (Int) → (Int) → Prop) (μ2 : (Int → Nat → Int) → (Int) → (Int) → Nat), I2 zA (0 : Int) (0 : Int) ∧ (∀ (v13 : Int → Nat → Int) (v14 : Int) (v15 : Int), I2 v13 v14 v15 →
                    (0 ≤ v14 →
                    (v14 ≤ 9223372036854775807 →
                    (v8 ≤ 9223372036854775807 →
                    (v15 < v8 →
                      0 ≤ v15 ∧ (0 ≤ v15 →
                      ((v14 + 1) * 8) ≤ 140737488355328 ∧ (((v14 + 1) * 8) ≤ 140737488355328 →
                      (v14 + 1) ≤ 140737488355328 ∧ ((v14 + 1) ≤ 140737488355328 →
                      (-9223372036854775808 ≤ (v15 + 1) ∧ (v15 + 1) ≤ 9223372036854775807) ∧ ((-9223372036854775808 ≤ (v15 + 1) ∧ (v15 + 1) ≤ 9223372036854775807) →
                      I2 (appA v13 v14 (setA zA 0 0 (v11 v15 1))) (v14 + 1) (v15 + 1) ∧ μ2 (appA v13 v14 (setA zA 0 0 (v11 v15 1))) (v14 + 1) (v15 + 1) < μ2 v13 v14 v15))))) ∧
                    (¬ (v15 < v8) →
                      (∀ (v16 : Bool),
                      ((¬ (v16 = true) ∨ v2 = 0) →
                      (v16 = true →
                        ∃ (I3 : (Int) → Prop) (μ3 : (Int) → Nat), I3 (0 : Int) ∧ (∀ (v17 : Int), I3 v17 →
                          (v17 < 0 →
                            False) ∧
                          (¬ (v17 < 0) →
                            v14 = dueN v0 v1 v2 v3 ∧ (∀ (i : Int) (f : Nat), 0 ≤ i → i < dueN v0 v1 v2 v3 → f < 1 → v13 i f = dueF v0 v1 v2 v3 i f) ∧ v0 = dueX v0 v1 v2 ∧ (0 : Int) = stN v0 v1 v2 v3 ∧ (∀ (i : Int) (f : Nat), 0 ≤ i → i < stN v0 v1 v2 v3 → f < 3 → zA i f = stF v0 v1 v2 v3 i f) ∧ (0 : Int) = chkT v0 v1 v2 ∧ True))) ∧
                      (¬ (v16 = true) →
                        ∃ (I3 : (Int) → Prop) (μ3 : (Int) → Nat), I3 (0 : Int) ∧ (∀ (v17 : Int), I3 v17 →
                          (v17 < v2 →
                            0 ≤ v17 ∧ (0 ≤ v17 →
                            ((v1 v17 0) ≤ v3 →
                              (v17 = (-1) →
                                v14 = dueN v0 v1 v2 v3 ∧ (∀ (i : Int) (f : Nat), 0 ≤ i → i < dueN v0 v1 v2 v3 → f < 1 → v13 i f = dueF v0 v1 v2 v3 i f) ∧ v0 = dueX v0 v1 v2 ∧ v2 = stN v0 v1 v2 v3 ∧ (∀ (i : Int) (f : Nat), 0 ≤ i → i < stN v0 v1 v2 v3 → f < 3 → v1 i f = stF v0 v1 v2 v3 i f) ∧ (0 : Int) = chkT v0 v1 v2 ∧ True) ∧
                              (¬ (v17 = (-1)) →
                                (-9223372036854775808 ≤ (v17 + 1) ∧ (v17 + 1) ≤ 9223372036854775807) ∧ ((-9223372036854775808 ≤ (v17 + 1) ∧ (v17 + 1) ≤ 9223372036854775807) →
                                ∃ (I4 : (Int → Nat → Int) → (Int) → (Int) → (Int → Nat → Int) → Prop) (μ4 : (Int → Nat → Int) → (Int) → (Int) → (Int → Nat → Int) → Nat), I4 v1 v17 (v17 + 1) v1 ∧ (∀ (v18 : Int → Nat → Int) (v19 : Int) (v20 : Int) (v21 : Int → Nat → Int), I4 v18 v19 v20 v21 →
                                  (v20 < v2 →
                                    0 ≤ v20 ∧ (0 ≤ v20 →
                                    (¬ ((v21 v20 0) ≤ v3) →
                                      0 ≤ v19 ∧ (0 ≤ v19 →
                                      v19 < v2 ∧ (v19 < v2 →
                                      (-9223372036854775808 ≤ (v19 + 1) ∧ (v19 + 1) ≤ 9223372036854775807) ∧ ((-9223372036854775808 ≤ (v19 + 1) ∧ (v19 + 1) ≤ 9223372036854775807) →
                                      (-9223372036854775808 ≤ (v20 + 1) ∧ (v20 + 1) ≤ 9223372036854775807) ∧ ((-9223372036854775808 ≤ (v20 + 1) ∧ (v20 + 1) ≤ 9223372036854775807) →
                                      I4 (setA (setA (setA v21 v19 0 (v21 v20 0)) v19 1 (v21 v20 1)) v19 2 (v21 v20 2)) (v19 + 1) (v20 + 1) (setA (setA (setA v21 v19 0 (v21 v20 0)) v19 1 (v21 v20 1)) v19 2 (v21 v20 2)) ∧ μ4 (setA (setA (setA v21 v19 0 (v21 v20 0)) v19 1 (v21 v20 1)) v19 2 (v21 v20 2)) (v19 + 1) (v20 + 1) (setA (setA (setA v21 v19 0 (v21 v20 0)) v19 1 (v21 v20 1)) v19 2 (v21 v20 2)) < μ4 v18 v19 v20 v21))))) ∧
                                    (¬ (¬ ((v21 v20 0) ≤ v3)) →
                                      (-9223372036854775808 ≤ (v20 + 1) ∧ (v20 + 1) ≤ 9223372036854775807) ∧ ((-9223372036854775808 ≤ (v20 + 1) ∧ (v20 + 1) ≤ 9223372036854775807) →
                                      I4 v21 v19 (v20 + 1) v21 ∧ μ4 v21 v19 (v20 + 1) v21 < μ4 v18 v19 v20 v21)))) ∧
                                  (¬ (v20 < v2) →
                                    0 ≤ v19 ∧ (0 ≤ v19 →
                                    v19 ≤ v2 ∧ (v19 ≤ v2 →
                                    v19 ≤ v2 ∧ (v19 ≤ v2 →
                                    v14 = dueN v0 v1 v2 v3 ∧ (∀ (i : Int) (f : Nat), 0 ≤ i → i < dueN v0 v1 v2 v3 → f < 1 → v13 i f = dueF v0 v1 v2 v3 i f) ∧ v0 = dueX v0 v1 v2 ∧ v19 = stN v0 v1 v2 v3 ∧ (∀ (i : Int) (f : Nat), 0 ≤ i → i < stN v0 v1 v2 v3 → f < 3 → v21 i f = stF v0 v1 v2 v3 i f) ∧ (0 : Int) = chkT v0 v1 v2 ∧ True)))))))) ∧
                            (¬ ((v1 v17 0) ≤ v3) →
                              (-9223372036854775808 ≤ (v17 + 1) ∧ (v17 + 1) ≤ 9223372036854775807) ∧ ((-9223372036854775808 ≤ (v17 + 1) ∧ (v17 + 1) ≤ 9223372036854775807) →
                              I3 (v17 + 1) ∧ μ3 (v17 + 1) < μ3 v17)))) ∧
                          (¬ (v17 < v2) →
                            v14 = dueN v0 v1 v2 v3 ∧ (∀ (i : Int) (f : Nat), 0 ≤ i → i < dueN v0 v1 v2 v3 → f < 1 → v13 i f = dueF v0 v1 v2 v3 i f) ∧ v0 = dueX v0 v1 v2 ∧ v2 = stN v0 v1 v2 v3 ∧ (∀ (i : Int) (f : Nat), 0 ≤ i → i < stN v0 v1 v2 v3 → f < 3 → v1 i f = stF v0 v1 v2 v3 i f) ∧ (0 : Int) = chkT v0 v1 v2 ∧ True)))))))))))))))))))))) ∧
          (¬ (v3 < (v1 v6 0)) →
            (-9223372036854775808 ≤ (v6 + 1) ∧ (v6 + 1) ≤ 9223372036854775807) ∧ ((-9223372036854775808 ≤ (v6 + 1) ∧ (v6 + 1) ≤ 9223372036854775807) →
            I0 (v6 + 1) ∧ μ0 (v6 + 1) < μ0 v6)))) ∧
        (¬ (v6 < v2) →
          0 ≤ v2 ∧ (0 ≤ v2 →
          v2 ≤ v2 ∧ (v2 ≤ v2 →
          (Stb v1 v2 v2) ∧ (∀ (v7 : Int → Nat → Int) (v8 : Int), v7 = srtA v1 0 v2 → v8 = v2 → 
          ∃ (I1 : (Int → Nat → Int) → (Int) → (Int) → Prop) (μ1 : (Int → Nat → Int) → (Int) → (Int) → Nat), I1 zA (0 : Int) (0 : Int) ∧ (∀ (v9 : Int → Nat → Int) (v10 : Int) (v11 : Int), I1 v9 v10 v11 →
            (0 ≤ v10 →
            (v10 ≤ 9223372036854775807 →
            (v11 < v2 →
              0 ≤ v11 ∧ (0 ≤ v11 →
              ((v10 + 1) * 8) ≤ 140737488355328 ∧ (((v10 + 1) * 8) ≤ 140737488355328 →
              (v10 + 1) ≤ 140737488355328 ∧ ((v10 + 1) ≤ 140737488355328 →
              (-9223372036854775808 ≤ (v11 + 1) ∧ (v11 + 1) ≤ 9223372036854775807) ∧ ((-9223372036854775808 ≤ (v11 + 1) ∧ (v11 + 1) ≤ 9223372036854775807) →
              I1 (appA v9 v10 (setA zA 0 0 (v7 v11 1))) (v10 + 1) (v11 + 1) ∧ μ1 (appA v9 v10 (setA zA 0 0 (v7 v11 1))) (v10 + 1) (v11 + 1) < μ1 v9 v10 v11))))) ∧
            (¬ (v11 < v2) →
              (∀ (v12 : Bool),
              ((¬ (v12 = true) ∨ v2 = 0) →
              (v12 = true →
                ∃ (I2 : (Int) → Prop) (μ2 : (Int) → Nat), I2 (0 : Int) ∧ (∀ (v13 : Int), I2 v13 →
                  (v13 < 0 →
                    False) ∧
                  (¬ (v13 < 0) →
                    v10 = dueN v0 v1 v2 v3 ∧ (∀ (i : Int) (f : Nat), 0 ≤ i → i < dueN v0 v1 v2 v3 → f < 1 → v9 i f = dueF v0 v1 v2 v3 i f) ∧ v0 = dueX v0 v1 v2 ∧ (0 : Int) = stN v0 v1 v2 v3 ∧ (∀ (i : Int) (f : Nat), 0 ≤ i → i < stN v0 v1 v2 v3 → f < 3 → zA i f = stF v0 v1 v2 v3 i f) ∧ (0 : Int) = chkT v0 v1 v2 ∧ True))) ∧
              (¬ (v12 = true) →
                ∃ (I2 : (Int) → Prop) (μ2 : (Int) → Nat), I2 (0 : Int) ∧ (∀ (v13 : Int), I2 v13 →
                  (v13 < v2 →
                    0 ≤ v13 ∧ (0 ≤ v13 →
                    ((v1 v13 0) ≤ v3 →
                      (v13 = (-1) →
                        v10 = dueN v0 v1 v2 v3 ∧ (∀ (i : Int) (f : Nat), 0 ≤ i → i < dueN v0 v1 v2 v3 → f < 1 → v9 i f = dueF v0 v1 v2 v3 i f) ∧ v0 = dueX v0 v1 v2 ∧ v2 = stN v0 v1 v2 v3 ∧ (∀ (i : Int) (f : Nat), 0 ≤ i → i < stN v0 v1 v2 v3 → f < 3 → v1 i f = stF v0 v1 v2 v3 i f) ∧ (0 : Int) = chkT v0 v1 v2 ∧ True) ∧
                      (¬ (v13 = (-1)) →
                        (-9223372036854775808 ≤ (v13 + 1) ∧ (v13 + 1) ≤ 9223372036854775807) ∧ ((-9223372036854775808 ≤ (v13 + 1) ∧ (v13 + 1) ≤ 9223372036854775807) →
                        ∃ (I3 : (Int → Nat → Int) → (Int) → (Int) → (Int → Nat → Int) → Prop) (μ3 : (Int → Nat → Int) → (Int) → (Int) → (Int → Nat → Int) → Nat), I3 v1 v13 (v13 + 1) v1 ∧ (∀ (v14 : Int → Nat → Int) (v15 : Int) (v16 : Int) (v17 : Int → Nat → Int), I3 v14 v15 v16 v17 →
                          (v16 < v2 →
                            0 ≤ v16 ∧ (0 ≤ v16 →
                            (¬ ((v17 v16 0) ≤ v3) →
                              0 ≤ v15 ∧ (0 ≤ v15 →
                              v15 < v2 ∧ (v15 < v2 →
                              (-9223372036854775808 ≤ (v15 + 1) ∧ (v15 + 1) ≤ 9223372036854775807) ∧ ((-9223372036854775808 ≤ (v15 + 1) ∧ (v15 + 1) ≤ 9223372036854775807) →
                              (-9223372036854775808 ≤ (v16 + 1) ∧ (v16 + 1) ≤ 9223372036854775807) ∧ ((-9223372036854775808 ≤ (v16 + 1) ∧ (v16 + 1) ≤ 9223372036854775807) →
                              I3 (setA (setA (setA v17 v15 0 (v17 v16 0)) v15 1 (v17 v16 1)) v15 2 (v17 v16 2)) (v15 + 1) (v16 + 1) (setA (setA (setA v17 v15 0 (v17 v16 0)) v15 1 (v17 v16 1)) v15 2 (v17 v16 2)) ∧ μ3 (setA (setA (setA v17 v15 0 (v17 v16 0)) v15 1 (v17 v16 1)) v15 2 (v17 v16 2)) (v15 + 1) (v16 + 1) (setA (setA (setA v17 v15 0 (v17 v16 0)) v15 1 (v17 v16 1)) v15 2 (v17 v16 2)) < μ3 v14 v15 v16 v17))))) ∧
                            (¬ (¬ ((v17 v16 0) ≤ v3)) →
                              (-9223372036854775808 ≤ (v16 + 1) ∧ (v16 + 1) ≤ 9223372036854775807) ∧ ((-9223372036854775808 ≤ (v16 + 1) ∧ (v16 + 1) ≤ 9223372036854775807) →
                              I3 v17 v15 (v16 + 1) v17 ∧ μ3 v17 v15 (v16 + 1) v17 < μ3 v14 v15 v16 v17)))) ∧
                          (¬ (v16 < v2) →
                            0 ≤ v15 ∧ (0 ≤ v15 →
                            v15 ≤ v2 ∧ (v15 ≤ v2 →
                            v2 ≤ v2 ∧ (v2 ≤ v2 →
                            v15 ≤ v2 ∧ (v15 ≤ v2 →
                            v10 = dueN v0 v1 v2 v3 ∧ (∀ (i : Int) (f : Nat), 0 ≤ i → i < dueN v0 v1 v2 v3 → f < 1 → v9 i f = dueF v0 v1 v2 v3 i f) ∧ v0 = dueX v0 v1 v2 ∧ v15 = stN v0 v1 v2 v3 ∧ (∀ (i : Int) (f : Nat), 0 ≤ i → i < stN v0 v1 v2 v3 → f < 3 → v17 i f = stF v0 v1 v2 v3 i f) ∧ (0 : Int) = chkT v0 v1 v2 ∧ True))))))))) ∧
                    (¬ ((v1 v13 0) ≤ v3) →
                      (-9223372036854775808 ≤ (v13 + 1) ∧ (v13 + 1) ≤ 9223372036854775807) ∧ ((-9223372036854775808 ≤ (v13 + 1) ∧ (v13 + 1) ≤ 9223372036854775807) →
                      I2 (v13 + 1) ∧ μ2 (v13 + 1) < μ2 v13)))) ∧
                  (¬ (v13 < v2) →
                    v10 = dueN v0 v1 v2 v3 ∧ (∀ (i : Int) (f : Nat), 0 ≤ i → i < dueN v0 v1 v2 v3 → f < 1 → v9 i f = dueF v0 v1 v2 v3 i f) ∧ v0 = dueX v0 v1 v2 ∧ v2 = stN v0 v1 v2 v3 ∧ (∀ (i : Int) (f : Nat), 0 ≤ i → i < stN v0 v1 v2 v3 → f < 3 → v1 i f = stF v0 v1 v2 v3 i f) ∧ (0 : Int) = chkT v0 v1 v2 ∧ True)))))))))))))))))))))))
end Go.Proofs.Ytpbpmabnmakdoaa
