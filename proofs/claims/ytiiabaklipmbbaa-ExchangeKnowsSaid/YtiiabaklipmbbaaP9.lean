/- How many parts of each kind a plan has. -/
import Derived.Test.YtiiabaklipmbbaaD
namespace Go.Proofs.Ytiiabaklipmbbaa
open Go Go.RowKit Go.Proofs.Ytiiabaklipmbbaa.Vc
/-- parts of kind c among the first k -/
def cf (x : Xc) (n c k : Int) : Int :=
  if c = 1 then (if x.p = 2 ∧ 1 ≤ k then 1 else 0)
  else if c = 2 then (if x.p = 2 ∧ 2 ≤ k then 1 else 0)
  else if c = 3 then (if x.p = 1 ∧ 1 ≤ k then 1 else 0)
  else if c = 4 then (if x.q = 0 then min n (max 0 ((k - exB x + 1) / 2)) else min n (max 0 (k - exB x)))
  else if c = 5 then (if x.q = 0 then min n (max 0 ((k - exB x) / 2)) else 0)
  else if c = 6 then (if x.q = 2 ∧ exB x + n + 1 ≤ k then 1 else 0)
  else (if x.q = 2 ∧ exB x + n + 2 ≤ k then 1 else 0)
theorem cf_zero (x : Xc) (n c : Int) (hn : 1 ≤ n) : cf x n c 0 = 0 := by
  have hB := exB_bd x
  unfold cf
  generalize exB x = b at *
  grind
theorem cf_succ (x : Xc) (n c k : Int) (hn : 1 ≤ n) (c1 : 1 ≤ c) (c7 : c ≤ 7) (k0 : 0 ≤ k) (k1 : k < exL x n) : cf x n c (k + 1) = cf x n c k + (if exK x n k = c then 1 else 0) := by
  have hB : exB x = if x.p = 1 then 1 else if x.p = 2 then 2 else 0 := rfl
  have hb := exB_bd x
  unfold exL exQ exT at k1
  unfold cf exK exQ
  generalize exB x = b at *
  by_cases hq : x.q = 0
  · simp only [hq, if_true, true_and] at *
    have : c = 1 ∨ c = 2 ∨ c = 3 ∨ c = 4 ∨ c = 5 ∨ c = 6 ∨ c = 7 := by omega
    rcases this with rfl | rfl | rfl | rfl | rfl | rfl | rfl <;> simp <;> grind
  · simp only [hq, if_false, false_and] at *
    have : c = 1 ∨ c = 2 ∨ c = 3 ∨ c = 4 ∨ c = 5 ∨ c = 6 ∨ c = 7 := by omega
    rcases this with rfl | rfl | rfl | rfl | rfl | rfl | rfl <;> simp <;> grind
theorem ct_row (x : Xc) (n c : Int) (hn : 1 ≤ n) (c1 : 1 ≤ c) (c7 : c ≤ 7) : ∀ k : Nat, (k : Int) ≤ exL x n → ctN (exRow x n) c k = cf x n c k
  | 0, _ => (cf_zero x n c hn).symm
  | k + 1, hk => by
    have ih := ct_row x n c hn c1 c7 k (by omega)
    have h := cf_succ x n c k hn c1 c7 (by omega) (by omega)
    have e : ((k + 1 : Nat) : Int) = (k : Int) + 1 := by omega
    simp only [ctN]
    rw [ih, e, h]
    rfl
/-- all parts -/
theorem ct_all (x : Xc) (n : Int) (hn : 1 ≤ n) (hL : 0 ≤ exL x n) : ctA (exRow x n) (exL x n) 1 = (if x.p = 2 then 1 else 0) ∧ ctA (exRow x n) (exL x n) 2 = (if x.p = 2 then 1 else 0) ∧ ctA (exRow x n) (exL x n) 3 = (if x.p = 1 then 1 else 0) ∧
    ctA (exRow x n) (exL x n) 4 = n ∧ ctA (exRow x n) (exL x n) 5 = (if x.q = 0 then n else 0) ∧ ctA (exRow x n) (exL x n) 6 = (if x.q = 2 then 1 else 0) ∧ ctA (exRow x n) (exL x n) 7 = (if x.q = 2 then 1 else 0) ∧
    exL x n = n + 2 * (if x.p = 2 then 1 else 0) + (if x.p = 1 then 1 else 0) + (if x.q = 0 then n else 0) + 2 * (if x.q = 2 then 1 else 0) := by
  have h : ∀ c, 1 ≤ c → c ≤ 7 → ctA (exRow x n) (exL x n) c = cf x n c (exL x n) := fun c c1 c7 => by
    have := ct_row x n c hn c1 c7 (exL x n).toNat (by omega)
    rw [Int.toNat_of_nonneg hL] at this
    exact this
  rw [h 1 (by omega) (by omega), h 2 (by omega) (by omega), h 3 (by omega) (by omega), h 4 (by omega) (by omega), h 5 (by omega) (by omega), h 6 (by omega) (by omega), h 7 (by omega) (by omega)]
  have hb := exB_bd x
  unfold cf exL exQ exT
  have hB : exB x = if x.p = 1 then 1 else if x.p = 2 then 2 else 0 := rfl
  generalize exB x = b at *
  by_cases hq : x.q = 0
  · simp only [hq, if_true, true_and] at *
    simp
    grind
  · simp only [hq, if_false, false_and] at *
    simp
    grind
end Go.Proofs.Ytiiabaklipmbbaa
