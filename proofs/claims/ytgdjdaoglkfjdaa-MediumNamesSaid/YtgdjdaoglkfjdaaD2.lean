/- Worlds of radios in plain words. -/
import Derived.Test.YtgdjdaoglkfjdaaB
namespace Go.Proofs.Ytgdjdaoglkfjdaa
open Go Go.RowKit
def allN : Nat → (Int → Bool) → Bool
  | 0, _ => true
  | k + 1, p => allN k p && p k
def allI (p : Int → Bool) (i : Int) : Bool := allN i.toNat p
theorem allI_zero {p : Int → Bool} : allI p 0 = true := rfl
theorem allI_succ {p : Int → Bool} {i : Int} (h : 0 ≤ i) : allI p (i + 1) = (allI p i && p i) := by
  unfold allI
  obtain ⟨k, rfl⟩ := Int.eq_ofNat_of_zero_le h
  rw [show ((k : Int) + 1).toNat = k + 1 by omega, show ((k : Int)).toNat = k by omega]
  rfl
theorem allN_at {p : Int → Bool} : ∀ {k : Nat}, allN k p = true → ∀ i : Int, 0 ≤ i → i < k → p i = true
  | 0, _, i, h0, h1 => by omega
  | k + 1, h, i, h0, h1 => by
    have h' : (allN k p && p k) = true := h
    rw [Bool.and_eq_true] at h'
    by_cases hi : i < k
    · exact allN_at h'.1 i h0 hi
    · obtain rfl : i = k := by omega
      exact h'.2
theorem allI_at {p : Int → Bool} {n i : Int} (h : allI p n = true) (h0 : 0 ≤ i) (h1 : i < n) : p i = true := allN_at h i h0 (by omega)
theorem allN_of {p : Int → Bool} : ∀ {k : Nat}, (∀ i : Int, 0 ≤ i → i < k → p i = true) → allN k p = true
  | 0, _ => rfl
  | k + 1, h => by
    show (allN k p && p k) = true
    rw [allN_of (fun i h0 h1 => h i h0 (by omega)), h k (by omega) (by omega)]; rfl
theorem allI_of {p : Int → Bool} {n : Int} (h : ∀ i : Int, 0 ≤ i → i < n → p i = true) : allI p n = true := allN_of fun i h0 h1 => h i h0 (by omega)
def okW (x y p c : Int) : Bool := decide (-10000 ≤ x ∧ x ≤ 10000 ∧ -10000 ≤ y ∧ y ≤ 10000 ∧ 0 ≤ p ∧ p ≤ 300 ∧ 1 ≤ c ∧ c ≤ 64)
def okX (a : Int → Nat → Int) (i : Int) : Bool := okW (a i 0) (a i 1) (a i 2) (a i 3)
def cellW (f : Int → Int → Nat → Int) (i j : Int) : Bool := decide (0 ≤ f i j 0 ∧ f i j 0 ≤ 600)
def rowW (l : Int → Int) (f : Int → Int → Nat → Int) (n i : Int) : Bool := decide (l i = n ∧ f i i 0 = 0) && allI (cellW f i) n
def ckW (a : Int → Nat → Int) (n : Int) (l : Int → Int) (f : Int → Int → Nat → Int) (m : Int) : Int := if 1 ≤ n ∧ n ≤ 32 ∧ (m = 0 ∨ m = n) ∧ allI (okX a) n = true ∧ allI (rowW l f n) m = true then 0 else 8
def asW (a : Int → Nat → Int) (n : Int) (l : Int → Int) (f : Int → Int → Nat → Int) (m : Int) (t : Int → Nat → Int) (k : Int) : Int := if ckW a n l f m = 0 then if allI (fun i => decide (0 ≤ t i 0 ∧ t i 0 < n)) k = true then 0 else 2 else 8
def dsW (a : Int → Nat → Int) (i j : Int) : Int := dist (a i 0) (a i 1) (a j 0) (a j 1)
def lvA (a : Int → Nat → Int) (f : Int → Int → Nat → Int) (m i j : Int) : Int := a i 2 - (loss (dsW a i j) + (if 0 < m then f i j 0 else 0))
def lvE (a : Int → Nat → Int) (n : Int) (l : Int → Int) (f : Int → Int → Nat → Int) (m i j : Int) : Int := if ckW a n l f m = 0 then if 0 ≤ i ∧ i < n ∧ 0 ≤ j ∧ j < n then 0 else 2 else 8
def lvV (a : Int → Nat → Int) (n : Int) (l : Int → Int) (f : Int → Int → Nat → Int) (m i j : Int) : Int := if lvE a n l f m i j = 0 then lvA a f m i j else 0
/-- j hears i -/
def hrA (a : Int → Nat → Int) (f : Int → Int → Nat → Int) (m j i : Int) : Bool := decide (i ≠ j ∧ a i 3 = a j 3 ∧ -820 ≤ lvA a f m i j)
def hrV (a : Int → Nat → Int) (n : Int) (l : Int → Int) (f : Int → Int → Nat → Int) (m j i : Int) : Bool := decide (lvE a n l f m j i = 0) && hrA a f m j i
def syR (f : Int → Int → Nat → Int) (n i : Int) : Bool := allI (fun j => decide (f i j 0 = f j i 0)) n
def syW (a : Int → Nat → Int) (n : Int) (l : Int → Int) (f : Int → Int → Nat → Int) (m : Int) : Bool := decide (ckW a n l f m = 0) && allI (syR f n) m
def grW (n : Int) (l : Int → Int) (m : Int) : Bool := decide (40 < n ∨ 40 < m) || !(allI (fun i => decide (l i ≤ 40)) m)
theorem ckW_08 (a : Int → Nat → Int) (n : Int) (l : Int → Int) (f : Int → Int → Nat → Int) (m : Int) : ckW a n l f m = 0 ∨ ckW a n l f m = 8 := by unfold ckW; split <;> simp
theorem ckW_ok {a : Int → Nat → Int} {n : Int} {l : Int → Int} {f : Int → Int → Nat → Int} {m : Int} (h : ckW a n l f m = 0) : 1 ≤ n ∧ n ≤ 32 ∧ (m = 0 ∨ m = n) ∧ allI (okX a) n = true ∧ allI (rowW l f n) m = true := by
  unfold ckW at h; split at h
  · assumption
  · omega
theorem ckW_row {a : Int → Nat → Int} {n : Int} {l : Int → Int} {f : Int → Int → Nat → Int} {m : Int} (h : ckW a n l f m = 0) (i : Int) (h0 : 0 ≤ i) (h1 : i < n) : -10000 ≤ a i 0 ∧ a i 0 ≤ 10000 ∧ -10000 ≤ a i 1 ∧ a i 1 ≤ 10000 ∧ 0 ≤ a i 2 ∧ a i 2 ≤ 300 := by
  have := allI_at (ckW_ok h).2.2.2.1 h0 h1
  unfold okX okW at this
  rw [decide_eq_true_eq] at this
  omega
theorem ckW_sh {a : Int → Nat → Int} {n : Int} {l : Int → Int} {f : Int → Int → Nat → Int} {m : Int} (h : ckW a n l f m = 0) (i j : Int) (h0 : 0 ≤ i) (h1 : i < m) (h2 : 0 ≤ j) (h3 : j < n) : l i = n ∧ 0 ≤ f i j 0 ∧ f i j 0 ≤ 600 := by
  have h4 := allI_at (ckW_ok h).2.2.2.2 h0 h1
  unfold rowW at h4
  rw [Bool.and_eq_true, decide_eq_true_eq] at h4
  have h5 := allI_at h4.2 h2 h3
  unfold cellW at h5
  rw [decide_eq_true_eq] at h5
  exact ⟨h4.1.1, h5⟩
theorem okd_iff {x1 y1 x2 y2 : Int} : okd x1 y1 x2 y2 = true ↔ (-10000 ≤ x1 ∧ x1 ≤ 10000) ∧ (-10000 ≤ y1 ∧ y1 ≤ 10000) ∧ (-10000 ≤ x2 ∧ x2 ≤ 10000) ∧ (-10000 ≤ y2 ∧ y2 ≤ 10000) := by
  simp [okd, inB, and_assoc]
theorem dist_ok {x1 y1 x2 y2 : Int} (h : okd x1 y1 x2 y2 = true) : diste x1 y1 x2 y2 = 0 ∧ 0 ≤ dist x1 y1 x2 y2 ∧ dist x1 y1 x2 y2 < 30000 ∧ dist x1 y1 x2 y2 * dist x1 y1 x2 y2 ≤ (x1 - x2) * (x1 - x2) + (y1 - y2) * (y1 - y2) ∧ (x1 - x2) * (x1 - x2) + (y1 - y2) * (y1 - y2) < (dist x1 y1 x2 y2 + 1) * (dist x1 y1 x2 y2 + 1) := by
  have h' := okd_iff.1 h
  have e : dist x1 y1 x2 y2 = isq ((x1 - x2) * (x1 - x2) + (y1 - y2) * (y1 - y2)) := if_pos h
  have s1 := @sq_bd (x1 - x2) (by omega) (by omega)
  have s2 := @sq_bd (y1 - y2) (by omega) (by omega)
  have := isq_spec ((x1 - x2) * (x1 - x2) + (y1 - y2) * (y1 - y2)) (by omega) (by omega)
  rw [e]
  exact ⟨if_pos h, this⟩
theorem dist_sym (x1 y1 x2 y2 : Int) : dist x1 y1 x2 y2 = dist x2 y2 x1 y1 ∧ diste x1 y1 x2 y2 = diste x2 y2 x1 y1 := by
  have hk : okd x1 y1 x2 y2 = okd x2 y2 x1 y1 := by
    unfold okd
    cases inB x1 (-10000) 10000 <;> cases inB y1 (-10000) 10000 <;> cases inB x2 (-10000) 10000 <;> cases inB y2 (-10000) 10000 <;> rfl
  have e1 : (x1 - x2) * (x1 - x2) = (x2 - x1) * (x2 - x1) := by rw [← Int.neg_sub x2 x1, Int.neg_mul_neg]
  have e2 : (y1 - y2) * (y1 - y2) = (y2 - y1) * (y2 - y1) := by rw [← Int.neg_sub y2 y1, Int.neg_mul_neg]
  unfold dist diste
  rw [hk, e1, e2]
  exact ⟨rfl, rfl⟩
theorem halvings_mono : ∀ (b a c : Nat), a < 2 ^ b → c ≤ a → halvings c ≤ halvings a
  | 0, a, c, h, hc => by
    have : a = 0 := by simp at h; omega
    have : c = a := by omega
    rw [this]; exact Nat.le_refl _
  | b + 1, a, c, h, hc => by
    by_cases h2 : c < 2
    · rw [halvings_lt c h2]; exact Nat.zero_le _
    · rw [halvings_ge c (by omega), halvings_ge a (by omega)]
      have := halvings_mono b (a / 2) (c / 2) (by rw [Nat.pow_succ] at h; omega) (by omega)
      omega
theorem halvings_two {a : Nat} (h : 1 ≤ a) : halvings (2 * a) = halvings a + 1 := by
  rw [halvings_ge (2 * a) (by omega)]
  congr 2; omega
theorem halvings_16 {a : Nat} (h : 1 ≤ a) : halvings (16 * a) = halvings a + 4 := by
  rw [show 16 * a = 2 * (2 * (2 * (2 * a))) by omega, halvings_two (by omega), halvings_two (by omega), halvings_two (by omega), halvings_two h]
theorem pow4_mono {a b : Int} (h0 : 1 ≤ a) (h : a ≤ b) : a * a * a * a ≤ b * b * b * b := by
  have h1 : a * a ≤ b * b := Int.mul_le_mul h h (by omega) (by omega)
  have hp : 0 ≤ a * a := Int.mul_nonneg (by omega) (by omega)
  have h2 : a * a * a ≤ b * b * b := Int.mul_le_mul h1 h (by omega) (by omega)
  have hq : 0 ≤ b * b * b := Int.le_trans (Int.mul_nonneg hp (by omega)) h2
  exact Int.mul_le_mul h2 h (by omega) hq
theorem loss_mono {a b : Int} (h : a ≤ b) (hb : b ≤ 30000) : loss a ≤ loss b := by
  unfold loss
  have h1 := pow4_mono (a := max a 1) (b := max b 1) (by omega) (by omega)
  have h2 := (pow4_bd (e := max b 1) (by omega) (by omega)).2.2.2.2
  have := halvings_mono 64 ((max b 1) * (max b 1) * (max b 1) * (max b 1)).toNat ((max a 1) * (max a 1) * (max a 1) * (max a 1)).toNat (by
    have : (810000000000000000 : Nat) < 2 ^ 64 := by decide
    omega) (by omega)
  omega
theorem loss_two {a : Int} (h : 1 ≤ a) (ha : a ≤ 15000) : loss (2 * a) = loss a + 60 := by
  unfold loss
  rw [show max (2 * a) 1 = 2 * a by omega, show max a 1 = a by omega]
  have e : 2 * a * (2 * a) * (2 * a) * (2 * a) = 16 * (a * a * a * a) := by grind
  have hb := pow4_bd (e := a) h (by omega)
  rw [e, show (16 * (a * a * a * a)).toNat = 16 * (a * a * a * a).toNat by omega, halvings_16 (by omega)]
  omega
theorem loss_lo (a : Int) : 400 ≤ loss a := by unfold loss; omega
theorem loss_hi {a : Int} (h : a ≤ 30000) : loss a ≤ 2000 := by
  have h1 := loss_mono h (Int.le_refl _)
  have h2 : loss 30000 ≤ 2000 := by
    unfold loss
    have := halvings_bd 64 ((max 30000 1) * (max 30000 1) * (max 30000 1) * (max 30000 1) : Int).toNat (by decide)
    omega
  omega
end Go.Proofs.Ytgdjdaoglkfjdaa
