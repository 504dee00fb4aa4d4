/- A managed queue in plain words: what the functions of the program and of the reference return. -/
import Derived.Test.YtjlljcencbppcaaW
namespace Go.Proofs.Ytjlljcencbppcaa
open Go Go.RowKit Go.Proofs.Ytjlljcencbppcaa.Vc
/-- the first i all have it -/
def allN : Nat → (Int → Bool) → Bool
  | 0, _ => true
  | k + 1, p => allN k p && p k
def allI (p : Int → Bool) (i : Int) : Bool := allN i.toNat p
/-- the sum of the first -/
def sumN (p : Int → Int) : Nat → Int
  | 0 => 0
  | k + 1 => sumN p k + p k
def sumI (p : Int → Int) (i : Int) : Int := sumN p i.toNat
/-- how many of the first have it -/
def cntN (p : Int → Bool) : Nat → Int
  | 0 => 0
  | k + 1 => cntN p k + (if p k = true then 1 else 0)
def cntI (p : Int → Bool) (i : Int) : Int := cntN p i.toNat
theorem allI_zero {p : Int → Bool} : allI p 0 = true := rfl
theorem allI_succ {p : Int → Bool} {i : Int} (h : 0 ≤ i) : allI p (i + 1) = (allI p i && p i) := by
  unfold allI
  obtain ⟨k, rfl⟩ := Int.eq_ofNat_of_zero_le h
  rw [show ((k : Int) + 1).toNat = k + 1 by omega, show ((k : Int)).toNat = k by omega]
  rfl
theorem allN_at {p : Int → Bool} : ∀ {k : Nat}, allN k p = true → ∀ i : Int, 0 ≤ i → i < k → p i = true
  | 0, _, i, h0, h1 => by omega
  | k + 1, h, i, h0, h1 => by
    have h' : (allN k p && p k) = true := h
    rw [Bool.and_eq_true] at h'
    by_cases hi : i < k
    · exact allN_at h'.1 i h0 hi
    · obtain rfl : i = k := by omega
      exact h'.2
theorem allI_at {p : Int → Bool} {n i : Int} (h : allI p n = true) (h0 : 0 ≤ i) (h1 : i < n) : p i = true := allN_at h i h0 (by omega)
theorem allN_of {p : Int → Bool} : ∀ {k : Nat}, (∀ i : Int, 0 ≤ i → i < k → p i = true) → allN k p = true
  | 0, _ => rfl
  | k + 1, h => by
    show (allN k p && p k) = true
    rw [allN_of (fun i h0 h1 => h i h0 (by omega)), h k (by omega) (by omega)]; rfl
theorem allI_of {p : Int → Bool} {n : Int} (h : ∀ i : Int, 0 ≤ i → i < n → p i = true) : allI p n = true := allN_of fun i h0 h1 => h i h0 (by omega)
theorem sumI_zero {p : Int → Int} : sumI p 0 = 0 := rfl
theorem sumI_succ {p : Int → Int} {i : Int} (h : 0 ≤ i) : sumI p (i + 1) = sumI p i + p i := by
  unfold sumI
  obtain ⟨k, rfl⟩ := Int.eq_ofNat_of_zero_le h
  rw [show ((k : Int) + 1).toNat = k + 1 by omega, show ((k : Int)).toNat = k by omega]
  rfl
theorem cntI_zero {p : Int → Bool} : cntI p 0 = 0 := rfl
theorem cntI_succ {p : Int → Bool} {i : Int} (h : 0 ≤ i) : cntI p (i + 1) = cntI p i + (if p i = true then 1 else 0) := by
  unfold cntI
  obtain ⟨k, rfl⟩ := Int.eq_ofNat_of_zero_le h
  rw [show ((k : Int) + 1).toNat = k + 1 by omega, show ((k : Int)).toNat = k by omega]
  rfl
theorem cntN_bd {p : Int → Bool} : ∀ k : Nat, 0 ≤ cntN p k ∧ cntN p k ≤ k
  | 0 => by simp [cntN]
  | k + 1 => by have := cntN_bd (p := p) k; unfold cntN; split <;> omega
theorem cntI_bd {p : Int → Bool} {i : Int} (h : 0 ≤ i) : 0 ≤ cntI p i ∧ cntI p i ≤ i := by
  have := cntN_bd (p := p) i.toNat
  unfold cntI; omega
/-- what holds of the first alone is counted off -/
theorem cntN_pre {p : Int → Bool} : ∀ {k : Nat}, (∀ i j : Int, 0 ≤ i → i ≤ j → j < k → p j = true → p i = true) → ∀ i : Int, 0 ≤ i → i < k → (p i = true ↔ i < cntN p k)
  | 0, _, i, h0, h1 => by omega
  | k + 1, h, i, h0, h1 => by
    have ih := cntN_pre (p := p) (k := k) (fun i j a b c => h i j a b (by omega))
    have hb := cntN_bd (p := p) k
    unfold cntN
    by_cases hk : p k = true
    · rw [if_pos hk]
      have hall : ∀ i : Int, 0 ≤ i → i < k → p i = true := fun i a b => h i k a (by omega) (by omega) hk
      have : cntN p k = k := by
        by_cases hc : cntN p k < k
        · exact absurd ((ih (cntN p k) hb.1 hc).1 (hall _ hb.1 hc)) (by omega)
        · omega
      rw [this]
      refine ⟨fun _ => by omega, fun _ => ?_⟩
      by_cases hi : i < k
      · exact hall i h0 hi
      · obtain rfl : i = k := by omega
        exact hk
    · rw [if_neg hk, Int.add_zero]
      by_cases hi : i < k
      · exact ih i h0 hi
      · obtain rfl : i = k := by omega
        exact ⟨fun h => absurd h hk, fun h => by omega⟩
theorem cntI_pre {p : Int → Bool} {n : Int} (h : ∀ i j : Int, 0 ≤ i → i ≤ j → j < n → p j = true → p i = true) (i : Int) (h0 : 0 ≤ i) (h1 : i < n) : p i = true ↔ i < cntI p n :=
  cntN_pre (fun i j a b c => h i j a b (by omega)) i h0 (by omega)
/-- a row: 0 id, 1 bytes, 2 time -/
def okI (a : Int → Nat → Int) (i : Int) : Bool := decide (0 ≤ a i 2 ∧ a i 2 ≤ 1099511627776 ∧ 0 ≤ a i 1 ∧ a i 1 ≤ 2304 ∧ (0 < i → a (i - 1) 2 ≤ a i 2))
def ckQ (a : Int → Nat → Int) (n u k : Int) : Int := if n ≤ 256 ∧ 0 ≤ u ∧ u ≤ 2199023255552 ∧ 0 ≤ k ∧ k ≤ 256 ∧ (u = 0 → k = 0) ∧ allI (okI a) n = true then 0 else 8
def ltQ (a : Int → Nat → Int) (n : Int) : Int := if n = 0 then 0 else a (n - 1) 2
def asE (a : Int → Nat → Int) (n u k now : Int) : Int := if ckQ a n u k = 0 then if ltQ a n ≤ now ∧ 0 ≤ now ∧ now ≤ 1099511627776 then 0 else 2 else 8
def puE (a : Int → Nat → Int) (n u k bytes now : Int) : Int := if asE a n u k now = 8 then 8 else if asE a n u k now = 0 ∧ 0 ≤ bytes ∧ bytes ≤ 2304 then if n = 256 then 22 else 0 else 2
def puA (a : Int → Nat → Int) (n id bytes now : Int) : Int → Nat → Int := fun i f => if i = n then if f = 0 then id else if f = 1 then bytes else now else a i f
def puN (a : Int → Nat → Int) (n u k bytes now : Int) : Int := if puE a n u k bytes now = 0 then n + 1 else 0
def puU (a : Int → Nat → Int) (n u k bytes now : Int) : Int := if puE a n u k bytes now = 0 then u else 0
def puK (a : Int → Nat → Int) (n u k bytes now : Int) : Int := if puE a n u k bytes now = 0 then k else 0
/-- taking: whether the first is dropped, the window, the run -/
def tkD (a : Int → Nat → Int) (n u k now : Int) : Int := if asE a n u k now = 0 ∧ 0 < n ∧ 5000 ≤ now - a 0 2 ∧ u ≠ 0 ∧ u ≤ now then 1 else 0
def tkG (a : Int → Nat → Int) (n u k now : Int) : Int := if asE a n u k now = 0 ∧ tkD a n u k now < n then 1 else 0
def tkN (a : Int → Nat → Int) (n u k now : Int) : Int := if tkG a n u k now = 1 then n - tkD a n u k now - 1 else 0
def tkK (a : Int → Nat → Int) (n u k now : Int) : Int := if tkG a n u k now = 1 then if now - a 0 2 < 5000 then 0 else if tkD a n u k now = 1 then min (k + 1) 256 else k else 0
def tkU (a : Int → Nat → Int) (n u k now : Int) : Int := if tkG a n u k now = 1 then if now - a 0 2 < 5000 then 0 else if u = 0 then now + 100000 else if tkD a n u k now = 1 then now + Int.tdiv 100000 (min (k + 1) 256 + 1) else u else 0
def tkI (a : Int → Nat → Int) (n u k now : Int) (f : Nat) : Int := if tkG a n u k now = 1 then a (tkD a n u k now) f else 0
/-- ageing: how many are dropped -/
def agD (a : Int → Nat → Int) (n now life : Int) : Int := cntI (fun i => decide (life < now - a i 2)) n
def agE (a : Int → Nat → Int) (n u k now life : Int) : Int := if asE a n u k now = 0 then if 0 ≤ life ∧ life ≤ 1099511627776 then 0 else 2 else asE a n u k now
def agN (a : Int → Nat → Int) (n u k now life : Int) : Int := if agE a n u k now life = 0 then n - agD a n now life else 0
def agC (a : Int → Nat → Int) (n u k now life : Int) : Int := if agE a n u k now life = 0 then agD a n now life else 0
def agU (a : Int → Nat → Int) (n u k now life : Int) : Int := if agE a n u k now life = 0 then u else 0
def agK (a : Int → Nat → Int) (n u k now life : Int) : Int := if agE a n u k now life = 0 then k else 0
def byS (a : Int → Nat → Int) (n u k : Int) : Int := if ckQ a n u k = 0 then sumI (fun i => a i 1) n else 0
/-- the same -/
def smI (a : Int → Nat → Int) (n : Int) (b : Int → Nat → Int) (m : Int) : Bool := decide (n = m) && allI (fun i => decide (a i 0 = b i 0 ∧ a i 1 = b i 1 ∧ a i 2 = b i 2)) n
theorem ck_ok {a : Int → Nat → Int} {n u k : Int} (h : ckQ a n u k = 0) : n ≤ 256 ∧ 0 ≤ u ∧ u ≤ 2199023255552 ∧ 0 ≤ k ∧ k ≤ 256 ∧ (u = 0 → k = 0) ∧ allI (okI a) n = true := by
  unfold ckQ at h; split at h
  · assumption
  · omega
theorem ck_08 (a : Int → Nat → Int) (n u k : Int) : ckQ a n u k = 0 ∨ ckQ a n u k = 8 := by unfold ckQ; split <;> simp
theorem ck_row {a : Int → Nat → Int} {n u k : Int} (h : ckQ a n u k = 0) (i : Int) (h0 : 0 ≤ i) (h1 : i < n) : 0 ≤ a i 2 ∧ a i 2 ≤ 1099511627776 ∧ 0 ≤ a i 1 ∧ a i 1 ≤ 2304 ∧ (0 < i → a (i - 1) 2 ≤ a i 2) := by
  have := allI_at (ck_ok h).2.2.2.2.2.2 h0 h1
  unfold okI at this
  rwa [decide_eq_true_eq] at this
/-- times do not fall -/
theorem ck_mono {a : Int → Nat → Int} {n u k : Int} (h : ckQ a n u k = 0) : ∀ (d : Nat) (i : Int), 0 ≤ i → i + d < n → a i 2 ≤ a (i + d) 2
  | 0, i, _, _ => by simp
  | d + 1, i, h0, h1 => by
    have h2 := ck_mono h d i h0 (by omega)
    have h3 := (ck_row h (i + (d + 1 : Nat)) (by omega) (by omega)).2.2.2.2 (by omega)
    rw [show i + ((d + 1 : Nat) : Int) - 1 = i + d by omega] at h3
    exact Int.le_trans h2 h3
theorem ck_le {a : Int → Nat → Int} {n u k : Int} (h : ckQ a n u k = 0) {i j : Int} (h0 : 0 ≤ i) (h1 : i ≤ j) (h2 : j < n) : a i 2 ≤ a j 2 := by
  have := ck_mono h (j - i).toNat i h0 (by omega)
  rwa [show i + ((j - i).toNat : Int) = j by omega] at this
end Go.Proofs.Ytjlljcencbppcaa
