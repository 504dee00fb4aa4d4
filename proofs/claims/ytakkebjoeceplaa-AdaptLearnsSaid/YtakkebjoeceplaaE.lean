/- Rate control in plain words: values, the chain, samples. -/
import Derived.Test.YtakkebjoeceplaaA
namespace Go.Proofs.Ytakkebjoeceplaa
open Go Go.RowKit Go.Proofs.Ytakkebjoeceplaa.Vc
def vlA (air ch : Int) : Int := if ch < 100 then 0 else Int.tdiv (ch * 100000) air
def vlR (a : Int → Nat → Int) (i : Int) : Int := vlA (a i 0) (a i 3)
def vuE (a : Int → Nat → Int) (n r rate : Int) : Int := if ckA a n r = 0 then if 0 ≤ rate ∧ rate < n then 0 else 2 else 8
def vuV (a : Int → Nat → Int) (n r rate : Int) : Int := if vuE a n r rate = 0 then vlR a rate else 0
def saE (a : Int → Nat → Int) (n r k : Int) : Int := if ckA a n r = 0 then if 0 ≤ k ∧ k ≤ 1099511627776 then 0 else 2 else 8
def saV (a : Int → Nat → Int) (n r k : Int) : Int := if saE a n r k = 0 then Int.tmod (k + r) n else 0
def cmpA (x y : Int) : Int := if x < y then -1 else if y < x then 1 else 0
def or2 (a : Int → Nat → Int) : Int := if a 0 0 = 0 then a 1 0 else a 0 0
/-- the first of the greatest, but for one -/
def fsN (gt : Int → Int → Bool) (ex : Int) : Nat → Int
  | 0 => -1
  | k + 1 => if (k : Int) ≠ ex ∧ (fsN gt ex k < 0 ∨ gt k (fsN gt ex k) = true) then k else fsN gt ex k
def fsI (gt : Int → Int → Bool) (ex i : Int) : Int := fsN gt ex i.toNat
def gtV (a : Int → Nat → Int) (i j : Int) : Bool := decide (vlR a j < vlR a i ∨ vlR a i = vlR a j ∧ a i 0 < a j 0)
def gtC (a : Int → Nat → Int) (i j : Int) : Bool := decide (a j 3 < a i 3 ∨ a i 3 = a j 3 ∧ a i 0 < a j 0)
def gtL (a : Int → Nat → Int) (i j : Int) : Bool := decide (a j 0 < a i 0)
def ahA (a : Int → Nat → Int) (i k x y : Int) : Bool := decide (y < x ∨ x = y ∧ (a i 0 < a k 0 ∨ a i 0 = a k 0 ∧ i < k))
def ch0 (a : Int → Nat → Int) (n r : Int) : Int := if ckA a n r = 0 then fsI (gtV a) (-1) n else 0
def ch1 (a : Int → Nat → Int) (n r : Int) : Int := if ckA a n r = 0 then if fsI (gtV a) (ch0 a n r) n < 0 then ch0 a n r else fsI (gtV a) (ch0 a n r) n else 0
def ch2 (a : Int → Nat → Int) (n r : Int) : Int := if ckA a n r = 0 then fsI (gtC a) (-1) n else 0
def ch3 (a : Int → Nat → Int) (n r : Int) : Int := if ckA a n r = 0 then fsI (gtL a) (-1) n else 0
theorem fsI_zero {gt : Int → Int → Bool} {ex : Int} : fsI gt ex 0 = -1 := rfl
theorem fsI_succ {gt : Int → Int → Bool} {ex i : Int} (h : 0 ≤ i) : fsI gt ex (i + 1) = if i ≠ ex ∧ (fsI gt ex i < 0 ∨ gt i (fsI gt ex i) = true) then i else fsI gt ex i := by
  unfold fsI
  obtain ⟨k, rfl⟩ := Int.eq_ofNat_of_zero_le h
  rw [show ((k : Int) + 1).toNat = k + 1 by omega, show ((k : Int)).toNat = k by omega]
  rfl
theorem fsN_lt {gt : Int → Int → Bool} {ex : Int} : ∀ k : Nat, fsN gt ex k < k ∧ -1 ≤ fsN gt ex k
  | 0 => by simp [fsN]
  | k + 1 => by
    have := fsN_lt (gt := gt) (ex := ex) k
    unfold fsN; split <;> omega
theorem fsI_lt {gt : Int → Int → Bool} {ex i : Int} (h : 0 ≤ i) : fsI gt ex i < i ∧ -1 ≤ fsI gt ex i := by
  have := fsN_lt (gt := gt) (ex := ex) i.toNat
  unfold fsI; omega
theorem fsN_nn {gt : Int → Int → Bool} : ∀ k : Nat, 0 < k → 0 ≤ fsN gt (-1) k
  | 0, h => by omega
  | k + 1, _ => by
    have := fsN_lt (gt := gt) (ex := -1) k
    unfold fsN; split
    · omega
    · rename_i h
      by_cases hk : fsN gt (-1) k < 0
      · exact absurd ⟨by omega, .inl hk⟩ h
      · omega
theorem fsI_nn {gt : Int → Int → Bool} {i : Int} (h : 0 < i) : 0 ≤ fsI gt (-1) i := fsN_nn _ (by omega)
theorem fsI_one {gt : Int → Int → Bool} : fsI gt (-1) 1 = 0 := by
  rw [show (1 : Int) = 0 + 1 by omega, fsI_succ (by omega), fsI_zero]; simp
theorem fsN_ne {gt : Int → Int → Bool} {ex : Int} : ∀ k : Nat, fsN gt ex k < 0 ∨ fsN gt ex k ≠ ex
  | 0 => .inl (by simp [fsN])
  | k + 1 => by
    unfold fsN; split
    · rename_i h; exact .inr h.1
    · exact fsN_ne k
theorem fsI_ne {gt : Int → Int → Bool} {ex i : Int} : fsI gt ex i < 0 ∨ fsI gt ex i ≠ ex := fsN_ne _
/-- what the first of the greatest is -/
theorem fsN_spec {gt : Int → Int → Bool} {ex : Int} (irr : ∀ i, gt i i = false) (tr : ∀ i j k, gt i j = true → gt j k = true → gt i k = true) : ∀ k : Nat,
    (fsN gt ex k = -1 ∧ ∀ i : Int, 0 ≤ i → i < k → i = ex) ∨ (0 ≤ fsN gt ex k ∧ fsN gt ex k ≠ ex ∧ ∀ i : Int, 0 ≤ i → i < k → i ≠ ex → gt i (fsN gt ex k) = false)
  | 0 => .inl ⟨rfl, fun i h0 h1 => by omega⟩
  | k + 1 => by
    have ih := fsN_spec (ex := ex) irr tr k
    unfold fsN
    by_cases hk : (k : Int) = ex
    · rw [if_neg (fun h => h.1 hk)]
      rcases ih with ⟨e, h⟩ | ⟨h0, h1, h2⟩
      · exact .inl ⟨e, fun i i0 i1 => by
          by_cases hi : i < k
          · exact h i i0 hi
          · omega⟩
      · exact .inr ⟨h0, h1, fun i i0 i1 i2 => h2 i i0 (by omega) i2⟩
    · by_cases hg : fsN gt ex k < 0 ∨ gt k (fsN gt ex k) = true
      · rw [if_pos ⟨hk, hg⟩]
        refine .inr ⟨by omega, hk, fun i i0 i1 i2 => ?_⟩
        by_cases hi : i = k
        · rw [hi]; exact irr _
        · rcases ih with ⟨e, h⟩ | ⟨h0, h1, h2⟩
          · exact absurd (h i i0 (by omega)) i2
          · have h3 := h2 i i0 (by omega) i2
            have h4 := hg.resolve_left (by omega)
            cases h5 : gt i k
            · rfl
            · rw [tr _ _ _ h5 h4] at h3; cases h3
      · rw [if_neg (fun h => hg h.2)]
        rcases ih with ⟨e, h⟩ | ⟨h0, h1, h2⟩
        · exact absurd (.inl (by omega)) hg
        · refine .inr ⟨h0, h1, fun i i0 i1 i2 => ?_⟩
          by_cases hi : i = k
          · rw [hi]
            cases h5 : gt k (fsN gt ex k)
            · rfl
            · exact absurd (.inr h5) hg
          · exact h2 i i0 (by omega) i2
theorem fsI_spec {gt : Int → Int → Bool} {ex n : Int} (irr : ∀ i, gt i i = false) (tr : ∀ i j k, gt i j = true → gt j k = true → gt i k = true) (h : 0 ≤ n) :
    (fsI gt ex n = -1 ∧ ∀ i : Int, 0 ≤ i → i < n → i = ex) ∨ (0 ≤ fsI gt ex n ∧ fsI gt ex n ≠ ex ∧ ∀ i : Int, 0 ≤ i → i < n → i ≠ ex → gt i (fsI gt ex n) = false) := by
  have := fsN_spec (ex := ex) irr tr n.toNat
  rw [show ((n.toNat : Nat) : Int) = n by omega] at this
  exact this
theorem gtV_irr (a : Int → Nat → Int) (i : Int) : gtV a i i = false := by unfold gtV; simp
theorem gtC_irr (a : Int → Nat → Int) (i : Int) : gtC a i i = false := by unfold gtC; simp
theorem gtL_irr (a : Int → Nat → Int) (i : Int) : gtL a i i = false := by unfold gtL; simp
theorem gtV_tr (a : Int → Nat → Int) (i j k : Int) (h : gtV a i j = true) (h' : gtV a j k = true) : gtV a i k = true := by
  unfold gtV at *; rw [decide_eq_true_eq] at *; omega
theorem gtC_tr (a : Int → Nat → Int) (i j k : Int) (h : gtC a i j = true) (h' : gtC a j k = true) : gtC a i k = true := by
  unfold gtC at *; rw [decide_eq_true_eq] at *; omega
theorem gtL_tr (a : Int → Nat → Int) (i j k : Int) (h : gtL a i j = true) (h' : gtL a j k = true) : gtL a i k = true := by
  unfold gtL at *; rw [decide_eq_true_eq] at *; omega
/-- a row of a valid state -/
theorem ck_row {a : Int → Nat → Int} {n r : Int} (h : ckA a n r = 0) (i : Int) (h0 : 0 ≤ i) (h1 : i < n) : 1 ≤ a i 0 ∧ a i 0 ≤ 32767 ∧ 0 ≤ a i 1 ∧ a i 1 ≤ 10000 ∧ 0 ≤ a i 2 ∧ a i 2 ≤ a i 1 ∧ 0 ≤ a i 3 ∧ a i 3 ≤ 1000 ∧ (a i 4 = 0 → a i 3 = 0) ∧ okZ (a i 0) (a i 1) (a i 2) (a i 3) (!decide (a i 4 = 0)) = true := by
  have h2 := (ck_ok.1 h).2.2.2.2 i h0 h1
  have := okZ_iff.1 h2
  refine ⟨this.1, this.2.1, this.2.2.1, this.2.2.2.1, this.2.2.2.2.1, this.2.2.2.2.2.1, this.2.2.2.2.2.2.1, this.2.2.2.2.2.2.2.1, fun h4 => ?_, h2⟩
  have h5 := this.2.2.2.2.2.2.2.2
  unfold knB at h5
  rw [h4] at h5
  simpa using h5
theorem ck_n {a : Int → Nat → Int} {n r : Int} (h : ckA a n r = 0) : 1 ≤ n ∧ n ≤ 16 ∧ 0 ≤ r ∧ r ≤ 1099511627776 := by
  have := ck_ok.1 h; omega
theorem vlA_bd {air ch : Int} (h0 : 1 ≤ air) (h1 : 0 ≤ ch) (h2 : ch ≤ 1000) : 0 ≤ vlA air ch ∧ vlA air ch ≤ 100000000 := by
  unfold vlA; split
  · omega
  · have := tdiv_bd (a := ch * 100000) (b := air) (by omega) (by omega)
    omega
end Go.Proofs.Ytakkebjoeceplaa
