/- Clocks in plain words: laws of the definitions. -/
import Derived.Test.YtpbpmabnmakdoaaD
namespace Go.Proofs.Ytpbpmabnmakdoaa
open Go Go.RowKit Go.Proofs.Ytpbpmabnmakdoaa.Vc
theorem div_unique {a b q : Int} (hb : 0 < b) (h1 : q * b ≤ a) (h2 : a < q * b + b) : a.fdiv b = q := by
  rw [Int.fdiv_eq_ediv_of_nonneg _ (by omega)]
  have h3 : a / b < q + 1 := Int.ediv_lt_of_lt_mul hb (by rw [Int.add_mul, Int.one_mul]; exact h2)
  have h4 : q ≤ a / b := (Int.le_ediv_iff_mul_le hb).2 h1
  omega
/-- division towards zero, by a positive number -/
theorem tdiv_bd {a b : Int} (hb : 0 < b) : (0 ≤ a → 0 ≤ a.tdiv b ∧ a.tdiv b * b ≤ a ∧ a < a.tdiv b * b + b ∧ a.tdiv b ≤ a) ∧ (a < 0 → a.tdiv b ≤ 0 ∧ a ≤ a.tdiv b * b ∧ a.tdiv b * b < a + b ∧ a ≤ a.tdiv b) := by
  have key : ∀ c : Int, 0 ≤ c → 0 ≤ c.tdiv b ∧ c.tdiv b * b ≤ c ∧ c < c.tdiv b * b + b ∧ c.tdiv b ≤ c := by
    intro c hc
    rw [Int.tdiv_eq_ediv_of_nonneg hc]
    have h1 := Int.emod_add_mul_ediv c b
    have h2 := Int.emod_nonneg c (show b ≠ 0 by omega)
    have h3 := Int.emod_lt_of_pos c hb
    have h4 : b * (c / b) = c / b * b := Int.mul_comm _ _
    have h5 : 0 ≤ c / b := Int.ediv_nonneg hc (by omega)
    have h6 : c / b ≤ c := Int.ediv_le_self _ hc
    omega
  refine ⟨key a, fun ha => ?_⟩
  have h := key (-a) (by omega)
  rw [Int.neg_tdiv, Int.neg_mul] at h
  omega
theorem mul_bd {n p : Int} (hn : 0 ≤ n) (h1 : -100 ≤ p) (h2 : p ≤ 100) : -100 * n ≤ n * p ∧ n * p ≤ 100 * n := by
  have h3 := Int.mul_le_mul_of_nonneg_left h1 hn
  have h4 := Int.mul_le_mul_of_nonneg_left h2 hn
  omega
theorem fdiv_bd (x : Int) : Int.fdiv x 1000000 * 1000000 ≤ x ∧ x < Int.fdiv x 1000000 * 1000000 + 1000000 := by
  rw [Int.fdiv_eq_ediv_of_nonneg _ (by omega)]
  omega
theorem ck_ok {o p : Int} : ckZ o p = 0 ↔ okC o p := by
  unfold ckZ okC
  split <;> simp_all <;> omega
theorem ck_01 (o p : Int) : ckZ o p = 0 ∨ ckZ o p = 8 := by
  unfold ckZ
  split <;> simp
theorem okC_L {o p : Int} (h : okC o p) : okL o p := by unfold okC at h; unfold okL; omega
theorem tm_bd' {o p n : Int} (h : okL o p) (h0 : 0 ≤ n) (h1 : n ≤ 4398046511104) : -(2^47) ≤ tmZ o p n ∧ tmZ o p n ≤ 2^47 := by
  unfold okL at h
  have h2 := mul_bd (p := p) h0 (by omega) (by omega)
  have h3 := fdiv_bd (n * p)
  unfold tmZ
  omega
theorem tm_bd {o p n : Int} (h : okC o p) (h0 : 0 ≤ n) (h1 : n ≤ 4398046511104) : -(2^44) ≤ tmZ o p n ∧ tmZ o p n ≤ 2^44 := by
  unfold okC at h
  have h2 := mul_bd (p := p) h0 (by omega) (by omega)
  have h3 := fdiv_bd (n * p)
  unfold tmZ
  omega
theorem ad_twice {o p n b s : Int} (h : tmZ o p n ≤ b) : adZ (adZ o p n b) p n s = adZ o p n (max b s) := by
  unfold adZ tmZ at *
  omega
theorem ad_self {o p n : Int} : adZ o p n (tmZ o p n) = o := by unfold adZ; omega
theorem ad_bd {o p n b : Int} (h : okC o p) (h0 : 0 ≤ n) (h1 : n ≤ 4398046511104) (h2 : -(2^44) ≤ b) (h3 : b ≤ 2^44) : -(2^45) - 2^41 ≤ adZ o p n b ∧ adZ o p n b ≤ 2^45 + 2^41 := by
  have := tm_bd h h0 h1
  unfold okC at h
  unfold adZ
  omega
theorem best_ge (l : Int → Nat → Int) (now : Int) (row : Int → Int) (b : Int) : ∀ k, b ≤ best l now row k b
  | 0 => Int.le_refl _
  | k + 1 => by have := best_ge l now row b k; unfold best; omega
theorem best_bd (l : Int → Nat → Int) (now : Int) (row : Int → Int) (b : Int) (hb : -(2^44) ≤ b ∧ b ≤ 2^44) : ∀ k, (∀ j : Nat, j < k → okC (l (row j) 0) (l (row j) 1)) → 0 ≤ now → now ≤ 4398046511104 → -(2^44) ≤ best l now row k b ∧ best l now row k b ≤ 2^44
  | 0, _, _, _ => hb
  | k + 1, h, h0, h1 => by
    have := best_bd l now row b hb k (fun j hj => h j (by omega)) h0 h1
    have := tm_bd (h k (by omega)) h0 h1
    unfold best; omega
section
variable {l : Int → Nat → Int} {n : Int} {m : Int → Int} {f : Int → Int → Nat → Int} {k now : Int}
theorem rd_bad {i : Int} (h0 : 0 ≤ i) (h1 : i < n) (h : ckZ (l i 0) (l i 1) ≠ 0) : rdE l n m f k now = 8 ∧ rdN l n m f k now = 0 := by
  have e : rdE l n m f k now = 8 := by unfold rdE; rw [if_pos ⟨i, h0, h1, h⟩]
  exact ⟨e, by unfold rdN; rw [e]; rfl⟩
theorem rd_arg (hc : ∀ i, 0 ≤ i → i < n → ckZ (l i 0) (l i 1) = 0) (h : 32 < n ∨ k ≠ n ∨ now < 0 ∨ 1099511627776 < now ∨ ∃ i j : Int, 0 ≤ i ∧ i < k ∧ 0 ≤ j ∧ j < m i ∧ (f i j 0 < 0 ∨ n ≤ f i j 0)) : rdE l n m f k now = 2 ∧ rdN l n m f k now = 0 := by
  have e : rdE l n m f k now = 2 := by
    unfold rdE
    rw [if_neg (fun ⟨i, h0, h1, h2⟩ => h2 (hc i h0 h1)), if_pos h]
  exact ⟨e, by unfold rdN; rw [e]; rfl⟩
theorem rd_bad2 (hc : ∀ i, 0 ≤ i → i < n → ckZ (l i 0) (l i 1) = 0) (h : ¬ (32 < n ∨ k ≠ n ∨ now < 0 ∨ 1099511627776 < now ∨ ∃ i j : Int, 0 ≤ i ∧ i < k ∧ 0 ≤ j ∧ j < m i ∧ (f i j 0 < 0 ∨ n ≤ f i j 0)))
    {i : Int} (h0 : 0 ≤ i) (h1 : i < n) (h2 : ckZ (offs l m f now i) (l i 1) ≠ 0) : rdE l n m f k now = 8 ∧ rdN l n m f k now = 0 := by
  have e : rdE l n m f k now = 8 := by
    unfold rdE
    rw [if_neg (fun ⟨i, h0, h1, h2⟩ => h2 (hc i h0 h1)), if_neg h, if_pos ⟨i, h0, h1, h2⟩]
  exact ⟨e, by unfold rdN; rw [e]; rfl⟩
theorem rd_fine (hc : ∀ i, 0 ≤ i → i < n → ckZ (l i 0) (l i 1) = 0) (h : ¬ (32 < n ∨ k ≠ n ∨ now < 0 ∨ 1099511627776 < now ∨ ∃ i j : Int, 0 ≤ i ∧ i < k ∧ 0 ≤ j ∧ j < m i ∧ (f i j 0 < 0 ∨ n ≤ f i j 0)))
    (h2 : ∀ i, 0 ≤ i → i < n → ckZ (offs l m f now i) (l i 1) = 0) : rdE l n m f k now = 0 ∧ rdN l n m f k now = n := by
  have e : rdE l n m f k now = 0 := by
    unfold rdE
    rw [if_neg (fun ⟨i, h0, h1, h2⟩ => h2 (hc i h0 h1)), if_neg h, if_neg (fun ⟨i, h0, h1, h3⟩ => h3 (h2 i h0 h1))]
  exact ⟨e, by unfold rdN; rw [e]; rfl⟩
end
theorem same_iff (w : Nat) (a : Int → Nat → Int) (n : Int) (b : Int → Nat → Int) (m : Int) : sameB w a n b m = true ↔ n = m ∧ ∀ (i : Int) (g : Nat), 0 ≤ i → i < n → g < w → a i g = b i g := by
  unfold sameB; simp
theorem same_self (w : Nat) (a : Int → Nat → Int) (n : Int) : sameB w a n a n = true := (same_iff ..).2 ⟨rfl, fun _ _ _ _ _ => rfl⟩
/-- one more row -/
theorem app_row {a : Int → Nat → Int} {n i : Int} {b : Int → Nat → Int} {g : Nat} : appA a n b i g = if i < n then a i g else b (i - n) g := rfl
theorem set_row {a : Int → Nat → Int} {i j : Int} {f g : Nat} {e : Int} : setA a i f e j g = if j = i ∧ g = f then e else a j g := rfl
end Go.Proofs.Ytpbpmabnmakdoaa
