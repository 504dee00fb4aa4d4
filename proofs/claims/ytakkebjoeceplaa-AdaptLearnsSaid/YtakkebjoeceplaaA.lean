/- Rate control in plain words: laws of the definitions. -/
import Derived.Test.YtakkebjoeceplaaD
namespace Go.Proofs.Ytakkebjoeceplaa
open Go Go.RowKit Go.Proofs.Ytakkebjoeceplaa.Vc
theorem allB_iff : ∀ {k : Nat} {p : Int → Bool}, allB k p = true ↔ ∀ i : Int, 0 ≤ i → i < k → p i = true
  | 0, p => ⟨fun _ i h0 h1 => by omega, fun _ => rfl⟩
  | k + 1, p => by
    simp only [allB, Bool.and_eq_true, allB_iff (k := k)]
    constructor
    · intro ⟨h1, h2⟩ i h0 hk
      by_cases h : i < k
      · exact h1 i h0 h
      · obtain rfl : i = k := by omega
        exact h2
    · intro h
      exact ⟨fun i h0 hk => h i h0 (by omega), h k (by omega) (by omega)⟩
theorem allN_iff {n : Int} {p : Int → Bool} : allB n.toNat p = true ↔ ∀ i : Int, 0 ≤ i → i < n → p i = true := by
  rw [allB_iff]
  constructor
  · intro h i h0 h1; exact h i h0 (by omega)
  · intro h i h0 h1; exact h i h0 (by omega)
theorem app_row {a : Int → Nat → Int} {n i : Int} {b : Int → Nat → Int} {g : Nat} : appA a n b i g = if i < n then a i g else b (i - n) g := rfl
theorem set_row {a : Int → Nat → Int} {i j : Int} {f g : Nat} {e : Int} : setA a i f e j g = if j = i ∧ g = f then e else a j g := rfl
theorem five {g : Nat} (h : g < 5) : g = 0 ∨ g = 1 ∨ g = 2 ∨ g = 3 ∨ g = 4 := by omega
/-- division towards zero, of nothing negative by a positive number -/
theorem tdiv_bd {a b : Int} (hb : 0 < b) (ha : 0 ≤ a) : 0 ≤ a.tdiv b ∧ a.tdiv b * b ≤ a ∧ a < a.tdiv b * b + b ∧ a.tdiv b ≤ a := by
  rw [Int.tdiv_eq_ediv_of_nonneg ha]
  have h1 := Int.emod_add_mul_ediv a b
  have h2 := Int.emod_nonneg a (show b ≠ 0 by omega)
  have h3 := Int.emod_lt_of_pos a hb
  have h4 : b * (a / b) = a / b * b := Int.mul_comm _ _
  have h5 : 0 ≤ a / b := Int.ediv_nonneg ha (by omega)
  have h6 : a / b ≤ a := Int.ediv_le_self _ ha
  omega
theorem okZ_iff {air tr go ch : Int} {kn : Bool} : okZ air tr go ch kn = true ↔ 1 ≤ air ∧ air ≤ 32767 ∧ 0 ≤ tr ∧ tr ≤ 10000 ∧ 0 ≤ go ∧ go ≤ tr ∧ 0 ≤ ch ∧ ch ≤ 1000 ∧ (kn = true ∨ ch = 0) := by
  unfold okZ; rw [decide_eq_true_eq]
theorem ck_ok {a : Int → Nat → Int} {n r : Int} : ckA a n r = 0 ↔ (1 ≤ n ∧ n ≤ 16 ∧ 0 ≤ r ∧ r ≤ 1099511627776 ∧ ∀ i : Int, 0 ≤ i → i < n → okR a i = true) := by
  rw [← allN_iff]
  unfold ckA
  split
  · rename_i h; exact ⟨fun _ => h, fun _ => rfl⟩
  · rename_i h; exact ⟨fun h' => by omega, fun h' => absurd h' h⟩
theorem ck_01 (a : Int → Nat → Int) (n r : Int) : ckA a n r = 0 ∨ ckA a n r = 8 := by unfold ckA; split <;> simp
theorem ck_bad {a : Int → Nat → Int} {n r : Int} (h : ¬ (1 ≤ n ∧ n ≤ 16 ∧ 0 ≤ r ∧ r ≤ 1099511627776 ∧ ∀ i : Int, 0 ≤ i → i < n → okR a i = true)) : ckA a n r = 8 := by
  rcases ck_01 a n r with h1 | h1
  · exact absurd (ck_ok.1 h1) h
  · exact h1
theorem okR_congr {a b : Int → Nat → Int} {i : Int} (h : ∀ g, g < 5 → a i g = b i g) : okR a i = okR b i := by
  unfold okR knB
  rw [h 0 (by omega), h 1 (by omega), h 2 (by omega), h 3 (by omega), h 4 (by omega)]
theorem ck_congr {a b : Int → Nat → Int} {n r : Int} (h : ∀ (i : Int) (g : Nat), 0 ≤ i → i < n → g < 5 → a i g = b i g) : ckA a n r = ckA b n r := by
  rcases ck_01 a n r with h1 | h1
  · rw [h1]
    obtain ⟨p1, p2, p3, p4, p5⟩ := ck_ok.1 h1
    exact (ck_ok.2 ⟨p1, p2, p3, p4, fun i i0 i1 => by rw [← okR_congr (fun g hg => h i g i0 i1 hg)]; exact p5 i i0 i1⟩).symm
  · rw [h1]
    refine (ck_bad fun h2 => ?_).symm
    obtain ⟨p1, p2, p3, p4, p5⟩ := h2
    rw [ck_ok.2 ⟨p1, p2, p3, p4, fun i i0 i1 => by rw [okR_congr (fun g hg => h i g i0 i1 hg)]; exact p5 i i0 i1⟩] at h1
    cases h1
/-- a row of five numbers -/
theorem row5 {e0 e1 e2 e3 e4 : Int} : ∀ g : Nat, g < 5 → setA (setA (setA (setA (setA zA 0 0 e0) 0 1 e1) 0 2 e2) 0 3 e3) 0 4 e4 0 g = if g = 0 then e0 else if g = 1 then e1 else if g = 2 then e2 else if g = 3 then e3 else e4 := by
  intro g hg
  rcases five hg with h | h | h | h | h <;> subst h <;> simp [setA]
theorem app5 {a b : Int → Nat → Int} {n : Int} {e0 e1 e2 e3 e4 : Int} (h : ∀ (i : Int) (g : Nat), 0 ≤ i → i < n → g < 5 → a i g = b i g) (h0 : b n 0 = e0) (h1 : b n 1 = e1) (h2 : b n 2 = e2) (h3 : b n 3 = e3) (h4 : b n 4 = e4) :
    ∀ (i : Int) (g : Nat), 0 ≤ i → i < n + 1 → g < 5 → appA a n (setA (setA (setA (setA (setA zA 0 0 e0) 0 1 e1) 0 2 e2) 0 3 e3) 0 4 e4) i g = b i g := by
  intro i g i0 i1 hg
  rw [app_row]
  by_cases hi : i < n
  · rw [if_pos hi]; exact h i g i0 hi hg
  · obtain rfl : i = n := by omega
    rw [if_neg hi, show i - i = 0 by omega, row5 g hg]
    rcases five hg with hh | hh | hh | hh | hh <;> subst hh <;> simp [h0, h1, h2, h3, h4]
section
variable {a : Int → Nat → Int} {n r rate t go : Int}
theorem rp_e8 (h : ckA a n r ≠ 0) : rpE a n r rate t go = 8 ∧ rpN a n r rate t go = 0 ∧ rpR a n r rate t go = 0 := by
  have e : rpE a n r rate t go = 8 := by unfold rpE; rw [if_neg h]
  exact ⟨e, by unfold rpN; rw [e]; rfl, by unfold rpR; rw [e]; rfl⟩
theorem rp_e2 (h : ckA a n r = 0) (h1 : ¬ (0 ≤ rate ∧ rate < n ∧ 0 ≤ t ∧ t ≤ 10000 ∧ 0 ≤ go ∧ go ≤ t)) : rpE a n r rate t go = 2 ∧ rpN a n r rate t go = 0 ∧ rpR a n r rate t go = 0 := by
  have e : rpE a n r rate t go = 2 := by unfold rpE; rw [if_pos h, if_neg h1]
  exact ⟨e, by unfold rpN; rw [e]; rfl, by unfold rpR; rw [e]; rfl⟩
theorem rp_e22 (h : ckA a n r = 0) (h1 : 0 ≤ rate ∧ rate < n ∧ 0 ≤ t ∧ t ≤ 10000 ∧ 0 ≤ go ∧ go ≤ t) (h2 : ¬ (a rate 1 + t ≤ 10000)) : rpE a n r rate t go = 22 ∧ rpN a n r rate t go = 0 ∧ rpR a n r rate t go = 0 := by
  have e : rpE a n r rate t go = 22 := by unfold rpE; rw [if_pos h, if_pos h1, if_neg h2]
  exact ⟨e, by unfold rpN; rw [e]; rfl, by unfold rpR; rw [e]; rfl⟩
theorem rp_e0 (h : ckA a n r = 0) (h1 : 0 ≤ rate ∧ rate < n ∧ 0 ≤ t ∧ t ≤ 10000 ∧ 0 ≤ go ∧ go ≤ t) (h2 : a rate 1 + t ≤ 10000) : rpE a n r rate t go = 0 ∧ rpN a n r rate t go = n ∧ rpR a n r rate t go = r := by
  have e : rpE a n r rate t go = 0 := by unfold rpE; rw [if_pos h, if_pos h1, if_pos h2]
  exact ⟨e, by unfold rpN; rw [e]; rfl, by unfold rpR; rw [e]; rfl⟩
theorem rp_set (i : Int) (g : Nat) : setA (setA a rate 1 (a rate 1 + t)) rate 2 (a rate 2 + go) i g = rpA a rate t go i g := by
  unfold setA rpA
  by_cases h2 : i = rate ∧ g = 2
  · rw [if_pos h2, if_pos h2, h2.1, h2.2]
  · rw [if_neg h2, if_neg h2]
    by_cases h1 : i = rate ∧ g = 1
    · rw [if_pos h1, if_pos h1, h1.1, h1.2]
    · rw [if_neg h1, if_neg h1]
theorem rd_e8 (h : ckA a n r ≠ 0) : rdE a n r = 8 ∧ rdN a n r = 0 ∧ rdR a n r = 0 := by
  have e : rdE a n r = 8 := by unfold rdE; rw [if_neg h]
  exact ⟨e, by unfold rdN; rw [e]; rfl, by unfold rdR; rw [e]; rfl⟩
theorem rd_e22 (h : ckA a n r = 0) (h1 : ¬ r < 1099511627776) : rdE a n r = 22 ∧ rdN a n r = 0 ∧ rdR a n r = 0 := by
  have e : rdE a n r = 22 := by unfold rdE; rw [if_pos h, if_neg h1]
  exact ⟨e, by unfold rdN; rw [e]; rfl, by unfold rdR; rw [e]; rfl⟩
theorem rd_e0 (h : ckA a n r = 0) (h1 : r < 1099511627776) : rdE a n r = 0 ∧ rdN a n r = n ∧ rdR a n r = r + 1 := by
  have e : rdE a n r = 0 := by unfold rdE; rw [if_pos h, if_pos h1]
  exact ⟨e, by unfold rdN; rw [e]; rfl, by unfold rdR; rw [e]; rfl⟩
end
theorem sm_iff {a : Int → Nat → Int} {n r : Int} {b : Int → Nat → Int} {m q : Int} : smA a n r b m q = true ↔ (n = m ∧ r = q) ∧ ∀ i : Int, 0 ≤ i → i < n → smR a b i = true := by
  unfold smA
  rw [Bool.and_eq_true, decide_eq_true_eq, allN_iff]
theorem smR_iff {a b : Int → Nat → Int} {i : Int} : smR a b i = true ↔ a i 0 = b i 0 ∧ a i 1 = b i 1 ∧ a i 2 = b i 2 ∧ a i 3 = b i 3 ∧ (a i 4 = 0 ↔ b i 4 = 0) := by
  unfold smR knB
  rw [Bool.and_eq_true, decide_eq_true_eq, beq_iff_eq]
  by_cases h1 : a i 4 = 0 <;> by_cases h2 : b i 4 = 0 <;> simp [h1, h2, and_assoc]
theorem sm_self (a : Int → Nat → Int) (n r : Int) : smA a n r a n r = true := sm_iff.2 ⟨⟨rfl, rfl⟩, fun i _ _ => smR_iff.2 ⟨rfl, rfl, rfl, rfl, Iff.rfl⟩⟩
theorem sm_round (a : Int → Nat → Int) (n r : Int) : smA (rdP a) (rdN a n r) (rdR a n r) (rdF a) (rdN a n r) (rdR a n r) = true := by
  refine sm_iff.2 ⟨⟨rfl, rfl⟩, fun i h0 h1 => smR_iff.2 ?_⟩
  have hc : ckA a n r = 0 := by
    rcases ck_01 a n r with h | h
    · exact h
    · rw [(rd_e8 (by omega)).2.1] at h1; omega
  have hn : i < n := by
    by_cases h : r < 1099511627776
    · rw [(rd_e0 hc h).2.1] at h1; exact h1
    · rw [(rd_e22 hc h).2.1] at h1; omega
  obtain ⟨_, _, _, _, hr⟩ := ck_ok.1 hc
  have := okZ_iff.1 (hr i h0 hn)
  unfold rdF
  by_cases h : a i 1 = 0
  · simp only [h, if_true]
    refine ⟨rfl, by simp [rdP], by simp [rdP]; omega, by simp [rdP, rdC, h], ?_⟩
    simp [rdP, rdK, knB, h]
  · rw [if_neg h]
    simp [h]
end Go.Proofs.Ytakkebjoeceplaa
