/- AdaptSamples: what is left to show. -/
import Derived.Test.YtakkebjoeceplaaP3
namespace Go.Proofs.Ytakkebjoeceplaa
open Go Go.RowKit Go.Proofs.Ytakkebjoeceplaa.Vc
/-- j is among the first k values -/
def seN (p : Int → Int) (j : Int) : Nat → Bool
  | 0 => false
  | k + 1 => seN p j k || decide (p k = j)
def seI (p : Int → Int) (j i : Int) : Bool := seN p j i.toNat
theorem seI_zero {p : Int → Int} {j : Int} : seI p j 0 = false := rfl
theorem seI_succ {p : Int → Int} {j i : Int} (h : 0 ≤ i) : seI p j (i + 1) = (seI p j i || decide (p i = j)) := by
  unfold seI
  obtain ⟨k, rfl⟩ := Int.eq_ofNat_of_zero_le h
  rw [show ((k : Int) + 1).toNat = k + 1 by omega, show ((k : Int)).toNat = k by omega]
  rfl
theorem seN_false {p : Int → Int} {j : Int} : ∀ {k : Nat}, (∀ t : Int, 0 ≤ t → t < k → p t ≠ j) → seN p j k = false
  | 0, _ => rfl
  | k + 1, h => by
    show (seN p j k || decide (p k = j)) = false
    rw [seN_false (fun t h0 h1 => h t h0 (by omega)), decide_eq_false (h k (by omega) (by omega))]; rfl
theorem seI_false {p : Int → Int} {j i : Int} (h : ∀ t : Int, 0 ≤ t → t < i → p t ≠ j) : seI p j i = false := seN_false fun t h0 h1 => h t h0 (by omega)
theorem mod_ne {a n i t : Int} (ha : 0 ≤ a) (h0 : 0 ≤ t) (h1 : t < i) (h2 : i < n) : Int.tmod (a + t) n ≠ Int.tmod (a + i) n := by
  rw [Int.tmod_eq_emod_of_nonneg (by omega), Int.tmod_eq_emod_of_nonneg (by omega)]
  intro h
  have h3 : (a + i - (a + t)) % n = 0 := Int.emod_eq_emod_iff_emod_sub_eq_zero.1 h.symm
  rw [show a + i - (a + t) = i - t by omega, Int.emod_eq_of_lt (by omega) (by omega)] at h3
  omega
structure SeI (p : Int → Int) (n i : Int) (b0 b1 b10 b11 b12 b13 b14 b15 b2 b3 b4 b5 b6 b7 b8 b9 : Bool) : Prop where
  lo : 0 ≤ i
  hi : i ≤ n
  e0 : b0 = seI p 0 i
  e1 : b1 = seI p 1 i
  e2 : b2 = seI p 2 i
  e3 : b3 = seI p 3 i
  e4 : b4 = seI p 4 i
  e5 : b5 = seI p 5 i
  e6 : b6 = seI p 6 i
  e7 : b7 = seI p 7 i
  e8 : b8 = seI p 8 i
  e9 : b9 = seI p 9 i
  e10 : b10 = seI p 10 i
  e11 : b11 = seI p 11 i
  e12 : b12 = seI p 12 i
  e13 : b13 = seI p 13 i
  e14 : b14 = seI p 14 i
  e15 : b15 = seI p 15 i
theorem saV_ok {a : Int → Nat → Int} {n r k : Int} (h : ckA a n r = 0) (h0 : 0 ≤ k) (h1 : k ≤ 1099511627776) : saE a n r k = 0 ∧ saV a n r k = Int.tmod (k + r) n ∧ 0 ≤ saV a n r k ∧ saV a n r k < n := by
  have hn := ck_n h
  have e : saE a n r k = 0 := by unfold saE; rw [if_pos h, if_pos ⟨h0, h1⟩]
  have v : saV a n r k = Int.tmod (k + r) n := by unfold saV; rw [if_pos e]
  refine ⟨e, v, ?_, ?_⟩
  · rw [v, Int.tmod_eq_emod_of_nonneg (by omega)]; exact Int.emod_nonneg _ (by omega)
  · rw [v, Int.tmod_eq_emod_of_nonneg (by omega)]; exact Int.emod_lt_of_pos _ (by omega)
theorem se_new {a : Int → Nat → Int} {n r k i : Int} (h : ckA a n r = 0) (hk : 0 ≤ k) (hk1 : k ≤ 1073741824) (h0 : 0 ≤ i) (h1 : i < n) : seI (fun t => saV a n r (k + t)) (saV a n r (k + i)) i = false := by
  have hn := ck_n h
  refine seI_false fun t t0 t1 => ?_
  show saV a n r (k + t) ≠ saV a n r (k + i)
  rw [(saV_ok h (by omega) (by omega)).2.1, (saV_ok h (by omega) (by omega)).2.1]
  have := @mod_ne (k + r) n i t (by omega) t0 t1 h1
  rw [show k + t + r = k + r + t by omega, show k + i + r = k + r + i by omega]
  exact this
theorem vc9 : VC9 := by
  intro a n r k _
  have hn := @ck_n a n r
  refine fun n0 => ⟨trivial, fun v4 h4 n1 => ⟨fun _ => trivial, fun v5 h5 => ⟨fun _ => ⟨by simp [h4], trivial⟩, fun hg => ?_⟩⟩⟩
  subst h4 h5
  have hc : ckA a n r = 0 := by
    by_cases h : ckA a n r = 0
    · exact h
    · exact absurd (Or.inl (Or.inr h)) hg
  have hk : 0 ≤ k ∧ k ≤ 1073741824 := by omega
  clear hg hn
  have hn := ck_n hc
  obtain ⟨p, hp⟩ : ∃ p, p = (fun t => saV a n r (k + t)) := ⟨_, rfl⟩
  refine ⟨fun b0 b1 b10 b11 b12 b13 b14 b15 b2 b3 b4 b5 b6 b7 b8 b9 i => SeI p n i b0 b1 b10 b11 b12 b13 b14 b15 b2 b3 b4 b5 b6 b7 b8 b9, fun _ _ _ _ _ _ _ _ _ _ _ _ _ _ _ _ i => (n - i).toNat, ⟨by omega, by omega, rfl, rfl, rfl, rfl, rfl, rfl, rfl, rfl, rfl, rfl, rfl, rfl, rfl, rfl, rfl, rfl⟩, ?_⟩
  intro b0 b1 b10 b11 b12 b13 b14 b15 b2 b3 b4 b5 b6 b7 b8 b9 i hI
  refine ⟨fun hin => ?_, fun hin => ?_⟩
  · obtain ⟨lo, hi, e0, e1, e2, e3, e4, e5, e6, e7, e8, e9, e10, e11, e12, e13, e14, e15⟩ := hI
    refine ⟨by omega, fun _ => ⟨trivial, fun x e hx he => ?_⟩⟩
    have hs := @saV_ok a n r (k + i) hc (by omega) (by omega)
    have hnew := @se_new a n r k i hc hk.1 hk.2 lo hin
    rw [← hp, ← hx] at hnew
    rw [← hx, ← he] at hs
    have hpi : p i = x := by rw [hp]; exact hx.symm
    have hcase : x = 0 ∨ x = 1 ∨ x = 2 ∨ x = 3 ∨ x = 4 ∨ x = 5 ∨ x = 6 ∨ x = 7 ∨ x = 8 ∨ x = 9 ∨ x = 10 ∨ x = 11 ∨ x = 12 ∨ x = 13 ∨ x = 14 ∨ x = 15 := by omega
    refine ⟨by omega, fun _ => ⟨by omega, fun _ => ⟨by omega, fun _ => ⟨by omega, fun _ => ⟨fun hbad => ?_, fun _ => ⟨by omega, fun _ => ⟨by omega, fun _ => ⟨by omega, fun _ => ⟨?_, ?_⟩⟩⟩⟩⟩⟩⟩⟩⟩
    · exfalso
      rcases hbad with h | h
      · omega
      · clear hx he hs hpi
        rcases hcase with rfl | rfl | rfl | rfl | rfl | rfl | rfl | rfl | rfl | rfl | rfl | rfl | rfl | rfl | rfl | rfl <;> simp_all
    · have s := fun j => @seI_succ p j i lo
      refine ⟨by omega, by omega, ?_, ?_, ?_, ?_, ?_, ?_, ?_, ?_, ?_, ?_, ?_, ?_, ?_, ?_, ?_, ?_⟩
      · rw [s, hpi, Bool.or_comm, e0]
      · rw [s, hpi, Bool.or_comm, e1]
      · rw [s, hpi, Bool.or_comm, e2]
      · rw [s, hpi, Bool.or_comm, e3]
      · rw [s, hpi, Bool.or_comm, e4]
      · rw [s, hpi, Bool.or_comm, e5]
      · rw [s, hpi, Bool.or_comm, e6]
      · rw [s, hpi, Bool.or_comm, e7]
      · rw [s, hpi, Bool.or_comm, e8]
      · rw [s, hpi, Bool.or_comm, e9]
      · rw [s, hpi, Bool.or_comm, e10]
      · rw [s, hpi, Bool.or_comm, e11]
      · rw [s, hpi, Bool.or_comm, e12]
      · rw [s, hpi, Bool.or_comm, e13]
      · rw [s, hpi, Bool.or_comm, e14]
      · rw [s, hpi, Bool.or_comm, e15]
    · show (n - (i + 1)).toNat < (n - i).toNat
      omega
  · have h1 := @saV_ok a n r (k + 1) hc (by omega) (by omega)
    refine ⟨by omega, fun _ => ⟨trivial, fun x e hx he => ⟨trivial, fun a' n' r' e' ha hn' hr' he' => fun _ _ => ⟨fun hne => ?_, fun heq => ⟨trivial, fun y f hy hf => ?_⟩⟩⟩⟩⟩
    · have : e' = 22 := by rw [he'] at hne ⊢; unfold rdE at hne ⊢; rw [if_pos hc] at hne ⊢; split at hne <;> simp_all
      refine ⟨by simp [this], trivial⟩
    · have h0 : rdE a n r = 0 := by
        rw [he'] at heq
        by_cases h : rdE a n r = 0
        · exact h
        · exact absurd h heq
      have hr : r < 1099511627776 := by
        unfold rdE at h0; rw [if_pos hc] at h0
        by_cases h : r < 1099511627776
        · exact h
        · rw [if_neg h] at h0; omega
      have en : n' = n := by rw [hn']; unfold rdN; rw [if_pos h0]
      have er : r' = r + 1 := by rw [hr']; unfold rdR; rw [if_pos h0]
      have hc2 := ck_round hc hr
      have h2 := @saV_ok (rdP a) n (r + 1) k hc2 (by omega) (by omega)
      subst ha en er
      have ex : x = y := by rw [hx, hy, h1.2.1, h2.2.1, show k + 1 + r = k + (r + 1) by omega]
      refine ⟨⟨fun _ => rfl, fun _ => ⟨⟨⟨rfl, by rw [he]; exact h1.1⟩, by rw [hf]; exact h2.1⟩, ex⟩⟩, trivial⟩
end Go.Proofs.Ytakkebjoeceplaa
