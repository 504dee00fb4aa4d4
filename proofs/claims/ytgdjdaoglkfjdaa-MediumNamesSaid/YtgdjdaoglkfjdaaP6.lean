/- Worlds of radios: the reference, copies and changes: what is left to show. -/
import Derived.Test.YtgdjdaoglkfjdaaP2
namespace Go.Proofs.Ytgdjdaoglkfjdaa
open Go Go.RowKit Go.Proofs.Ytgdjdaoglkfjdaa.Vc
theorem as1 {a : Int → Nat → Int} {n : Int} {l : Int → Int} {f : Int → Int → Nat → Int} {m i : Int} : asW a n l f m (setA zA 0 0 i) 1 = lvE a n l f m i i := by
  have h : allI (fun t => decide (0 ≤ setA zA 0 0 i t 0 ∧ setA zA 0 0 i t 0 < n)) 1 = true ↔ 0 ≤ i ∧ i < n ∧ 0 ≤ i ∧ i < n := by
    have e0 : setA zA 0 0 i 0 0 = i := by simp [setA]
    constructor
    · intro h
      have h0 := allI_at h (i := 0) (by omega) (by omega)
      simp only [e0, decide_eq_true_eq] at h0
      omega
    · intro h
      refine allI_of fun t t0 t1 => ?_
      have : t = 0 := by omega
      subst this
      rw [e0, decide_eq_true_eq]; omega
  unfold asW lvE
  by_cases hc : ckW a n l f m = 0
  · rw [if_pos hc, if_pos hc]
    by_cases h2 : 0 ≤ i ∧ i < n ∧ 0 ≤ i ∧ i < n
    · rw [if_pos (h.2 h2), if_pos h2]
    · rw [if_neg (fun hh => h2 (h.1 hh)), if_neg h2]
  · rw [if_neg hc, if_neg hc]
theorem ck_small {a : Int → Nat → Int} {n : Int} {l : Int → Int} {f : Int → Int → Nat → Int} {m : Int} (h : ckW a n l f m = 0) : smallW n l m := by
  have h1 := ckW_ok h
  refine ⟨by omega, by omega, fun i h0 h2 => ?_⟩
  have := ckW_sh h i 0 h0 h2 (by omega) (by omega)
  omega
theorem vc48 : VC48 := by
  intro x lo hi
  (repeat' (first | exact True.intro | apply And.intro | intro _)) <;> (try (subst_vars; grind [inB]))
theorem vc64 : VC64 := by
  intro x y p c
  (repeat' (first | exact True.intro | apply And.intro | intro _)) <;> (try (subst_vars; grind [inB, okW]))
theorem vc47 : VC47 := by
  intro a n l f m
  have i1 : inB n 1 32 = (decide (1 ≤ n) && decide (n ≤ 32)) := rfl
  (repeat' (first | exact True.intro | apply And.intro | intro _)) <;> (try (subst_vars; grind [ckW]))
  refine ⟨fun i => 0 ≤ i ∧ i ≤ n ∧ allI (okX a) i = true, fun i => (n - i).toNat, by grind [allI_zero], ?_⟩
  intro i hi
  have d1 := @allI_at (okX a) n i
  have d2 := @allI_succ (okX a) i
  have d3 : okX a i = okW (a i 0) (a i 1) (a i 2) (a i 3) := rfl
  have z0 : allI (rowW l f n) 0 = true := rfl
  (repeat' (first | exact True.intro | apply And.intro | intro _)) <;> (try (subst_vars; grind [ckW]))
  clear d1 d2 d3
  refine ⟨fun j => 0 ≤ j ∧ j ≤ m ∧ allI (rowW l f n) j = true, fun j => (m - j).toNat, by grind [allI_zero], ?_⟩
  intro j hj
  have e1 := @allI_at (rowW l f n) m j
  have e2 := @allI_succ (rowW l f n) j
  have e3 : rowW l f n j = (decide (l j = n ∧ f j j 0 = 0) && allI (cellW f j) n) := rfl
  have e4 : rowA f j j 0 = f j j 0 := rfl
  (repeat' (first | exact True.intro | apply And.intro | intro _)) <;> (try (subst_vars; grind [ckW]))
  refine ⟨fun k => 0 ≤ k ∧ k ≤ n ∧ allI (cellW f j) k = true, fun k => (n - k).toNat, by grind [allI_zero], ?_⟩
  intro k hk
  have g1 := @allI_at (cellW f j) n k
  have g2 := @allI_succ (cellW f j) k
  have g3 : cellW f j k = decide (0 ≤ f j k 0 ∧ f j k 0 ≤ 600) := rfl
  have g4 : rowA f j k 0 = f j k 0 := rfl
  have g5 : inB (f j k 0) 0 600 = (decide (0 ≤ f j k 0) && decide (f j k 0 ≤ 600)) := rfl
  (repeat' (first | exact True.intro | apply And.intro | intro _)) <;> (try (subst_vars; grind [ckW]))
theorem vc58 : VC58 := by
  intro a n l f m i j h
  have r1 := ckW_row h.1 i h.2.1 h.2.2.1
  have r3 := fun hm => ckW_sh h.1 i j h.2.1 hm h.2.2.2.1 h.2.2.2.2
  have r4 := ckW_ok h.1
  have r5 := dsW_ok h.1 h.2.1 h.2.2.1 h.2.2.2.1 h.2.2.2.2
  have e : lvA a f m i j = a i 2 - (loss (dsW a i j) + (if 0 < m then f i j 0 else 0)) := rfl
  have e4 : rowA f i j 0 = f i j 0 := rfl
  (repeat' (first | exact True.intro | apply And.intro | intro _)) <;> (try (subst_vars; grind []))
theorem vc56 : VC56 := by
  intro a n l f m j i h
  (repeat' (first | exact True.intro | apply And.intro | intro _)) <;> (try (subst_vars; grind [hrA]))
theorem vc29 : VC29 := by
  intro a n b m
  obtain ⟨p, hp⟩ : ∃ p, p = (fun i => decide (a i 0 = b i 0)) := ⟨_, rfl⟩
  have e : saI a n b m = (decide (n = m) && allI p n) := by rw [hp]; rfl
  (repeat' (first | exact True.intro | apply And.intro | intro _)) <;> (try (subst_vars; grind []))
  refine ⟨fun i => 0 ≤ i ∧ i ≤ n ∧ allI p i = true, fun i => (n - i).toNat, by grind [allI_zero], ?_⟩
  intro i hi
  have d1 := @allI_at p n i
  have d2 := @allI_succ p i
  have d3 : p i = decide (a i 0 = b i 0) := by rw [hp]
  clear hp
  (repeat' (first | exact True.intro | apply And.intro | intro _)) <;> (try (subst_vars; grind []))
theorem pu_mv {a : Int → Nat → Int} {i x y : Int} (j : Int) (g : Nat) : setA (setA a i 0 x) i 1 y j g = puA a i x y (a i 2) (a i 3) j g := by
  unfold puA setA
  by_cases h : j = i
  · subst h
    match g with
    | 0 => simp
    | 1 => simp
    | 2 => simp
    | 3 => simp
    | g + 4 => simp
  · simp [h]
theorem pu_tn {a : Int → Nat → Int} {i c : Int} (j : Int) (g : Nat) : setA a i 3 c j g = puA a i (a i 0) (a i 1) (a i 2) c j g := by
  unfold puA setA
  by_cases h : j = i
  · subst h
    match g with
    | 0 => simp
    | 1 => simp
    | 2 => simp
    | 3 => simp
    | g + 4 => simp
  · simp [h]
end Go.Proofs.Ytgdjdaoglkfjdaa
