/- Worlds of radios: what is left to show of each function. -/
import Derived.Test.YtgdjdaoglkfjdaaC
namespace Go.Proofs.Ytgdjdaoglkfjdaa
open Go Go.RowKit Go.Proofs.Ytgdjdaoglkfjdaa.Vc
theorem as2 {a : Int → Nat → Int} {n : Int} {l : Int → Int} {f : Int → Int → Nat → Int} {m i j : Int} : asW a n l f m (setA (setA zA 0 0 i) 1 0 j) 2 = lvE a n l f m i j := by
  have h : allI (fun t => decide (0 ≤ setA (setA zA 0 0 i) 1 0 j t 0 ∧ setA (setA zA 0 0 i) 1 0 j t 0 < n)) 2 = true ↔ 0 ≤ i ∧ i < n ∧ 0 ≤ j ∧ j < n := by
    have e0 : setA (setA zA 0 0 i) 1 0 j 0 0 = i := by simp [setA]
    have e1 : setA (setA zA 0 0 i) 1 0 j 1 0 = j := by simp [setA]
    constructor
    · intro h
      have h0 := allI_at h (i := 0) (by omega) (by omega)
      have h1 := allI_at h (i := 1) (by omega) (by omega)
      simp only [e0, e1, decide_eq_true_eq] at h0 h1
      omega
    · intro h
      refine allI_of fun t t0 t1 => ?_
      have : t = 0 ∨ t = 1 := by omega
      rcases this with rfl | rfl
      · rw [e0, decide_eq_true_eq]; omega
      · rw [e1, decide_eq_true_eq]; omega
  unfold asW lvE
  by_cases hc : ckW a n l f m = 0
  · rw [if_pos hc, if_pos hc]
    by_cases h2 : 0 ≤ i ∧ i < n ∧ 0 ≤ j ∧ j < n
    · rw [if_pos (h.2 h2), if_pos h2]
    · rw [if_neg (fun hh => h2 (h.1 hh)), if_neg h2]
  · rw [if_neg hc, if_neg hc]
theorem lvE_sym {a : Int → Nat → Int} {n : Int} {l : Int → Int} {f : Int → Int → Nat → Int} {m i j : Int} : lvE a n l f m i j = lvE a n l f m j i := by
  unfold lvE
  by_cases hc : ckW a n l f m = 0
  · rw [if_pos hc, if_pos hc]
    by_cases h2 : 0 ≤ i ∧ i < n ∧ 0 ≤ j ∧ j < n
    · rw [if_pos h2, if_pos (by omega)]
    · rw [if_neg h2, if_neg (by omega)]
  · rw [if_neg hc, if_neg hc]
theorem lossv_ok {d : Int} (h0 : 0 ≤ d) (h1 : d ≤ 30000) : lossv d = loss d ∧ losse d = 0 := by
  have : inB d 0 30000 = true := inB_of ⟨h0, h1⟩
  unfold lossv losse
  rw [this]; exact ⟨rfl, rfl⟩
theorem lossv_no {d : Int} (h : ¬ (0 ≤ d ∧ d ≤ 30000)) : lossv d = 0 ∧ losse d = 2 := by
  have := inB_false h
  unfold lossv losse
  rw [this]; exact ⟨rfl, rfl⟩
theorem dsW_ok {a : Int → Nat → Int} {n : Int} {l : Int → Int} {f : Int → Int → Nat → Int} {m : Int} (h : ckW a n l f m = 0) {i j : Int} (h0 : 0 ≤ i) (h1 : i < n) (h2 : 0 ≤ j) (h3 : j < n) : diste (a i 0) (a i 1) (a j 0) (a j 1) = 0 ∧ dist (a i 0) (a i 1) (a j 0) (a j 1) = dsW a i j ∧ 0 ≤ dsW a i j ∧ dsW a i j < 30000 ∧ lossv (dsW a i j) = loss (dsW a i j) ∧ losse (dsW a i j) = 0 ∧ 400 ≤ loss (dsW a i j) ∧ loss (dsW a i j) ≤ 2000 ∧ dsW a i j = dsW a j i := by
  have r1 := ckW_row h i h0 h1
  have r2 := ckW_row h j h2 h3
  have hd := @dist_ok (a i 0) (a i 1) (a j 0) (a j 1) (okd_iff.2 (by omega))
  have e : dist (a i 0) (a i 1) (a j 0) (a j 1) = dsW a i j := rfl
  rw [e] at hd
  have hl := @lossv_ok (dsW a i j) hd.2.1 (by omega)
  have hh := @loss_hi (dsW a i j) (by omega)
  exact ⟨hd.1, rfl, hd.2.1, hd.2.2.1, hl.1, hl.2, loss_lo _, hh, (dist_sym _ _ _ _).1⟩
theorem vc63 : VC63 := by
  intro x lo hi
  (repeat' (first | exact True.intro | apply And.intro | intro _)) <;> (try (subst_vars; grind [inB]))
theorem vc61 : VC61 := by
  intro x y p c
  (repeat' (first | exact True.intro | apply And.intro | intro _)) <;> (try (subst_vars; grind [inB, okW]))
theorem vc45 : VC45 := by
  intro a n l f m
  (repeat' (first | exact True.intro | apply And.intro | intro _)) <;> (try (subst_vars; grind [ckW]))
  refine ⟨fun i => 0 ≤ i ∧ i ≤ n ∧ allI (okX a) i = true, fun i => (n - i).toNat, by grind [allI_zero], ?_⟩
  intro i hi
  have d1 := @allI_at (okX a) n i
  have d2 := @allI_succ (okX a) i
  have d3 : okX a i = okW (a i 0) (a i 1) (a i 2) (a i 3) := rfl
  (repeat' (first | exact True.intro | apply And.intro | intro _)) <;> (try (subst_vars; grind [ckW]))
  clear d1 d2 d3
  refine ⟨fun j => 0 ≤ j ∧ j ≤ m ∧ allI (rowW l f n) j = true, fun j => (m - j).toNat, by grind [allI_zero], ?_⟩
  intro j hj
  have e1 := @allI_at (rowW l f n) m j
  have e2 := @allI_succ (rowW l f n) j
  have e3 : rowW l f n j = (decide (l j = n ∧ f j j 0 = 0) && allI (cellW f j) n) := rfl
  have e4 : rowA f j j 0 = f j j 0 := rfl
  (repeat' (first | exact True.intro | apply And.intro | intro _)) <;> (try (subst_vars; grind [ckW]))
  refine ⟨fun k => 0 ≤ k ∧ k ≤ n ∧ allI (cellW f j) k = true, fun k => (n - k).toNat, by grind [allI_zero], ?_⟩
  intro k hk
  have g1 := @allI_at (cellW f j) n k
  have g2 := @allI_succ (cellW f j) k
  have g3 : cellW f j k = decide (0 ≤ f j k 0 ∧ f j k 0 ≤ 600) := rfl
  have g4 : rowA f j k 0 = f j k 0 := rfl
  have g5 : inB (f j k 0) 0 600 = (decide (0 ≤ f j k 0) && decide (f j k 0 ≤ 600)) := rfl
  (repeat' (first | exact True.intro | apply And.intro | intro _)) <;> (try (subst_vars; grind [ckW]))
theorem vc65 : VC65 := by
  intro a n l f m t k h
  repeat' (first | exact True.intro | apply And.intro | intro _)
  have hp : ∃ p, p = (fun i => decide (0 ≤ t i 0 ∧ t i 0 < n)) := ⟨_, rfl⟩
  obtain ⟨p, hp⟩ := hp
  rw [← hp]
  refine ⟨fun i => 0 ≤ i ∧ i ≤ k ∧ allI p i = true, fun i => (k - i).toNat, by grind [allI_zero], ?_⟩
  intro i hi
  have d1 := @allI_at p k i
  have d2 := @allI_succ p i
  have d3 : p i = decide (0 ≤ t i 0 ∧ t i 0 < n) := by rw [hp]
  have d4 : inB (t i 0) 0 (n - 1) = (decide (0 ≤ t i 0) && decide (t i 0 ≤ n - 1)) := rfl
  clear hp
  (repeat' (first | exact True.intro | apply And.intro | intro _)) <;> (try (subst_vars; grind []))
theorem vc51 : VC51 := by
  intro a n l f m i j h
  have r1 := ckW_row h.1 i h.2.1 h.2.2.1
  have r3 := fun hm => ckW_sh h.1 i j h.2.1 hm h.2.2.2.1 h.2.2.2.2
  have r4 := ckW_ok h.1
  have r5 := dsW_ok h.1 h.2.1 h.2.2.1 h.2.2.2.1 h.2.2.2.2
  have e : lvA a f m i j = a i 2 - (loss (dsW a i j) + (if 0 < m then f i j 0 else 0)) := rfl
  have e4 : rowA f i j 0 = f i j 0 := rfl
  (repeat' (first | exact True.intro | apply And.intro | intro _)) <;> (try (subst_vars; grind []))
theorem vc49 : VC49 := by
  intro a n l f m t k h
  have hc := ckW_08 a n l f m
  (repeat' (first | exact True.intro | apply And.intro | intro _)) <;> (try (subst_vars; grind [asW]))
theorem vc27 : VC27 := by
  intro a n l f m i j
  have e := @as2 a n l f m i j
  have hc := ckW_08 a n l f m
  (repeat' (first | exact True.intro | apply And.intro | intro _)) <;> (try (subst_vars; grind [lvV, lvE]))
theorem vc50 : VC50 := by
  intro a n l f m j i h
  (repeat' (first | exact True.intro | apply And.intro | intro _)) <;> (try (subst_vars; grind [hrA]))
theorem vc26 : VC26 := by
  intro a n l f m j i
  have e := @as2 a n l f m i j
  have e2 := @lvE_sym a n l f m i j
  have hc := ckW_08 a n l f m
  (repeat' (first | exact True.intro | apply And.intro | intro _)) <;> (try (subst_vars; grind [hrV, lvE]))
theorem vc34 : VC34 := by
  intro a n l f m
  (repeat' (first | exact True.intro | apply And.intro | intro _)) <;> (try (subst_vars; grind [grW]))
  have hp : ∃ p, p = (fun i => decide (l i ≤ 40)) := ⟨_, rfl⟩
  obtain ⟨p, hp⟩ := hp
  have hg : grW n l m = (decide (40 < n ∨ 40 < m) || !(allI p m)) := by rw [hp]; rfl
  refine ⟨fun i => 0 ≤ i ∧ i ≤ m ∧ allI p i = true, fun i => (m - i).toNat, by grind [allI_zero], ?_⟩
  intro i hi
  have d1 := @allI_at p m i
  have d2 := @allI_succ p i
  have d3 : p i = decide (l i ≤ 40) := by rw [hp]
  clear hp
  (repeat' (first | exact True.intro | apply And.intro | intro _)) <;> (try (subst_vars; grind []))
theorem hv0 {a : Nat} (h : a < 2) : halvings a = 0 := halvings_lt a h
theorem hvs {a c : Nat} (h : 2 ≤ a) (h3 : halvings (a / 2) = c) : halvings a = c + 1 := by rw [halvings_ge a h, h3]
theorem loss_vals : lossv 0 = 400 ∧ lossv 1 = 400 ∧ lossv 2 = 460 ∧ lossv 3 = 490 ∧ lossv 100 = 790 ∧ loss 100 = 790 := by
  have hv1 : halvings 1 = 0 := hv0 (by decide)
  have h1 : halvings 16 = 4 := hvs (by decide) (hvs (by decide) (hvs (by decide) (hvs (by decide) (hv0 (by decide)))))
  have h2 : halvings 81 = 6 := hvs (by decide) (hvs (by decide) (hvs (by decide) (hvs (by decide) (hvs (by decide) (hvs (by decide) (hv0 (by decide)))))))
  have h3 : halvings 100000000 = 26 := hvs (by decide) (hvs (by decide) (hvs (by decide) (hvs (by decide) (hvs (by decide) (hvs (by decide) (hvs (by decide) (hvs (by decide) (hvs (by decide) (hvs (by decide) (hvs (by decide) (hvs (by decide) (hvs (by decide) (hvs (by decide) (hvs (by decide) (hvs (by decide) (hvs (by decide) (hvs (by decide) (hvs (by decide) (hvs (by decide) (hvs (by decide) (hvs (by decide) (hvs (by decide) (hvs (by decide) (hvs (by decide) (hvs (by decide) (hv0 (by decide)))))))))))))))))))))))))))
  have l0 : loss 0 = 400 := by show 400 + 15 * (halvings 1 : Int) = 400; rw [hv1]; rfl
  have l1 : loss 1 = 400 := by show 400 + 15 * (halvings 1 : Int) = 400; rw [hv1]; rfl
  have l2 : loss 2 = 460 := by show 400 + 15 * (halvings 16 : Int) = 460; rw [h1]; rfl
  have l3 : loss 3 = 490 := by show 400 + 15 * (halvings 81 : Int) = 490; rw [h2]; rfl
  have l4 : loss 100 = 790 := by show 400 + 15 * (halvings 100000000 : Int) = 790; rw [h3]; rfl
  refine ⟨?_, ?_, ?_, ?_, ?_, l4⟩
  · rw [(lossv_ok (by omega) (by omega)).1]; exact l0
  · rw [(lossv_ok (by omega) (by omega)).1]; exact l1
  · rw [(lossv_ok (by omega) (by omega)).1]; exact l2
  · rw [(lossv_ok (by omega) (by omega)).1]; exact l3
  · rw [(lossv_ok (by omega) (by omega)).1]; exact l4
end Go.Proofs.Ytgdjdaoglkfjdaa
