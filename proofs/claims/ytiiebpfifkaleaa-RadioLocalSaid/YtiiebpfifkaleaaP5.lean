/- The law of symmetry: what is left to show. -/
import Derived.Test.YtiiebpfifkaleaaP2
import Derived.Test.YtiiebpfifkaleaaC5
namespace Go.Proofs.Ytiiebpfifkaleaa
open Go Go.RowKit Go.Proofs.Ytiiebpfifkaleaa.Vc
theorem lvE_ok {a : Int → Nat → Int} {n : Int} {l : Int → Int} {f : Int → Int → Nat → Int} {m i j : Int} (h : lvE a n l f m i j = 0) : ckW a n l f m = 0 ∧ 0 ≤ i ∧ i < n ∧ 0 ≤ j ∧ j < n := by
  unfold lvE at h
  split at h
  · split at h
    · exact ⟨‹_›, ‹_›⟩
    · omega
  · omega
theorem sy_at {a : Int → Nat → Int} {n : Int} {l : Int → Int} {f : Int → Int → Nat → Int} {m i j : Int} (h : lvE a n l f m i j = 0) (hs : syW a n l f m = true) (hm : 0 < m) : f i j 0 = f j i 0 := by
  have hk := lvE_ok h
  have hc := ckW_ok hk.1
  unfold syW at hs
  rw [Bool.and_eq_true] at hs
  have h1 := allI_at hs.2 hk.2.1 (by omega)
  unfold syR at h1
  have h2 := allI_at h1 hk.2.2.2.1 hk.2.2.2.2
  exact of_decide_eq_true h2
theorem lv_sym {a : Int → Nat → Int} {n : Int} {l : Int → Int} {f : Int → Int → Nat → Int} {m i j : Int} (h : lvE a n l f m i j = 0) (hs : syW a n l f m = true) (hp : a i 2 = a j 2) : lvA a f m i j = lvA a f m j i := by
  have hd : dsW a i j = dsW a j i := (dist_sym _ _ _ _).1
  unfold lvA
  rw [hd, hp]
  by_cases hm : 0 < m
  · rw [if_pos hm, if_pos hm, sy_at h hs hm]
  · rw [if_neg hm, if_neg hm]
theorem lv_mono {a : Int → Nat → Int} {n : Int} {l : Int → Int} {f : Int → Int → Nat → Int} {m i j k : Int} (h : lvE a n l f m i j = 0) (h2 : lvE a n l f m k j = 0) (hm : ¬ 0 < m) (hp : a i 2 = a k 2) (hd : dsW a i j ≤ dsW a k j) : lvA a f m k j ≤ lvA a f m i j := by
  have hk := lvE_ok h
  have hk2 := lvE_ok h2
  have hb := dsW_ok hk.1 hk2.2.1 hk2.2.2.1 hk.2.2.2.1 hk.2.2.2.2
  have hl := @loss_mono (dsW a i j) (dsW a k j) hd (by omega)
  unfold lvA
  rw [if_neg hm, if_neg hm, hp]
  omega
theorem vc7 : VC7 := by
  intro a n l f m i j k _
  have s1 := @lvE_sym a n l f m i j
  have o1 := @lvE_ok a n l f m i j
  have o2 := @lvE_ok a n l f m k j
  have y := @lv_sym a n l f m i j
  have mo := @lv_mono a n l f m i j k
  have d1 := fun (h : ckW a n l f m = 0) h0 h1 h2 h3 => @dsW_ok a n l f m h i j h0 h1 h2 h3
  have d2 := fun (h : ckW a n l f m = 0) h0 h1 h2 h3 => @dsW_ok a n l f m h k j h0 h1 h2 h3
  (repeat' (first | exact True.intro | apply And.intro | intro _)) <;> (try (subst_vars; grind [hrV, hrA, lvV]))
end Go.Proofs.Ytiiebpfifkaleaa
