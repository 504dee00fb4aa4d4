/- The law that changes are local: what is left to show. -/
import Derived.Test.YtiiebpfifkaleaaP7
import Derived.Test.YtiiebpfifkaleaaC9
namespace Go.Proofs.Ytiiebpfifkaleaa
open Go Go.RowKit Go.Proofs.Ytiiebpfifkaleaa.Vc
theorem pu_ne {a : Int → Nat → Int} {i x y p c j : Int} {g : Nat} (h : j ≠ i) : puA a i x y p c j g = a j g := by
  unfold puA setA
  simp [h]
theorem pu_eq {a : Int → Nat → Int} {i x y p c : Int} : puA a i x y p c i 0 = x ∧ puA a i x y p c i 1 = y ∧ puA a i x y p c i 2 = p ∧ puA a i x y p c i 3 = c := by
  unfold puA setA
  simp
theorem pu_back {a : Int → Nat → Int} {i x y p c p' c' : Int} (hp : p' = a i 2) (hc : c' = a i 3) : puA (puA a i x y p c) i (a i 0) (a i 1) p' c' = a := by
  subst hp hc
  funext j g
  by_cases h : j = i
  · subst h
    match g with
    | 0 => exact pu_eq.1
    | 1 => exact pu_eq.2.1
    | 2 => exact pu_eq.2.2.1
    | 3 => exact pu_eq.2.2.2
    | g + 4 => simp [puA, setA]
  · rw [pu_ne h, pu_ne h]
theorem ck_pu {a : Int → Nat → Int} {n : Int} {l : Int → Int} {f : Int → Int → Nat → Int} {m i x y p c : Int} (h : ckW a n l f m = 0) (ho : okW x y p c = true) : ckW (puA a i x y p c) n l f m = 0 := by
  have hc := ckW_ok h
  unfold ckW
  rw [if_pos]
  refine ⟨hc.1, hc.2.1, hc.2.2.1, allI_of fun j j0 j1 => ?_, hc.2.2.2.2⟩
  unfold okX
  by_cases hj : j = i
  · subst hj
    obtain ⟨e0, e1, e2, e3⟩ := @pu_eq a j x y p c
    rw [e0, e1, e2, e3]; exact ho
  · rw [pu_ne hj, pu_ne hj, pu_ne hj, pu_ne hj]
    exact allI_at (p := okX a) hc.2.2.2.1 j0 j1
theorem ck_okX {a : Int → Nat → Int} {n : Int} {l : Int → Int} {f : Int → Int → Nat → Int} {m i : Int} (h : ckW a n l f m = 0) (h0 : 0 ≤ i) (h1 : i < n) : okW (a i 0) (a i 1) (a i 2) (a i 3) = true := allI_at (p := okX a) (ckW_ok h).2.2.2.1 h0 h1
theorem lvA_tn {a : Int → Nat → Int} {f : Int → Int → Nat → Int} {m i c j k : Int} : lvA (puA a i (a i 0) (a i 1) (a i 2) c) f m j k = lvA a f m j k := by
  have h : ∀ j, puA a i (a i 0) (a i 1) (a i 2) c j 0 = a j 0 ∧ puA a i (a i 0) (a i 1) (a i 2) c j 1 = a j 1 ∧ puA a i (a i 0) (a i 1) (a i 2) c j 2 = a j 2 := fun j => by
    by_cases hj : j = i
    · subst hj
      exact ⟨pu_eq.1, pu_eq.2.1, pu_eq.2.2.1⟩
    · exact ⟨pu_ne hj, pu_ne hj, pu_ne hj⟩
  unfold lvA dsW
  rw [(h j).1, (h j).2.1, (h j).2.2, (h k).1, (h k).2.1]
theorem lvA_mv {a : Int → Nat → Int} {f : Int → Int → Nat → Int} {m i x y p c j k : Int} (hj : j ≠ i) (hk : k ≠ i) : lvA (puA a i x y p c) f m j k = lvA a f m j k := by
  unfold lvA dsW
  rw [pu_ne hj, pu_ne hj, pu_ne hj, pu_ne hk, pu_ne hk]
theorem lvE_pu {a : Int → Nat → Int} {n : Int} {l : Int → Int} {f : Int → Int → Nat → Int} {m i x y p c j k : Int} (h : ckW a n l f m = 0) (ho : okW x y p c = true) : lvE (puA a i x y p c) n l f m j k = lvE a n l f m j k := by
  unfold lvE
  rw [if_pos (ck_pu h ho), if_pos h]
theorem hrA_tn {a : Int → Nat → Int} {f : Int → Int → Nat → Int} {m i c j k : Int} (hj : j ≠ i) (hk : k ≠ i) : hrA (puA a i (a i 0) (a i 1) (a i 2) c) f m k j = hrA a f m k j := by
  unfold hrA
  rw [lvA_tn, pu_ne hj, pu_ne hk]
theorem vc9 : VC9 := by
  intro a n l f m i x y c j k _
  have o := @lvE_ok a n l f m i i
  have e1 : mvE a n l f m i x y (a i 2) (a i 3) = if lvE a n l f m i i = 0 then puE (okW x y (a i 2) (a i 3)) else lvE a n l f m i i := rfl
  have e2 : mvE a n l f m i (a i 0) (a i 1) (a i 2) c = if lvE a n l f m i i = 0 then puE (okW (a i 0) (a i 1) (a i 2) c) else lvE a n l f m i i := rfl
  have p1 : puE (okW x y (a i 2) (a i 3)) = if okW x y (a i 2) (a i 3) = true then 0 else 2 := rfl
  have p2 : puE (okW (a i 0) (a i 1) (a i 2) c) = if okW (a i 0) (a i 1) (a i 2) c = true then 0 else 2 := rfl
  obtain ⟨b, hb⟩ : ∃ b, b = puA a i x y (a i 2) (a i 3) := ⟨_, rfl⟩
  obtain ⟨t, ht⟩ : ∃ t, t = puA a i (a i 0) (a i 1) (a i 2) c := ⟨_, rfl⟩
  have b2 : b i 2 = a i 2 ∧ b i 3 = a i 3 := by rw [hb]; exact ⟨pu_eq.2.2.1, pu_eq.2.2.2⟩
  have hback : puA b i (a i 0) (a i 1) (b i 2) (b i 3) = a := by rw [b2.1, b2.2, hb]; exact pu_back rfl rfl
  have c1 := fun h ho => @ck_pu a n l f m i x y (a i 2) (a i 3) h ho
  have c2 := fun h ho => @ck_pu a n l f m i (a i 0) (a i 1) (a i 2) c h ho
  have l1 := fun h ho => @lvE_pu a n l f m i x y (a i 2) (a i 3) j k h ho
  have l1' := fun h ho => @lvE_pu a n l f m i x y (a i 2) (a i 3) i i h ho
  have l2 := fun h ho => @lvE_pu a n l f m i (a i 0) (a i 1) (a i 2) c j k h ho
  have l2' := fun h ho => @lvE_pu a n l f m i (a i 0) (a i 1) (a i 2) c k j h ho
  have ok := fun h h0 h1 => @ck_okX a n l f m i h h0 h1
  have v1 := fun h1 h2 => @lvA_mv a f m i x y (a i 2) (a i 3) j k h1 h2
  have v2 := @lvA_tn a f m i c j k
  have v3 := fun h1 h2 => @hrA_tn a f m i c j k h1 h2
  have sy := @lvE_sym a n l f m j k
  have r1 := @smW_refl a n l f m
  rw [← hb] at c1 l1 l1' v1
  rw [← ht] at c2 l2 l2' v2 v3
  have e3 : mvE b n l f m i (a i 0) (a i 1) (b i 2) (b i 3) = if lvE b n l f m i i = 0 then puE (okW (a i 0) (a i 1) (b i 2) (b i 3)) else lvE b n l f m i i := rfl
  rw [b2.1, b2.2] at e3 hback
  have p3 : puE (okW (a i 0) (a i 1) (a i 2) (a i 3)) = if okW (a i 0) (a i 1) (a i 2) (a i 3) = true then 0 else 2 := rfl
  have n1 : ∀ z, mvE a n l f m i x y (a i 2) (a i 3) = 0 → mvN a n l f m i x y (a i 2) (a i 3) z = z := fun z h => if_pos h
  have n2 : ∀ z, mvE a n l f m i (a i 0) (a i 1) (a i 2) c = 0 → mvN a n l f m i (a i 0) (a i 1) (a i 2) c z = z := fun z h => if_pos h
  have n3 : ∀ z, mvE b n l f m i (a i 0) (a i 1) (a i 2) (a i 3) = 0 → mvN b n l f m i (a i 0) (a i 1) (a i 2) (a i 3) z = z := fun z h => if_pos h
  have z1 : mvE a n l f m i x y (a i 2) (a i 3) ≠ 0 → mvN a n l f m i x y (a i 2) (a i 3) n = 0 := fun h => if_neg h
  have z2 : mvE a n l f m i (a i 0) (a i 1) (a i 2) c ≠ 0 → mvN a n l f m i (a i 0) (a i 1) (a i 2) c n = 0 := fun h => if_neg h
  have q1 := n1 n
  have q2 := n1 m
  have q3 := n2 n
  have q4 := n2 m
  have q5 := n3 n
  have q6 := n3 m
  clear n1 n2 n3
  repeat' (first | exact True.intro | apply And.intro | (intro h; (try (have h' := h.symm; subst h'))))
  all_goals (try (rw [← hb] at *))
  all_goals (try (rw [← ht] at *))
  all_goals (try grind [lvV, hrV])
end Go.Proofs.Ytiiebpfifkaleaa
