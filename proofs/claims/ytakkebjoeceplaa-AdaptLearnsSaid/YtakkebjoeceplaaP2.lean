/- Rate control: what is left to show of the functions of values and chains. -/
import Derived.Test.YtakkebjoeceplaaP
namespace Go.Proofs.Ytakkebjoeceplaa
open Go Go.RowKit Go.Proofs.Ytakkebjoeceplaa.Vc
theorem okZ_bd {air tr go ch : Int} {kn : Bool} (h : okZ air tr go ch kn = true) : 1 ≤ air ∧ 0 ≤ ch ∧ ch ≤ 1000 := by
  have := okZ_iff.1 h; omega
theorem vc31 : VC31 := by
  intro air tr go ch kn h
  have h1 := okZ_bd h
  have h2 := @tdiv_bd (ch * 100000) air
  (repeat' (first | exact True.intro | apply And.intro | intro _)) <;> (try (subst_vars; grind [vlA]))
theorem vc32 : VC32 := by
  intro air tr go ch kn h
  have h1 := okZ_bd h
  have h2 := @tdiv_bd (100000 * ch) air
  have h3 : 100000 * ch = ch * 100000 := by omega
  (repeat' (first | exact True.intro | apply And.intro | intro _)) <;> (try (subst_vars; grind [vlA]))
theorem vc18 : VC18 := by
  intro a n r rate
  have h := fun h => @ck_row a n r h rate
  have hk := @ck_n a n r
  have hc := ck_01 a n r
  (repeat' (first | exact True.intro | apply And.intro | intro _)) <;> (try (subst_vars; grind [vuV, vuE, vlR]))
theorem vc19 : VC19 := by
  intro a n r rate
  have h := fun h => @ck_row a n r h rate
  have hk := @ck_n a n r
  have hc := ck_01 a n r
  (repeat' (first | exact True.intro | apply And.intro | intro _)) <;> (try (subst_vars; grind [vuV, vuE, vlR]))
theorem vc37 : VC37 := by
  intro x y
  (repeat' (first | exact True.intro | apply And.intro | intro _)) <;> (try (subst_vars; grind [cmpA]))
theorem vc41 : VC41 := by
  intro a n h
  (repeat' (first | exact True.intro | apply And.intro | intro _)) <;> (try (subst_vars; grind []))
  refine ⟨fun i => 0 ≤ i ∧ i ≤ 2 ∧ (0 < i → a 0 0 = 0) ∧ (1 < i → a 1 0 = 0), fun i => (2 - i).toNat, by grind, ?_⟩
  intro i hi
  have : i = 0 ∨ i = 1 ∨ 2 ≤ i := by omega
  rcases this with rfl | rfl | h2
  · (repeat' (first | exact True.intro | apply And.intro | intro _)) <;> (try (subst_vars; grind [or2]))
  · (repeat' (first | exact True.intro | apply And.intro | intro _)) <;> (try (subst_vars; grind [or2]))
  · (repeat' (first | exact True.intro | apply And.intro | intro _)) <;> (try (subst_vars; grind [or2]))
set_option maxHeartbeats 4000000 in
theorem vc20 : VC20 := by
  intro a n r
  have hk := @ck_n a n r
  (repeat' (first | exact True.intro | apply And.intro | intro _)) <;> (try (subst_vars; grind [ch0, ch1, ch2, ch3]))
  refine ⟨fun i b => 0 ≤ i ∧ i ≤ n ∧ b = fsI (gtV a) (-1) i, fun i _ => (n - i).toNat, ⟨by grind, by grind, by grind [fsI_zero]⟩, ?_⟩
  intro i b hI
  have h1 := fun h => @ck_row a n r h i
  have h2 := fun h => @ck_row a n r h b
  have h3 := @fsI_succ (gtV a) (-1) i
  have h4 := @fsI_lt (gtV a) (-1) i
  (repeat' (first | exact True.intro | apply And.intro | intro _)) <;> (try (subst_vars; grind [gtV, vlR, cmpA, or2, setA]))
  clear h1 h2 h3 h4
  refine ⟨fun j c => 0 ≤ j ∧ j ≤ n ∧ c = fsI (gtV a) b j, fun j _ => (n - j).toNat, ⟨by grind, by grind, by grind [fsI_zero]⟩, ?_⟩
  intro j c hJ
  have h1 := fun h => @ck_row a n r h j
  have h2 := fun h => @ck_row a n r h c
  have h3 := @fsI_succ (gtV a) b j
  have h4 := @fsI_lt (gtV a) b j
  (repeat' (first | exact True.intro | apply And.intro | intro _)) <;> (try (subst_vars; grind [gtV, vlR, cmpA, or2, setA]))
  all_goals clear h1 h2 h3 h4
  all_goals
    refine ⟨fun k d => 0 ≤ k ∧ k ≤ n ∧ d = fsI (gtC a) (-1) k, fun k _ => (n - k).toNat, ⟨by grind, by grind, by grind [fsI_zero]⟩, ?_⟩
    intro k d hK
    have h3 := @fsI_succ (gtC a) (-1) k
    have h4 := @fsI_lt (gtC a) (-1) k
    (repeat' (first | exact True.intro | apply And.intro | intro _)) <;> (try (subst_vars; grind [gtC, cmpA, or2, setA]))
    clear h3 h4
    refine ⟨fun l e => 0 ≤ l ∧ l ≤ n ∧ e = fsI (gtL a) (-1) l, fun l _ => (n - l).toNat, ⟨by grind, by grind, by grind [fsI_zero]⟩, ?_⟩
    intro l e hL
    have h3 := @fsI_succ (gtL a) (-1) l
    have h4 := @fsI_lt (gtL a) (-1) l
    (repeat' (first | exact True.intro | apply And.intro | intro _)) <;> (try (subst_vars; grind [gtL, cmpA, ch0, ch1, ch2, ch3]))
theorem vc38 : VC38 := by
  intro a n r i k x y
  (repeat' (first | exact True.intro | apply And.intro | intro _)) <;> (try (subst_vars; grind [ahA]))
set_option maxHeartbeats 4000000 in
theorem vc21 : VC21 := by
  intro a n r
  have hk := @ck_n a n r
  have hc := ck_01 a n r
  (repeat' (first | exact True.intro | apply And.intro | intro _)) <;> (try (subst_vars; grind [ch0, ch1, ch2, ch3]))
  refine ⟨fun x y z i => 1 ≤ i ∧ i ≤ n ∧ x = fsI (gtV a) (-1) i ∧ y = fsI (gtC a) (-1) i ∧ z = fsI (gtL a) (-1) i, fun _ _ _ i => (n - i).toNat, ⟨by grind, by grind, by grind [fsI_one], by grind [fsI_one], by grind [fsI_one]⟩, ?_⟩
  intro x y z i hI
  have h1 := fun h => @ck_row a n r h i
  have h2 := fun h => @ck_row a n r h x
  have h3 := @fsI_succ (gtV a) (-1) i
  have h4 := @fsI_lt (gtV a) (-1) i
  have h5 := @fsI_nn (gtV a) i
  have g3 := @fsI_succ (gtC a) (-1) i
  have g4 := @fsI_lt (gtC a) (-1) i
  have g5 := @fsI_nn (gtC a) i
  have l3 := @fsI_succ (gtL a) (-1) i
  have l4 := @fsI_lt (gtL a) (-1) i
  have l5 := @fsI_nn (gtL a) i
  (repeat' (first | exact True.intro | apply And.intro | intro _)) <;> (try (subst_vars; grind [gtV, gtC, gtL, vlR, ahA]))
  clear h1 h2 h3 h4 g3 g4 l3 l4
  refine ⟨fun _ _ c j => 0 ≤ j ∧ j ≤ n ∧ c = (if fsI (gtV a) x j < 0 then x else fsI (gtV a) x j), fun _ _ _ j => (n - j).toNat, ⟨by grind, by grind, by grind [fsI_zero]⟩, ?_⟩
  intro _ _ c j hJ
  have h1 := fun h => @ck_row a n r h j
  have h2 := fun h => @ck_row a n r h c
  have h3 := @fsI_succ (gtV a) x j
  have h4 := @fsI_lt (gtV a) x j
  have h6 := @fsI_ne (gtV a) x j
  (repeat' (first | exact True.intro | apply And.intro | intro _)) <;> (try (subst_vars; grind [gtV, vlR, ahA, ch0, ch1, ch2, ch3]))
theorem vc22 : VC22 := by
  intro a n r k
  have hk := @ck_n a n r
  have hc := ck_01 a n r
  (repeat' (first | exact True.intro | apply And.intro | intro _)) <;> (try (subst_vars; grind [saV, saE]))
theorem vc23 : VC23 := by
  intro a n r k
  have hk := @ck_n a n r
  have hc := ck_01 a n r
  (repeat' (first | exact True.intro | apply And.intro | intro _)) <;> (try (subst_vars; grind [saV, saE]))
theorem vc4 : VC4 := by
  intro a n r rate k
  (repeat' (first | exact True.intro | apply And.intro | intro _)) <;> (try (subst_vars; grind []))
end Go.Proofs.Ytakkebjoeceplaa
