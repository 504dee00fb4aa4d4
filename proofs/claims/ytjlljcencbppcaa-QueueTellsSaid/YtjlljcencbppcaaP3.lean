/- A managed queue: what is left to show of ageing. -/
import Derived.Test.YtjlljcencbppcaaP2
import Derived.Test.YtjlljcencbppcaaC6
import Derived.Test.YtjlljcencbppcaaE
namespace Go.Proofs.Ytjlljcencbppcaa
open Go Go.RowKit Go.Proofs.Ytjlljcencbppcaa.Vc
set_option maxHeartbeats 2000000 in
theorem vc19 : VC19 := by
  intro a n u k now life
  have h0 := @agD_bd a n now life
  have h1 := @ck_ok a n u k
  have h5 := @as_8 a n u k now
  have h6 : asE a n u k now = if ckQ a n u k = 0 then if ltQ a n ≤ now ∧ 0 ≤ now ∧ now ≤ 1099511627776 then 0 else 2 else 8 := rfl
  have h7 : ltQ a n = if n = 0 then 0 else a (n - 1) 2 := rfl
  (repeat' (first | exact True.intro | apply And.intro | intro _)) <;> (try (subst_vars; grind [agN, agC, agU, agK, agE, zA]))
  refine ⟨fun x p y q i => 0 ≤ i ∧ i ≤ n ∧ q = min i (agD a n now life) ∧ p = i - q ∧ (∀ (j : Int) (f : Nat), 0 ≤ j → j < q → f < 3 → y j f = a j f) ∧ (∀ (j : Int) (f : Nat), 0 ≤ j → j < p → f < 3 → x j f = a (j + agD a n now life) f), fun _ _ _ _ i => (n - i).toNat, ⟨by grind, by grind, by grind, by grind, by grind, by grind⟩, ?_⟩
  rintro x p y q i ⟨i0, i1, hq, hp, hy, hx⟩
  have h3 := fun h => @ag_pre a n u k h now life i
  have h4 := fun h => @as_row a n u k now h i
  have y' : ∀ (f : Nat), f = 0 ∨ f = 1 ∨ f = 2 ∨ 3 ≤ f := by omega
  have row : ∀ (g : Nat), g < 3 → setA (setA (setA zA 0 0 (a i 0)) 0 1 (a i 1)) 0 2 (a i 2) 0 g = a i g := by
    intro g hg
    rcases y' g with h | h | h | h
    · subst h; simp [setA]
    · subst h; simp [setA]
    · subst h; simp [setA]
    · omega
  have app1 : q = i → ∀ (j : Int) (f : Nat), 0 ≤ j → j < q + 1 → f < 3 → appA y q (setA (setA (setA zA 0 0 (a i 0)) 0 1 (a i 1)) 0 2 (a i 2)) j f = a j f := by
    intro hqi j f j0 j1 hf
    unfold appA
    split
    · exact hy j f j0 (by omega) hf
    · rw [show j - q = 0 by omega, row f hf, show j = i by omega]
  have app2 : q = agD a n now life → ∀ (j : Int) (f : Nat), 0 ≤ j → j < p + 1 → f < 3 → appA x p (setA (setA (setA zA 0 0 (a i 0)) 0 1 (a i 1)) 0 2 (a i 2)) j f = a (j + agD a n now life) f := by
    intro hqi j f j0 j1 hf
    unfold appA
    split
    · exact hx j f j0 (by omega) hf
    · rw [show j - p = 0 by omega, row f hf, show j + agD a n now life = i by omega]
  clear row y'
  have e0 : agE a n u k now life = if asE a n u k now = 0 then if 0 ≤ life ∧ life ≤ 1099511627776 then 0 else 2 else asE a n u k now := rfl
  have e1 : agN a n u k now life = if agE a n u k now life = 0 then n - agD a n now life else 0 := rfl
  have e2 : agC a n u k now life = if agE a n u k now life = 0 then agD a n now life else 0 := rfl
  have e3 : agU a n u k now life = if agE a n u k now life = 0 then u else 0 := rfl
  have e4 : agK a n u k now life = if agE a n u k now life = 0 then k else 0 := rfl
  repeat' (first | exact True.intro | apply And.intro | intro _)
  all_goals first
    | (clear app1 app2 hx hy; subst_vars; grind)
    | exact app1 (by clear app1 app2 hx hy; grind) _ _ (by assumption) (by assumption) (by assumption)
    | exact app2 (by clear app1 app2 hx hy; grind) _ _ (by assumption) (by assumption) (by assumption)
    | (clear app1 app2; grind [shA])
    | skip
set_option maxHeartbeats 2000000 in
theorem vc12 : VC12 := by
  intro a n u k now life
  have h0 := @agD_bd a n now life
  have h1 := @ck_ok a n u k
  have h2 := @as_ck a n u k now
  (repeat' (first | exact True.intro | apply And.intro | intro _)) <;> (try (subst_vars; grind [agN, agC, agU, agK, agE, zA]))
  refine ⟨fun i => 0 ≤ i ∧ i ≤ agD a n now life, fun i => (n - i).toNat, by grind, ?_⟩
  intro i hi
  have h3 := fun h => @ag_pre a n u k h now life i
  have h4 := fun h => @as_row a n u k now h i
  (repeat' (first | exact True.intro | apply And.intro | intro _)) <;> (try (subst_vars; grind [agN, agC, agU, agK, agE, shA]))
set_option maxHeartbeats 2000000 in
theorem vc16 : VC16 := by
  intro a n b m
  have hs := @sm_at a n b m
  (repeat' (first | exact True.intro | apply And.intro | intro _)) <;> (try (subst_vars; grind [smI]))
  refine ⟨fun i => 0 ≤ i ∧ i ≤ n ∧ allI (fun i => decide (a i 0 = b i 0 ∧ a i 1 = b i 1 ∧ a i 2 = b i 2)) i = true, fun i => (n - i).toNat, ⟨by grind, by grind, rfl⟩, ?_⟩
  intro i hi
  have ha := @allI_succ (fun i => decide (a i 0 = b i 0 ∧ a i 1 = b i 1 ∧ a i 2 = b i 2)) i
  have hu : smI a n b m = (decide (n = m) && allI (fun i => decide (a i 0 = b i 0 ∧ a i 1 = b i 1 ∧ a i 2 = b i 2)) n) := rfl
  generalize allI (fun i => decide (a i 0 = b i 0 ∧ a i 1 = b i 1 ∧ a i 2 = b i 2)) = al at *
  (repeat' (first | exact True.intro | apply And.intro | intro _)) <;> (try (subst_vars; grind []))
set_option maxHeartbeats 2000000 in
theorem vc15 : VC15 := by
  intro a n u k b m v l
  (repeat' (first | exact True.intro | apply And.intro | intro _)) <;> (try (subst_vars; grind []))
set_option maxHeartbeats 2000000 in
theorem vc8 : VC8 := by
  intro _
  repeat' (first | exact True.intro | apply And.intro | (intro h; subst h) | intro _)
  all_goals first | omega | decide +kernel
set_option maxHeartbeats 2000000 in
theorem vc14 : VC14 := by
  intro _
  repeat' (first | exact True.intro | apply And.intro | (intro h; subst h) | intro _)
  all_goals first | omega | decide +kernel
set_option maxHeartbeats 2000000 in
theorem vc6 : VC6 := by
  intro a n u k now life
  have h0 := @agD_bd a n now life
  have h2 := @as_ck a n u k now
  have hk := @ck_ok a n u k
  have g1 := sm_nil (shA a (agD a n now life)) zA
  have g2 := @sm_join a n (agD a n now life)
  have g3 := sm_sh0 (shA a (agD a n now life)) (n - agD a n now life)
  have g4 := @ag_again a n u k now life
  have g5 := @as_sh a n u k now (agD a n now life)
  (repeat' (first | exact True.intro | apply And.intro | intro _)) <;> (try (subst_vars; grind [agN, agC, agU, agK, agE]))
  refine ⟨fun i => 0 ≤ i ∧ i ≤ agC a n u k now life, fun i => (agC a n u k now life - i).toNat, by grind, ?_⟩
  intro i hi
  have h3 := fun h => @ag_pre a n u k h now life i
  have h4 := fun h => @as_row a n u k now h i
  (repeat' (first | exact True.intro | apply And.intro | intro _)) <;> (try (subst_vars; grind [agN, agC, agU, agK, agE]))
  clear h3 h4
  refine ⟨fun i => 0 ≤ i ∧ i ≤ agN a n u k now life, fun i => (agN a n u k now life - i).toNat, by grind, ?_⟩
  intro j hj
  have h3 := fun h => @ag_pre a n u k h now life (j + agD a n now life)
  have h4 := fun h => @as_row a n u k now h (j + agD a n now life)
  have h5 : shA a (agD a n now life) j 2 = a (j + agD a n now life) 2 := rfl
  (repeat' (first | exact True.intro | apply And.intro | intro _)) <;> (try (subst_vars; grind [agN, agC, agU, agK, agE]))
end Go.Proofs.Ytjlljcencbppcaa
