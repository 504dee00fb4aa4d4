/- Shares of airtime: what is left to show of the small functions. -/
import Derived.Test.YtccmgepknjkakaaC
namespace Go.Proofs.Ytccmgepknjkakaa
open Go Go.RowKit Go.Proofs.Ytccmgepknjkakaa.Vc
theorem vc24 : VC24 := by
  intro a n t
  have e : ckA a n t = if 1 ≤ n ∧ n ≤ 32 ∧ 0 ≤ t ∧ t < n ∧ allI (okC a) n = true then 0 else 8 := rfl
  (repeat' (first | exact True.intro | apply And.intro | intro _)) <;> (try (subst_vars; grind []))
  refine ⟨fun i => 0 ≤ i ∧ i ≤ n ∧ allI (okC a) i = true, fun i => (n - i).toNat, by grind [allI_zero], ?_⟩
  intro i hi
  have d1 := @allI_at (okC a) n i
  have d2 := @allI_succ (okC a) i
  have d3 : okC a i = decide (1 ≤ a i 0 ∧ a i 0 ≤ 16 ∧ -32767 ≤ a i 1 ∧ a i 1 ≤ 1000 * a i 0) := rfl
  (repeat' (first | exact True.intro | apply And.intro | intro _)) <;> (try (subst_vars; grind []))
theorem vc25 : VC25 := by
  intro a n t
  have e : ckA a n t = if 1 ≤ n ∧ n ≤ 32 ∧ 0 ≤ t ∧ t < n ∧ allI (okC a) n = true then 0 else 8 := rfl
  (repeat' (first | exact True.intro | apply And.intro | intro _)) <;> (try (subst_vars; grind []))
  refine ⟨fun i => 0 ≤ i ∧ i ≤ n ∧ allI (okC a) i = true, fun i => (n - i).toNat, by grind [allI_zero], ?_⟩
  intro i hi
  have d1 := @allI_at (okC a) n i
  have d2 := @allI_succ (okC a) i
  have d3 : okC a i = decide (1 ≤ a i 0 ∧ a i 0 ≤ 16 ∧ -32767 ≤ a i 1 ∧ a i 1 ≤ 1000 * a i 0) := rfl
  (repeat' (first | exact True.intro | apply And.intro | intro _)) <;> (try (subst_vars; grind []))
theorem vc14 : VC14 := by
  intro a n t b m u
  have e : smA a n t b m u = (decide (n = m ∧ t = u) && allI (sm2 a b) n) := rfl
  (repeat' (first | exact True.intro | apply And.intro | intro _)) <;> (try (subst_vars; grind []))
  refine ⟨fun i => 0 ≤ i ∧ i ≤ n ∧ allI (sm2 a b) i = true, fun i => (n - i).toNat, by grind [allI_zero], ?_⟩
  intro i hi
  have d1 := @allI_at (sm2 a b) n i
  have d2 := @allI_succ (sm2 a b) i
  have d3 : sm2 a b i = decide (a i 0 = b i 0 ∧ a i 1 = b i 1) := rfl
  (repeat' (first | exact True.intro | apply And.intro | intro _)) <;> (try (subst_vars; grind []))
theorem vc18 : VC18 := by
  intro a n t h
  (repeat' (first | exact True.intro | apply And.intro | intro _)) <;> (try (subst_vars; grind []))
theorem vc38 : VC38 := by
  intro a n h
  (repeat' (first | exact True.intro | apply And.intro | intro _)) <;> (try (subst_vars; grind []))
theorem nw_row {b : Int → Nat → Int} {x : Int → Nat → Int} {k i : Int} (hk : k = i) (hx : ∀ j, 0 ≤ j → j < i → ∀ f, f < 2 → x j f = nwA b j f) : ∀ j, 0 ≤ j → j < i + 1 → ∀ f, f < 2 → appA x k (setA (setA zA 0 0 (b i 0)) 0 1 0) j f = nwA b j f := by
  intro j j0 j1 f hf
  unfold appA
  split
  · exact hx j j0 (by omega) f hf
  · obtain rfl : j = i := by omega
    subst hk
    rw [Int.sub_self]
    match f, hf with
    | 0, _ => simp [setA, nwA]
    | 1, _ => simp [setA, nwA]
theorem vc16 : VC16 := by
  intro b n h
  intro hn
  refine ⟨fun x k i => 0 ≤ i ∧ i ≤ n ∧ k = i ∧ ∀ j, 0 ≤ j → j < i → ∀ f, f < 2 → x j f = nwA b j f, fun _ _ i => (n - i).toNat, ⟨by omega, by omega, rfl, fun j h0 h1 => by omega⟩, ?_⟩
  rintro x k i ⟨i0, i1, rfl, hx⟩
  have hr := nw_row (b := b) (x := x) (k := k) rfl hx
  have hc : k = n → ckA x k 0 = ckA (nwA b) n 0 := fun hk => by subst hk; exact ckA_congr hx
  have h0 := ckA_08 x k 0
  have hw := @nw_ck b n
  have e : nwN b n n = if nwE b n = 0 then n else 0 := rfl
  have e2 : nwE b n = 0 ∨ nwE b n = 2 := by unfold nwE; split <;> simp
  repeat' (first | exact True.intro | apply And.intro | intro _)
  all_goals first
    | exact hr _ (by assumption) (by assumption) _ (by assumption)
    | exact hx _ (by assumption) (by clear hx hr; grind) _ (by assumption)
    | (clear hx hr; grind)
    | (dsimp only; omega)
theorem vc19 : VC19 := by
  intro b n h
  have e : nwN b n n = if nwE b n = 0 then n else 0 := rfl
  have e2 : nwE b n = if 1 ≤ n ∧ n ≤ 32 ∧ allI (nwOk b) n = true then 0 else 2 := rfl
  (repeat' (first | exact True.intro | apply And.intro | intro _)) <;> (try (subst_vars; grind []))
  refine ⟨fun x k i => 0 ≤ i ∧ i ≤ n ∧ k = i ∧ allI (nwOk b) i = true ∧ ∀ j, 0 ≤ j → j < i → ∀ f, f < 2 → x j f = nwA b j f, fun _ _ i => (n - i).toNat, ⟨by omega, by omega, rfl, rfl, fun j h0 h1 => by omega⟩, ?_⟩
  rintro x k i ⟨i0, i1, rfl, ha, hx⟩
  have hr := nw_row (b := b) (x := x) (k := k) rfl hx
  have d1 := @allI_at (nwOk b) n k
  have d2 := @allI_succ (nwOk b) k
  have d3 : nwOk b k = decide (1 ≤ b k 0 ∧ b k 0 ≤ 16) := rfl
  repeat' (first | exact True.intro | apply And.intro | intro _)
  all_goals first
    | exact hr _ (by assumption) (by assumption) _ (by assumption)
    | exact hx _ (by assumption) (by clear hx hr; grind) _ (by assumption)
    | (clear hx hr; grind)
    | (dsimp only; omega)
theorem vc22 : VC22 := by
  intro a n t who air
  have o := @ckA_ok a n t
  have o8 := ckA_08 a n t
  have e : chE a n t who air = if ckA a n t = 0 then if 0 ≤ who ∧ who < n ∧ 1 ≤ air ∧ air ≤ 32767 then if a who 1 ≤ 0 then 20 else 0 else 2 else 8 := rfl
  have k := fun (h : ckA a n t = 0) => (o h).2.2.2.2.h who
  have e2 : chN a n t who air n = if chE a n t who air = 0 then n else 0 := rfl
  have e3 : chN a n t who air t = if chE a n t who air = 0 then t else 0 := rfl
  have e4 : chA a who air = setA a who 1 (a who 1 - air) := rfl
  repeat' (first | exact True.intro | apply And.intro | (intro h; (try (have h' := h.symm; subst h'))))
  all_goals (try rw [e4])
  all_goals (try grind)
theorem vc23 : VC23 := by
  intro a n t who air
  have o := @ckA_ok a n t
  have o8 := ckA_08 a n t
  have e : chE a n t who air = if ckA a n t = 0 then if 0 ≤ who ∧ who < n ∧ 1 ≤ air ∧ air ≤ 32767 then if a who 1 ≤ 0 then 20 else 0 else 2 else 8 := rfl
  have k := fun (h : ckA a n t = 0) => (o h).2.2.2.2.h who
  have e2 : chN a n t who air n = if chE a n t who air = 0 then n else 0 := rfl
  have e3 : chN a n t who air t = if chE a n t who air = 0 then t else 0 := rfl
  have e4 : chA a who air = setA a who 1 (a who 1 - air) := rfl
  repeat' (first | exact True.intro | apply And.intro | (intro h; (try (have h' := h.symm; subst h'))))
  all_goals (try rw [e4])
  all_goals (try grind)
theorem vc32 : VC32 := by
  intro a n t b h
  have k := h.2.2.2.h t h.2.1 h.2.2.1
  have e1 : cho b a t = (b && decide (0 < a t 1)) := rfl
  have e2 : ∀ j f, stA b a t j f = if b = true then (if 0 < a t 1 then a j f else setA a t 1 (a t 1 + 1000 * a t 0) j f) else setA a t 1 (min (a t 1) 0) j f := fun j f => by
    unfold stA
    by_cases hb : b = true
    · rw [if_pos hb, if_pos hb]; split <;> rfl
    · rw [if_neg hb, if_neg hb]
  have e3 : stT b a n t = if b = true ∧ 0 < a t 1 then t else if t + 1 = n then 0 else t + 1 := rfl
  have e4 : ¬ 0 < a t 1 → ∀ j f, setA a t 1 (min (a t 1) 0) j f = a j f := fun h j f => by rw [setA_id (by omega)]
  have e5 : 0 < a t 1 → min (a t 1) 0 = 0 := fun h => by omega
  repeat' (first | exact True.intro | apply And.intro | (intro h; (try (have h' := h.symm; subst h'))))
  all_goals (try grind)
end Go.Proofs.Ytccmgepknjkakaa
