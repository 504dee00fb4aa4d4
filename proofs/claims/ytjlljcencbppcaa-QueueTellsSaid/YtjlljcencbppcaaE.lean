/- A managed queue in plain words: laws of the definitions. -/
import Derived.Test.YtjlljcencbppcaaD
namespace Go.Proofs.Ytjlljcencbppcaa
open Go Go.RowKit Go.Proofs.Ytjlljcencbppcaa.Vc
theorem as_ck {a : Int → Nat → Int} {n u k now : Int} (h : asE a n u k now = 0) : ckQ a n u k = 0 ∧ ltQ a n ≤ now ∧ 0 ≤ now ∧ now ≤ 1099511627776 := by
  unfold asE at h
  split at h
  · rename_i h1
    split at h
    · rename_i h2; exact ⟨h1, h2⟩
    · omega
  · omega
theorem as_of {a : Int → Nat → Int} {n u k now : Int} (h : ckQ a n u k = 0) (h1 : ltQ a n ≤ now) (h2 : 0 ≤ now) (h3 : now ≤ 1099511627776) : asE a n u k now = 0 := by
  unfold asE; rw [if_pos h, if_pos ⟨h1, h2, h3⟩]
theorem as_028 (a : Int → Nat → Int) (n u k now : Int) : asE a n u k now = 0 ∨ asE a n u k now = 2 ∨ asE a n u k now = 8 := by
  unfold asE; split
  · split <;> simp
  · simp
theorem as_8 {a : Int → Nat → Int} {n u k now : Int} (h : ckQ a n u k ≠ 0) : asE a n u k now = 8 := by unfold asE; rw [if_neg h]
theorem as_n8 {a : Int → Nat → Int} {n u k now : Int} (h : ckQ a n u k = 0) : asE a n u k now ≠ 8 := by unfold asE; rw [if_pos h]; split <;> omega
/-- every item's time is at most now -/
theorem as_row {a : Int → Nat → Int} {n u k now : Int} (h : asE a n u k now = 0) (i : Int) (h0 : 0 ≤ i) (h1 : i < n) : 0 ≤ a i 2 ∧ a i 2 ≤ now ∧ now ≤ 1099511627776 ∧ n ≤ 256 := by
  obtain ⟨hc, hl, h2, h3⟩ := as_ck h
  have h4 := ck_row hc i h0 h1
  have h5 := ck_le hc h0 (show i ≤ n - 1 by omega) (by omega)
  unfold ltQ at hl
  rw [if_neg (by omega)] at hl
  have := (ck_ok hc).1
  omega
theorem agD_bd {a : Int → Nat → Int} {n now life : Int} (h : 0 ≤ n) : 0 ≤ agD a n now life ∧ agD a n now life ≤ n := cntI_bd h
theorem ag_pre {a : Int → Nat → Int} {n u k : Int} (h : ckQ a n u k = 0) (now life i : Int) (h0 : 0 ≤ i) (h1 : i < n) : life < now - a i 2 ↔ i < agD a n now life := by
  have := @cntI_pre (fun i => decide (life < now - a i 2)) n (fun i j a0 a1 a2 hj => by
    have := ck_le h a0 a1 a2
    simp only [decide_eq_true_eq] at *
    omega) i h0 h1
  simp only [decide_eq_true_eq] at this
  exact this
theorem sh_row {a : Int → Nat → Int} {d i : Int} {f : Nat} : shA a d i f = a (i + d) f := rfl
theorem ck_sh {a : Int → Nat → Int} {n u k d : Int} (h : ckQ a n u k = 0) (h0 : 0 ≤ d) : ckQ (shA a d) (n - d) u k = 0 := by
  obtain ⟨p1, p2, p3, p4, p5, p6, p7⟩ := ck_ok h
  unfold ckQ
  refine if_pos ⟨by omega, p2, p3, p4, p5, p6, allI_of fun i i0 i1 => ?_⟩
  have h1 := ck_row h (i + d) (by omega) (by omega)
  unfold okI
  rw [decide_eq_true_eq]
  simp only [sh_row]
  rw [show i - 1 + d = i + d - 1 by omega]
  exact ⟨h1.1, h1.2.1, h1.2.2.1, h1.2.2.2.1, fun h2 => h1.2.2.2.2 (by omega)⟩
theorem ck_shf {a : Int → Nat → Int} {n u k d u' k' : Int} (h : ckQ a n u k = 0) (h0 : 0 ≤ d) (h1 : 0 ≤ u') (h2 : u' ≤ 2199023255552) (h3 : 0 ≤ k') (h4 : k' ≤ 256) (h5 : u' = 0 → k' = 0) : ckQ (shA a d) (n - d) u' k' = 0 := by
  obtain ⟨p1, p2, p3, p4, p5, p6, p7⟩ := ck_ok (ck_sh h h0)
  unfold ckQ
  exact if_pos ⟨p1, h1, h2, h3, h4, h5, p7⟩
theorem ck_nil {a : Int → Nat → Int} {u k : Int} (h1 : 0 ≤ u) (h2 : u ≤ 2199023255552) (h3 : 0 ≤ k) (h4 : k ≤ 256) (h5 : u = 0 → k = 0) : ckQ a 0 u k = 0 := if_pos ⟨by omega, h1, h2, h3, h4, h5, rfl⟩
theorem lt_sh {a : Int → Nat → Int} {n d : Int} (h0 : 0 ≤ d) (h1 : d < n) : ltQ (shA a d) (n - d) = ltQ a n := by
  unfold ltQ
  rw [if_neg (by omega), if_neg (by omega), sh_row, show n - d - 1 + d = n - 1 by omega]
theorem as_sh {a : Int → Nat → Int} {n u k now d : Int} (h : asE a n u k now = 0) (h0 : 0 ≤ d) (h1 : d ≤ n) : asE (shA a d) (n - d) u k now = 0 := by
  obtain ⟨hc, hl, h2, h3⟩ := as_ck h
  refine as_of (ck_sh hc h0) ?_ h2 h3
  by_cases h4 : d = n
  · unfold ltQ; rw [if_pos (by omega)]; omega
  · rw [lt_sh h0 (by omega)]; exact hl
theorem ag_again {a : Int → Nat → Int} {n u k now life : Int} (hn : 0 ≤ n) (h : ckQ a n u k = 0) : agD (shA a (agD a n now life)) (n - agD a n now life) now life = 0 := by
  have hb := @agD_bd a n now life hn
  have hc := ck_sh (d := agD a n now life) h hb.1
  have hb2 := @agD_bd (shA a (agD a n now life)) (n - agD a n now life) now life (by omega)
  apply Classical.byContradiction
  intro hne
  have h1 := (ag_pre hc now life 0 (by omega) (by omega)).2 (by omega)
  have h2 := (ag_pre h now life (agD a n now life) hb.1 (by omega)).1 (by rw [sh_row, Int.zero_add] at h1; exact h1)
  omega
theorem sm_at {a : Int → Nat → Int} {n : Int} {b : Int → Nat → Int} {m : Int} : smI a n b m = true ↔ n = m ∧ ∀ i : Int, 0 ≤ i → i < n → a i 0 = b i 0 ∧ a i 1 = b i 1 ∧ a i 2 = b i 2 := by
  unfold smI
  rw [Bool.and_eq_true, decide_eq_true_eq]
  constructor
  · rintro ⟨h1, h2⟩
    refine ⟨h1, fun i h3 h4 => ?_⟩
    have := allI_at h2 h3 h4
    rwa [decide_eq_true_eq] at this
  · rintro ⟨h1, h2⟩
    exact ⟨h1, allI_of fun i h3 h4 => by rw [decide_eq_true_eq]; exact h2 i h3 h4⟩
theorem sm_nil (a b : Int → Nat → Int) : smI a 0 b 0 = true := sm_at.2 ⟨rfl, fun i h0 h1 => by omega⟩
theorem sm_self (a : Int → Nat → Int) (n : Int) : smI a n a n = true := sm_at.2 ⟨rfl, fun i _ _ => ⟨rfl, rfl, rfl⟩⟩
theorem sm_join {a : Int → Nat → Int} {n d : Int} (h0 : 0 ≤ d) (h1 : d ≤ n) : smI (appA a d (shA a d)) (d + (n - d)) a n = true := by
  refine sm_at.2 ⟨by omega, fun i i0 i1 => ?_⟩
  have : ∀ f, appA a d (shA a d) i f = a i f := fun f => by
    unfold appA shA
    split
    · rfl
    · rw [show i - d + d = i by omega]
  exact ⟨this 0, this 1, this 2⟩
theorem sm_sh0 (a : Int → Nat → Int) (n : Int) : smI (shA a 0) n a n = true := by
  refine sm_at.2 ⟨rfl, fun i i0 i1 => ?_⟩
  have : ∀ f, shA a 0 i f = a i f := fun f => by unfold shA; rw [Int.add_zero]
  exact ⟨this 0, this 1, this 2⟩
theorem tdiv_100 {x : Int} (h : 1 ≤ x) : 0 ≤ Int.tdiv 100000 x ∧ Int.tdiv 100000 x ≤ 100000 := by
  rw [Int.tdiv_eq_ediv_of_nonneg (by omega)]
  exact ⟨Int.ediv_nonneg (by omega) (by omega), Int.ediv_le_self _ (by omega)⟩
section
variable {a : Int → Nat → Int} {n u k now : Int}
theorem tk_e (h : asE a n u k now ≠ 0 ∨ n = 0) : tkD a n u k now = 0 ∧ tkG a n u k now = 0 ∧ tkN a n u k now = 0 ∧ tkU a n u k now = 0 ∧ tkK a n u k now = 0 ∧ ∀ f, tkI a n u k now f = 0 := by
  have h1 : tkD a n u k now = 0 := by unfold tkD; rw [if_neg (by omega)]
  have h2 : tkG a n u k now = 0 := by unfold tkG; rw [if_neg (by omega)]
  exact ⟨h1, h2, by unfold tkN; rw [if_neg (by omega)], by unfold tkU; rw [if_neg (by omega)], by unfold tkK; rw [if_neg (by omega)], fun f => by unfold tkI; rw [if_neg (by omega)]⟩
theorem tk_calm (h : asE a n u k now = 0) (h0 : 0 < n) (h1 : now - a 0 2 < 5000) : tkD a n u k now = 0 ∧ tkG a n u k now = 1 ∧ tkN a n u k now = n - 1 ∧ tkU a n u k now = 0 ∧ tkK a n u k now = 0 ∧ ∀ f, tkI a n u k now f = a 0 f := by
  have h2 : tkD a n u k now = 0 := by unfold tkD; rw [if_neg (by omega)]
  have h3 : tkG a n u k now = 1 := by unfold tkG; rw [if_pos (by omega)]
  exact ⟨h2, h3, by unfold tkN; rw [if_pos h3]; omega, by unfold tkU; rw [if_pos h3, if_pos h1], by unfold tkK; rw [if_pos h3, if_pos h1], fun f => by unfold tkI; rw [if_pos h3, h2]⟩
theorem tk_first (h : asE a n u k now = 0) (h0 : 0 < n) (h1 : 5000 ≤ now - a 0 2) (hu : u = 0) : tkD a n u k now = 0 ∧ tkG a n u k now = 1 ∧ tkN a n u k now = n - 1 ∧ tkU a n u k now = now + 100000 ∧ tkK a n u k now = k ∧ ∀ f, tkI a n u k now f = a 0 f := by
  have h2 : tkD a n u k now = 0 := by unfold tkD; rw [if_neg (by omega)]
  have h3 : tkG a n u k now = 1 := by unfold tkG; rw [if_pos (by omega)]
  exact ⟨h2, h3, by unfold tkN; rw [if_pos h3]; omega, by unfold tkU; rw [if_pos h3, if_neg (by omega), if_pos hu], by unfold tkK; rw [if_pos h3, if_neg (by omega), if_neg (by omega)], fun f => by unfold tkI; rw [if_pos h3, h2]⟩
theorem tk_wait (h : asE a n u k now = 0) (h0 : 0 < n) (h1 : 5000 ≤ now - a 0 2) (hu : u ≠ 0) (hn : now < u) : tkD a n u k now = 0 ∧ tkG a n u k now = 1 ∧ tkN a n u k now = n - 1 ∧ tkU a n u k now = u ∧ tkK a n u k now = k ∧ ∀ f, tkI a n u k now f = a 0 f := by
  have h2 : tkD a n u k now = 0 := by unfold tkD; rw [if_neg (by omega)]
  have h3 : tkG a n u k now = 1 := by unfold tkG; rw [if_pos (by omega)]
  exact ⟨h2, h3, by unfold tkN; rw [if_pos h3]; omega, by unfold tkU; rw [if_pos h3, if_neg (by omega), if_neg hu, if_neg (by omega)], by unfold tkK; rw [if_pos h3, if_neg (by omega), if_neg (by omega)], fun f => by unfold tkI; rw [if_pos h3, h2]⟩
theorem tk_last (h : asE a n u k now = 0) (h0 : n = 1) (h1 : 5000 ≤ now - a 0 2) (hu : u ≠ 0) (hn : u ≤ now) : tkD a n u k now = 1 ∧ tkG a n u k now = 0 ∧ tkN a n u k now = 0 ∧ tkU a n u k now = 0 ∧ tkK a n u k now = 0 ∧ ∀ f, tkI a n u k now f = 0 := by
  have h2 : tkD a n u k now = 1 := by unfold tkD; rw [if_pos (by omega)]
  have h3 : tkG a n u k now = 0 := by unfold tkG; rw [if_neg (by omega)]
  exact ⟨h2, h3, by unfold tkN; rw [if_neg (by omega)], by unfold tkU; rw [if_neg (by omega)], by unfold tkK; rw [if_neg (by omega)], fun f => by unfold tkI; rw [if_neg (by omega)]⟩
theorem tk_drop (h : asE a n u k now = 0) (h0 : 1 < n) (h1 : 5000 ≤ now - a 0 2) (hu : u ≠ 0) (hn : u ≤ now) : tkD a n u k now = 1 ∧ tkG a n u k now = 1 ∧ tkN a n u k now = n - 2 ∧ tkU a n u k now = now + Int.tdiv 100000 (min (k + 1) 256 + 1) ∧ tkK a n u k now = min (k + 1) 256 ∧ ∀ f, tkI a n u k now f = a 1 f := by
  have h2 : tkD a n u k now = 1 := by unfold tkD; rw [if_pos (by omega)]
  have h3 : tkG a n u k now = 1 := by unfold tkG; rw [if_pos (by omega)]
  exact ⟨h2, h3, by unfold tkN; rw [if_pos h3]; omega, by unfold tkU; rw [if_pos h3, if_neg (by omega), if_neg hu, if_pos h2], by unfold tkK; rw [if_pos h3, if_neg (by omega), if_pos h2], fun f => by unfold tkI; rw [if_pos h3, h2]⟩
end
theorem ck_put {a : Int → Nat → Int} {n u k id by_ now : Int} (hn : 0 ≤ n) (h : asE a n u k now = 0) (hn : n < 256) (h0 : 0 ≤ by_) (h1 : by_ ≤ 2304) : ckQ (puA a n id by_ now) (n + 1) u k = 0 ∧ ltQ (puA a n id by_ now) (n + 1) = now ∧ (∀ i : Int, 0 ≤ i → i < n → puA a n id by_ now i 0 = a i 0) ∧ puA a n id by_ now n 0 = id ∧ (0 < n → puA a n id by_ now 0 2 = a 0 2) := by
  obtain ⟨hc, hl, h2, h3⟩ := as_ck h
  obtain ⟨p1, p2, p3, p4, p5, p6, p7⟩ := ck_ok hc
  have e1 : ∀ (i : Int) f, i < n → puA a n id by_ now i f = a i f := fun i f hi => by unfold puA; rw [if_neg (by omega)]
  have e2 : puA a n id by_ now n 0 = id := by unfold puA; simp
  have e3 : puA a n id by_ now n 1 = by_ := by unfold puA; simp
  have e4 : puA a n id by_ now n 2 = now := by unfold puA; simp
  have g1 : ckQ (puA a n id by_ now) (n + 1) u k = 0 := if_pos ⟨by omega, p2, p3, p4, p5, p6, allI_of fun i i0 i1 => by
    unfold okI
    rw [decide_eq_true_eq]
    by_cases hi : i < n
    · rw [e1 i 2 hi, e1 i 1 hi, e1 (i - 1) 2 (by omega)]
      exact ck_row hc i i0 hi
    · obtain rfl : i = n := by omega
      rw [e4, e3, e1 (i - 1) 2 (by omega)]
      refine ⟨h2, h3, h0, h1, fun hp => ?_⟩
      unfold ltQ at hl
      rw [if_neg (by omega)] at hl
      exact hl⟩
  have g2 : ltQ (puA a n id by_ now) (n + 1) = now := by
    unfold ltQ
    rw [if_neg (by omega), show n + 1 - 1 = n by omega, e4]
  exact ⟨g1, g2, fun i i0 i1 => e1 i 0 i1, e2, fun hp => e1 0 2 hp⟩
theorem ck_take {a : Int → Nat → Int} {n u k now : Int} (hn : 0 ≤ n) (h : asE a n u k now = 0) : ckQ (shA a (tkD a n u k now + 1)) (tkN a n u k now) (tkU a n u k now) (tkK a n u k now) = 0 ∧ ltQ (shA a (tkD a n u k now + 1)) (tkN a n u k now) ≤ now ∧ 0 ≤ tkD a n u k now ∧ tkD a n u k now ≤ 1 ∧ tkD a n u k now ≤ n ∧
    (tkG a n u k now = 1 ∧ tkD a n u k now < n ∧ tkN a n u k now = n - tkD a n u k now - 1 ∧ tkI a n u k now 0 = a (tkD a n u k now) 0 ∨ tkG a n u k now = 0 ∧ tkD a n u k now = n ∧ tkN a n u k now = 0) := by
  obtain ⟨hc, hl, h2, h3⟩ := as_ck h
  obtain ⟨p1, p2, p3, p4, p5, p6, p7⟩ := ck_ok hc
  have l0 : ∀ b : Int → Nat → Int, ltQ b 0 ≤ now := fun b => by unfold ltQ; rw [if_pos rfl]; exact h2
  have ls : ∀ d : Int, 0 ≤ d → d ≤ n → ltQ (shA a d) (n - d) ≤ now := fun d d0 d1 => by
    by_cases hd : d = n
    · rw [hd, show n - n = 0 by omega]; exact l0 _
    · rw [lt_sh d0 (by omega)]; exact hl
  rcases Classical.em (n = 0) with h0 | h0
  · obtain ⟨q1, q2, q3, q4, q5, q6⟩ := tk_e (a := a) (u := u) (k := k) (now := now) (.inr h0)
    rw [q1, q2, q3, q4, q5]
    exact ⟨ck_nil (by omega) (by omega) (by omega) (by omega) (fun _ => rfl), l0 _, by omega, by omega, by omega, .inr ⟨rfl, by omega, rfl⟩⟩
  · rcases Classical.em (now - a 0 2 < 5000) with h4 | h4
    · obtain ⟨q1, q2, q3, q4, q5, q6⟩ := tk_calm h (by omega) h4
      rw [q1, q2, q3, q4, q5, q6]
      exact ⟨ck_shf hc (by omega) (by omega) (by omega) (by omega) (by omega) (fun _ => rfl), ls 1 (by omega) (by omega), by omega, by omega, by omega, .inl ⟨rfl, by omega, by omega, rfl⟩⟩
    · rcases Classical.em (u = 0) with h5 | h5
      · obtain ⟨q1, q2, q3, q4, q5, q6⟩ := tk_first h (by omega) (by omega) h5
        rw [q1, q2, q3, q4, q5, q6]
        exact ⟨ck_shf hc (by omega) (by omega) (by omega) (by omega) (by omega) (fun _ => by omega), ls 1 (by omega) (by omega), by omega, by omega, by omega, .inl ⟨rfl, by omega, by omega, rfl⟩⟩
      · rcases Classical.em (now < u) with h6 | h6
        · obtain ⟨q1, q2, q3, q4, q5, q6⟩ := tk_wait h (by omega) (by omega) h5 h6
          rw [q1, q2, q3, q4, q5, q6]
          exact ⟨ck_shf hc (by omega) (by omega) (by omega) (by omega) (by omega) (fun _ => by omega), ls 1 (by omega) (by omega), by omega, by omega, by omega, .inl ⟨rfl, by omega, by omega, rfl⟩⟩
        · rcases Classical.em (n = 1) with h7 | h7
          · obtain ⟨q1, q2, q3, q4, q5, q6⟩ := tk_last h h7 (by omega) h5 (by omega)
            rw [q1, q2, q3, q4, q5]
            exact ⟨ck_nil (by omega) (by omega) (by omega) (by omega) (fun _ => rfl), l0 _, by omega, by omega, by omega, .inr ⟨rfl, by omega, rfl⟩⟩
          · obtain ⟨q1, q2, q3, q4, q5, q6⟩ := tk_drop h (by omega) (by omega) h5 (by omega)
            rw [q1, q2, q3, q4, q5, q6]
            have hb := @tdiv_100 (min (k + 1) 256 + 1) (by omega)
            exact ⟨ck_shf hc (by omega) (by omega) (by omega) (by omega) (by omega) (fun _ => by omega), ls 2 (by omega) (by omega), by omega, by omega, by omega, .inl ⟨rfl, by omega, by omega, rfl⟩⟩
end Go.Proofs.Ytjlljcencbppcaa
