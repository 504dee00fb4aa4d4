/- Rate control: what is left to show of each function. -/
import Derived.Test.YtakkebjoeceplaaC
import Derived.Test.YtakkebjoeceplaaA
namespace Go.Proofs.Ytakkebjoeceplaa
open Go Go.RowKit Go.Proofs.Ytakkebjoeceplaa.Vc
theorem vc27 : VC27 := by
  intro v0 v1 v2 _
  exact ⟨by rw [decide_eq_true_eq], trivial⟩
theorem vc29 : VC29 := by
  intro v0 v1 v2 _
  exact ⟨by rw [decide_eq_true_eq], trivial⟩
theorem vc39 : VC39 := by
  intro v0 v1 v2 v3 v4 _
  refine ⟨trivial, fun v5 h5 => ⟨fun _ => trivial, fun v6 h6 => ⟨fun _ => trivial, fun v7 h7 => ⟨fun _ => trivial, fun v8 h8 => ⟨?_, trivial⟩⟩⟩⟩⟩
  subst h5 h6 h7 h8
  rw [okZ_iff]
  simp only [decide_eq_true_eq]
  constructor
  · rintro ⟨⟨⟨⟨⟨_, _⟩, _, _⟩, _, _⟩, _, _⟩, h⟩
    exact ⟨by omega, by omega, by omega, by omega, by omega, by omega, by omega, by omega, h⟩
  · rintro ⟨_, _, _, _, _, _, _, _, h⟩
    exact ⟨by omega, h⟩
theorem vc24 : VC24 := by
  intro a n r _ h0
  refine ⟨trivial, fun b1 e1 _ => ⟨fun _ => trivial, fun b2 e2 => ?_⟩⟩
  subst e1 e2
  simp only [decide_eq_true_eq]
  refine ⟨fun h => ⟨(ck_bad (by omega)).symm, trivial⟩, fun h => ?_⟩
  refine ⟨fun i => 0 ≤ i ∧ i ≤ n ∧ ∀ j, 0 ≤ j → j < i → okR a j = true, fun i => (n - i).toNat, ⟨by omega, by omega, fun j _ _ => by omega⟩, ?_⟩
  intro i ⟨i0, i1, hi⟩
  refine ⟨fun hlt => ⟨i0, fun _ => ⟨trivial, fun c hc => ⟨fun hne => ⟨(ck_bad fun hh => hne ?_).symm, trivial⟩, fun he => ⟨by omega, fun _ => ⟨⟨by omega, by omega, fun j j0 j1 => ?_⟩, by first | omega | (dsimp only; omega)⟩⟩⟩⟩⟩, fun hge => ⟨(ck_ok.2 ⟨by omega, by omega, by omega, by omega, fun j j0 j1 => hi j j0 (by omega)⟩).symm, trivial⟩⟩
  · rw [hc]; exact hh.2.2.2.2 i i0 hlt
  · by_cases hj : j = i
    · subst hj; rw [← Classical.not_not.1 he, hc]; rfl
    · exact hi j j0 (by omega)
theorem vc25 : VC25 := by
  intro a n r _ h0
  refine ⟨fun _ => trivial, fun b1 e1 _ => ?_⟩
  subst e1
  simp only [decide_eq_true_eq]
  refine ⟨fun h => ⟨(ck_bad (by omega)).symm, trivial⟩, fun h => ?_⟩
  refine ⟨fun i => 0 ≤ i ∧ i ≤ n ∧ ∀ j, 0 ≤ j → j < i → okR a j = true, fun i => (n - i).toNat, ⟨by omega, by omega, fun j _ _ => by omega⟩, ?_⟩
  intro i ⟨i0, i1, hi⟩
  have hk : okR a i = true ↔ ¬ ((((¬ (1 ≤ a i 0 ∧ a i 0 ≤ 32767) ∨ ¬ (0 ≤ a i 1 ∧ a i 1 ≤ 10000)) ∨ ¬ (0 ≤ a i 2 ∧ a i 2 ≤ a i 1)) ∨ ¬ (0 ≤ a i 3 ∧ a i 3 ≤ 1000)) ∨ (a i 4 = 0 ∧ ¬ a i 3 = 0)) := by
    unfold okR
    rw [okZ_iff]
    unfold knB
    by_cases h4 : a i 4 = 0
    · simp only [h4, decide_true, Bool.not_true, Bool.false_eq_true, false_or, true_and]; omega
    · simp only [h4, decide_false, Bool.not_false, true_or, false_and, and_true, or_false]; omega
  refine ⟨fun hlt => ⟨i0, fun _ => ⟨trivial, fun b1 e1 => ⟨fun _ => trivial, fun b2 e2 => ⟨fun _ => trivial, fun b3 e3 => ⟨fun _ => trivial, fun b4 e4 => ?_⟩⟩⟩⟩⟩, fun hge => ⟨(ck_ok.2 ⟨by omega, by omega, by omega, by omega, fun j j0 j1 => hi j j0 (by omega)⟩).symm, trivial⟩⟩
  subst e1 e2 e3 e4
  simp only [decide_eq_true_eq]
  refine ⟨fun hne => ⟨(ck_bad fun hh => hk.1 (hh.2.2.2.2 i i0 hlt) hne).symm, trivial⟩, fun he => ⟨by omega, fun _ => ⟨⟨by omega, by omega, fun j j0 j1 => ?_⟩, by first | omega | (dsimp only; omega)⟩⟩⟩
  by_cases hj : j = i
  · subst hj; exact hk.2 he
  · exact hi j j0 (by omega)
theorem vc10 : VC10 := by
  intro a n r hn h0
  exact ⟨by omega, fun _ => ⟨by omega, fun _ _ => ⟨rfl, fun _ _ _ _ _ => rfl, rfl, trivial⟩⟩⟩
theorem vc28 : VC28 := by
  intro a n hn h0 b hb _
  refine ⟨fun h => ?_, fun _ => ⟨by omega, fun _ => ⟨by omega, fun _ => ⟨rfl, fun _ _ _ _ _ => rfl, trivial⟩⟩⟩⟩
  have : n = 0 := hb.resolve_left (fun hh => hh h)
  exact ⟨this.symm, fun i g _ _ _ => by omega, trivial⟩
theorem nw_loop {P : Prop} {b : Int → Nat → Int} {n : Int} (a : Int → Nat → Int) (h : ∀ (i : Int) (g : Nat), 0 ≤ i → i < n → g < 5 → a i g = nwA b i g) : ckA a n 0 = ckA (nwA b) n 0 := ck_congr h
theorem vc11 : VC11 := by
  intro b n hn h0
  refine ⟨fun a k i => 0 ≤ i ∧ i ≤ n ∧ k = i ∧ ∀ (j : Int) (g : Nat), 0 ≤ j → j < k → g < 5 → a j g = nwA b j g, fun _ _ i => (n - i).toNat, ⟨by omega, by omega, rfl, fun j _ _ _ _ => by omega⟩, ?_⟩
  rintro a k i ⟨i0, i1, rfl, hi⟩ _ _ _
  refine ⟨fun hlt => ⟨i0, fun _ => ⟨by omega, fun _ => ⟨by omega, fun _ => ⟨by omega, fun _ => ⟨⟨by omega, by omega, rfl, app5 hi rfl rfl rfl rfl rfl⟩, by first | omega | (dsimp only; omega)⟩⟩⟩⟩⟩, fun hge => ⟨trivial, fun c hc => ?_⟩⟩
  obtain rfl : k = n := by omega
  rw [ck_congr hi] at hc
  subst hc
  refine ⟨fun hne => ?_, fun he => ?_⟩
  · have e : nwE b k = 2 := by unfold nwE; rw [if_neg hne]
    have e' : nwN b k = 0 := by unfold nwN; rw [e]; rfl
    rw [e, e']
    exact ⟨rfl, fun i g _ _ _ => by omega, rfl, rfl, trivial⟩
  · have e : nwE b k = 0 := by unfold nwE; rw [if_pos (Classical.not_not.1 he)]
    have e' : nwN b k = k := by unfold nwN; rw [e]; rfl
    rw [e, e']
    exact ⟨rfl, hi, rfl, rfl, trivial⟩
theorem vc12 : VC12 := by
  intro b n hn h0
  refine ⟨fun a k i => 0 ≤ i ∧ i ≤ n ∧ k = i ∧ ∀ (j : Int) (g : Nat), 0 ≤ j → j < k → g < 5 → a j g = nwA b j g, fun _ _ i => (n - i).toNat, ⟨by omega, by omega, rfl, fun j _ _ _ _ => by omega⟩, ?_⟩
  rintro a k i ⟨i0, i1, rfl, hi⟩ _ _ _
  refine ⟨fun hlt => ⟨i0, fun _ => ⟨by omega, fun _ => ⟨by omega, fun _ _ => ⟨by omega, fun _ => ⟨⟨by omega, by omega, rfl, app5 hi rfl rfl rfl rfl rfl⟩, by first | omega | (dsimp only; omega)⟩⟩⟩⟩⟩, fun hge => ⟨trivial, fun c hc => ?_⟩⟩
  obtain rfl : k = n := by omega
  rw [ck_congr hi] at hc
  subst hc
  refine ⟨fun hne => ?_, fun he => ?_⟩
  · have e : nwE b k = 2 := by unfold nwE; rw [if_neg hne]
    have e' : nwN b k = 0 := by unfold nwN; rw [e]; rfl
    rw [e, e']
    exact ⟨rfl, fun i g _ _ _ => by omega, rfl, rfl, trivial⟩
  · have e : nwE b k = 0 := by unfold nwE; rw [if_pos (Classical.not_not.1 he)]
    have e' : nwN b k = k := by unfold nwN; rw [e]; rfl
    rw [e, e']
    exact ⟨rfl, hi, rfl, rfl, trivial⟩
theorem vc13 : VC13 := by
  intro a n r rate t go _ h0
  refine ⟨trivial, fun c hc _ => ?_⟩
  subst hc
  refine ⟨fun hne => ?_, fun he => ?_⟩
  · obtain ⟨e1, e2, e3⟩ := rp_e8 (rate := rate) (t := t) (go := go) hne
    rw [e1, e2, e3]
    exact ⟨rfl, fun i g _ _ _ => by omega, rfl, by have := ck_01 a n r; omega, trivial⟩
  · have hc : ckA a n r = 0 := Classical.not_not.1 he
    obtain ⟨n1, n2, _, _, hr⟩ := ck_ok.1 hc
    refine ⟨by omega, fun _ => ⟨trivial, fun b1 e1 => ⟨fun _ => trivial, fun b2 e2 => ⟨fun _ => trivial, fun b3 e3 => ?_⟩⟩⟩⟩
    subst e1 e2 e3
    simp only [decide_eq_true_eq]
    refine ⟨fun h => ?_, fun h => ⟨by omega, fun a' n' ea en _ _ => ?_⟩⟩
    · obtain ⟨e1, e2, e3⟩ := rp_e2 (rate := rate) (t := t) (go := go) hc (by omega)
      rw [e1, e2, e3]
      exact ⟨rfl, fun i g _ _ _ => by omega, rfl, rfl, trivial⟩
    · subst ea en
      have hok := okZ_iff.1 (hr rate (by omega) (by omega))
      refine ⟨by omega, fun _ => ⟨by omega, fun _ => ⟨by omega, fun _ => ⟨fun hf => ?_, fun hf => ⟨by omega, fun _ => ?_⟩⟩⟩⟩⟩
      · obtain ⟨e1, e2, e3⟩ := rp_e22 (rate := rate) (t := t) (go := go) hc (by omega) (by omega)
        rw [e1, e2, e3]
        exact ⟨rfl, fun i g _ _ _ => by omega, rfl, rfl, trivial⟩
      · obtain ⟨e1, e2, e3⟩ := rp_e0 (rate := rate) (t := t) (go := go) hc (by omega) (by omega)
        rw [e1, e2, e3]
        exact ⟨rfl, fun i g _ _ _ => rp_set i g, rfl, rfl, trivial⟩
theorem vc14 : VC14 := by
  intro a n r rate t go _ h0
  refine ⟨trivial, fun c hc _ => ?_⟩
  subst hc
  refine ⟨fun hne => ?_, fun he => ?_⟩
  · obtain ⟨e1, e2, e3⟩ := rp_e8 (rate := rate) (t := t) (go := go) hne
    rw [e1, e2, e3]
    exact ⟨rfl, fun i g _ _ _ => by omega, rfl, rfl, trivial⟩
  · have hc : ckA a n r = 0 := Classical.not_not.1 he
    obtain ⟨n1, n2, _, _, hr⟩ := ck_ok.1 hc
    refine ⟨fun _ => trivial, fun b2 e2 => ⟨fun _ => trivial, fun b3 e3 => ?_⟩⟩
    subst e2 e3
    simp only [decide_eq_true_eq]
    refine ⟨fun h => ?_, fun h => ⟨by omega, fun _ => ⟨by omega, fun _ => ?_⟩⟩⟩
    · obtain ⟨e1, e2, e3⟩ := rp_e2 (rate := rate) (t := t) (go := go) hc (by omega)
      rw [e1, e2, e3]
      exact ⟨rfl, fun i g _ _ _ => by omega, rfl, rfl, trivial⟩
    · have hok := okZ_iff.1 (hr rate (by omega) (by omega))
      refine ⟨by omega, fun _ => ⟨fun hf => ?_, fun hf => ⟨by omega, fun a' n' r' ea en er _ => ?_⟩⟩⟩
      · obtain ⟨e1, e2, e3⟩ := rp_e22 (rate := rate) (t := t) (go := go) hc (by omega) (by omega)
        rw [e1, e2, e3]
        exact ⟨rfl, fun i g _ _ _ => by omega, rfl, rfl, trivial⟩
      · subst ea en er
        obtain ⟨e1, e2, e3⟩ := rp_e0 (rate := rate) (t := t) (go := go) hc (by omega) (by omega)
        rw [e1, e2, e3]
        exact ⟨by omega, fun _ => ⟨by omega, fun _ _ => ⟨by omega, fun _ => ⟨rfl, fun i g _ _ _ => rp_set i g, rfl, rfl, trivial⟩⟩⟩⟩
theorem p_bd {tr go : Int} (h0 : 0 < tr) (h1 : 0 ≤ go) (h2 : go ≤ tr) (h3 : tr ≤ 10000) : 0 ≤ Int.tdiv (1000 * go) tr ∧ Int.tdiv (1000 * go) tr ≤ 1000 := by
  obtain ⟨a1, a2, a3, a4⟩ := tdiv_bd (a := 1000 * go) (b := tr) h0 (by omega)
  refine ⟨a1, ?_⟩
  apply Classical.byContradiction
  intro h
  have : 1001 * tr ≤ Int.tdiv (1000 * go) tr * tr := Int.mul_le_mul_of_nonneg_right (by omega) (by omega)
  omega
theorem vc30 : VC30 := by
  intro air tr go ch kn hok
  have hok := okZ_iff.1 hok
  refine ⟨fun h => ⟨rfl, h, by omega, by unfold rdC; rw [if_pos h], by unfold rdK; simp [h], trivial⟩, fun h => ⟨by omega, fun _ => ?_⟩⟩
  have hb := p_bd (tr := tr) (go := go) (by omega) (by omega) (by omega) (by omega)
  refine ⟨by omega, fun _ => ⟨fun hk => ⟨by omega, fun _ => ⟨by omega, fun _ => ?_⟩⟩, fun hk => ?_⟩⟩
  · have hd := tdiv_bd (a := 3 * ch + Int.tdiv (1000 * go) tr) (b := 4) (by omega) (by omega)
    exact ⟨by omega, fun _ => ⟨rfl, rfl, rfl, by unfold rdC; rw [if_neg h, if_pos hk], by unfold rdK; simp [h], trivial⟩⟩
  · exact ⟨rfl, rfl, rfl, by unfold rdC; rw [if_neg h, if_neg hk], by unfold rdK; simp [h], trivial⟩
theorem vc15 : VC15 := by
  intro a n r _ h0
  refine ⟨trivial, fun c hc _ => ?_⟩
  subst hc
  refine ⟨fun hne => ?_, fun he => ?_⟩
  · obtain ⟨e1, e2, e3⟩ := rd_e8 hne
    rw [e1, e2, e3]
    exact ⟨rfl, fun i g _ _ _ => by omega, rfl, by have := ck_01 a n r; omega, trivial⟩
  · have hc : ckA a n r = 0 := Classical.not_not.1 he
    obtain ⟨n1, n2, r1, r2, hr⟩ := ck_ok.1 hc
    refine ⟨fun h => ?_, fun h => ⟨by omega, fun _ => ?_⟩⟩
    · obtain ⟨e1, e2, e3⟩ := rd_e22 hc (by omega)
      rw [e1, e2, e3]
      exact ⟨rfl, fun i g _ _ _ => by omega, rfl, rfl, trivial⟩
    · refine ⟨fun x k i => 0 ≤ i ∧ i ≤ n ∧ k = i ∧ ∀ (j : Int) (g : Nat), 0 ≤ j → j < k → g < 5 → x j g = rdP a j g, fun _ _ i => (n - i).toNat, ⟨by omega, by omega, rfl, fun j _ _ _ _ => by omega⟩, ?_⟩
      rintro x k i ⟨i0, i1, rfl, hi⟩ _ _
      refine ⟨fun hlt => ⟨i0, fun _ => ⟨hr k i0 hlt, fun w0 w1 w2 w3 w4 e0 e1 e2 e3 e4 => ⟨by omega, fun _ => ⟨by omega, fun _ _ => ⟨by omega, fun _ => ⟨⟨by omega, by omega, rfl, app5 hi ?_ ?_ ?_ ?_ ?_⟩, by first | omega | (dsimp only; omega)⟩⟩⟩⟩⟩⟩, fun hge => ?_⟩
      · rw [e0]; rfl
      · rw [e1]; rfl
      · rw [e2]; rfl
      · rw [e3]; rfl
      · rw [e4]; rfl
      · obtain ⟨e1, e2, e3⟩ := rd_e0 hc (by omega)
        rw [e1, e2, e3]
        exact ⟨by omega, fun j g j0 j1 hg => hi j g j0 (by omega) hg, rfl, rfl, trivial⟩
theorem set5 {a b : Int → Nat → Int} {n : Int} {e0 e1 e2 e3 e4 : Int} (hlo : ∀ (i : Int) (g : Nat), 0 ≤ i → i < n → g < 5 → a i g = b i g) (h0 : b n 0 = e0) (h1 : b n 1 = e1) (h2 : b n 2 = e2) (h3 : b n 3 = e3) (h4 : b n 4 = e4) :
    ∀ (i : Int) (g : Nat), 0 ≤ i → i < n + 1 → g < 5 → setA (setA (setA (setA (setA a n 0 e0) n 1 e1) n 2 e2) n 3 e3) n 4 e4 i g = b i g := by
  intro i g i0 i1 hg
  by_cases hi : i < n
  · have : i ≠ n := by omega
    simp only [setA, this, false_and, if_false]
    exact hlo i g i0 hi hg
  · obtain rfl : i = n := by omega
    rcases five hg with hh | hh | hh | hh | hh <;> subst hh <;> simp [setA, h0, h1, h2, h3, h4]
theorem vc16 : VC16 := by
  intro a n r _ h0
  refine ⟨trivial, fun c hc _ => ?_⟩
  subst hc
  refine ⟨fun hne => ?_, fun he => ?_⟩
  · obtain ⟨e1, e2, e3⟩ := rd_e8 hne
    rw [e1, e2, e3]
    exact ⟨rfl, fun i g _ _ _ => by omega, rfl, rfl, trivial⟩
  · have hc : ckA a n r = 0 := Classical.not_not.1 he
    obtain ⟨n1, n2, r1, r2, hr⟩ := ck_ok.1 hc
    refine ⟨fun h => ?_, fun h => ⟨by omega, fun a' n' r' ea en er _ => ⟨by omega, fun _ => ?_⟩⟩⟩
    · obtain ⟨e1, e2, e3⟩ := rd_e22 hc (by omega)
      rw [e1, e2, e3]
      exact ⟨rfl, fun i g _ _ _ => by omega, rfl, rfl, trivial⟩
    · subst ea en er
      refine ⟨fun x i => 0 ≤ i ∧ i ≤ n' ∧ (∀ (j : Int) (g : Nat), 0 ≤ j → j < i → g < 5 → x j g = rdF a' j g) ∧ ∀ (j : Int) (g : Nat), i ≤ j → x j g = a' j g, fun _ i => (n' - i).toNat, ⟨by omega, by omega, fun j _ _ _ _ => by omega, fun _ _ _ => rfl⟩, ?_⟩
      rintro x i ⟨i0, i1, hi, hx⟩ _
      refine ⟨fun hlt => ⟨i0, fun _ => ?_⟩, fun hge => ?_⟩
      · have hok := okZ_iff.1 (hr i i0 hlt)
        rw [hx i 0 (Int.le_refl _), hx i 1 (Int.le_refl _), hx i 2 (Int.le_refl _), hx i 3 (Int.le_refl _), hx i 4 (Int.le_refl _)]
        have hup : ∀ e0 e1 e2 e3 e4 (j : Int) (g : Nat), i + 1 ≤ j → setA (setA (setA (setA (setA x i 0 e0) i 1 e1) i 2 e2) i 3 e3) i 4 e4 j g = a' j g := fun e0 e1 e2 e3 e4 j g hj => by
          have : j ≠ i := by omega
          simp only [setA, this, false_and, if_false]
          exact hx j g (by omega)
        refine ⟨fun hz => ⟨by omega, fun _ => ⟨⟨by omega, by omega, fun j g j0 j1 hg => ?_, fun j g hj => hx j g (by omega)⟩, by first | omega | (dsimp only; omega)⟩⟩, fun hz => ⟨by omega, fun _ => ?_⟩⟩
        · by_cases hj : j < i
          · exact hi j g j0 hj hg
          · obtain rfl : j = i := by omega
            rw [hx j g (Int.le_refl _)]
            unfold rdF
            rw [if_pos hz]
        · have hb := p_bd (tr := a' i 1) (go := a' i 2) (by omega) (by omega) (by omega) (by omega)
          have f0 : rdF a' i 0 = a' i 0 := by unfold rdF; rw [if_neg hz]; rfl
          have f1 : rdF a' i 1 = 0 := by unfold rdF; rw [if_neg hz]; rfl
          have f2 : rdF a' i 2 = 0 := by unfold rdF; rw [if_neg hz]; rfl
          have f3 : rdF a' i 3 = rdC (a' i 1) (a' i 2) (a' i 3) (knB a' i) := by unfold rdF; rw [if_neg hz]; rfl
          have f4 : rdF a' i 4 = 1 := by unfold rdF; rw [if_neg hz]; simp [rdP, rdK, hz]
          refine ⟨by omega, fun _ => ⟨fun hk => ⟨by omega, fun _ => ⟨by omega, fun _ => ⟨by omega, fun _ => ?_⟩⟩⟩, fun hk => ⟨by omega, fun _ => ⟨⟨by omega, by omega, set5 hi f0 f1 f2 ?_ f4, hup _ _ _ _ _⟩, by first | omega | (dsimp only; omega)⟩⟩⟩⟩
          · have hd := tdiv_bd (a := a' i 3 + a' i 3 + a' i 3 + Int.tdiv (1000 * a' i 2) (a' i 1)) (b := 4) (by omega) (by omega)
            refine ⟨by omega, fun _ => ⟨by omega, fun _ => ⟨⟨by omega, by omega, set5 hi f0 f1 f2 ?_ f4, hup _ _ _ _ _⟩, by first | omega | (dsimp only; omega)⟩⟩⟩
            rw [f3]
            unfold rdC
            rw [if_neg hz, if_pos (by unfold knB; simp [hk])]
            congr 1; omega
          · rw [f3]
            unfold rdC
            rw [if_neg hz, if_neg (by unfold knB; simp [Classical.not_not.1 hk])]
      · obtain ⟨e1, e2, e3⟩ := rd_e0 hc (by omega)
        rw [e1, e2, e3]
        exact ⟨rfl, fun j g j0 j1 hg => hi j g j0 (by omega) hg, rfl, rfl, trivial⟩
theorem vc17 : VC17 := by
  intro a n r b m q _ h0 h1 _ _
  refine ⟨fun hne => ⟨⟨False.elim, fun h => ?_⟩, trivial⟩, fun heq => ?_⟩
  · obtain ⟨⟨h1, h2⟩, _⟩ := sm_iff.1 h
    omega
  refine ⟨fun i => 0 ≤ i ∧ i ≤ n ∧ ∀ j : Int, 0 ≤ j → j < i → smR a b j = true, fun i => (n - i).toNat, ⟨by omega, by omega, fun j _ _ => by omega⟩, ?_⟩
  intro i ⟨i0, i1, hi⟩
  refine ⟨fun hlt => ⟨i0, fun _ => ⟨by omega, fun _ => ⟨fun hd => ⟨⟨False.elim, fun h => hd ?_⟩, trivial⟩, fun hs => ⟨by omega, fun _ => ⟨⟨by omega, by omega, fun j j0 j1 => ?_⟩, by first | omega | (dsimp only; omega)⟩⟩⟩⟩⟩, fun hge => ⟨⟨fun _ => sm_iff.2 ⟨by omega, fun j j0 j1 => hi j j0 (by omega)⟩, fun _ => trivial⟩, trivial⟩⟩
  · have := smR_iff.1 ((sm_iff.1 h).2 i i0 hlt)
    omega
  · by_cases hj : j = i
    · subst hj
      refine smR_iff.2 ?_
      have hs := Classical.not_not.1 hs
      omega
    · exact hi j j0 (by omega)
theorem vc3 : VC3 := by
  intro a n r b m rate t go _ h0 h1 _ _
  refine ⟨fun _ => ⟨⟨fun _ => rfl, fun _ => trivial⟩, trivial⟩, fun hn => ⟨by omega, fun a1 n1 r1 ea en er _ => ⟨by omega, fun _ _ _ _ x1 x2 x3 x4 _ _ => ⟨by omega, fun _ _ _ _ y1 y2 y3 y4 _ _ => ⟨trivial, fun _ _ _ _ z1 z2 z3 z4 _ _ => ⟨trivial, fun _ _ _ _ u1 u2 u3 u4 _ _ => ⟨trivial, fun _ _ _ _ w1 w2 w3 w4 _ _ => ⟨trivial, fun _ _ _ _ s1 s2 s3 s4 _ _ => ⟨trivial, fun c1 g1 _ => ⟨fun _ => trivial, fun c2 g2 => ⟨fun _ => trivial, fun c3 g3 => ?_⟩⟩⟩⟩⟩⟩⟩⟩⟩⟩⟩
  subst ea en er x1 x2 x3 x4 y1 y2 y3 y4 z1 z2 z3 z4 u1 u2 u3 u4 w1 w2 w3 w4 s1 s2 s3 s4
  rw [sm_self] at g1 g2
  rw [sm_round] at g3
  refine ⟨fun _ i => 0 ≤ i, fun _ i => (rpN a1 n1 r1 rate t go - i).toNat, Int.le_refl _, ?_⟩
  intro x i i0
  refine ⟨fun hlt => ⟨i0, fun _ => ⟨by rename_i h _ _ _ _ _ _ _ _ _ _ _; omega, fun _ => ⟨by omega, by first | omega | (dsimp only; omega)⟩⟩⟩, fun hge => ?_⟩
  refine ⟨fun _ i => 0 ≤ i, fun _ i => (rdN a1 n1 r1 - i).toNat, Int.le_refl _, ?_⟩
  intro x2 i2 i20
  refine ⟨fun hlt => ⟨i20, fun _ => ⟨by omega, fun _ => ⟨by omega, by first | omega | (dsimp only; omega)⟩⟩⟩, fun hge => ⟨fun _ => trivial, fun c4 g4 => ⟨⟨fun _ => rfl, fun _ => ?_⟩, trivial⟩⟩⟩
  rw [sm_self] at g4
  exact ⟨⟨⟨⟨⟨⟨g1, rfl⟩, g2⟩, rfl⟩, g3⟩, rfl⟩, g4⟩
end Go.Proofs.Ytakkebjoeceplaa
