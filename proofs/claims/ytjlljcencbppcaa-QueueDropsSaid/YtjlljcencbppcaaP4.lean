/- A managed queue: what is left to show of the law of the order. -/
import Derived.Test.YtjlljcencbppcaaP3
import Derived.Test.YtjlljcencbppcaaR
namespace Go.Proofs.Ytjlljcencbppcaa
open Go Go.RowKit Go.Proofs.Ytjlljcencbppcaa.Vc
theorem md_bd {x m : Int} (h : 0 ≤ x) (hm : 0 < m) : 0 ≤ Int.tmod x m ∧ Int.tmod x m < m := ⟨Int.tmod_nonneg _ h, Int.tmod_lt_of_pos _ hm⟩
theorem dv_bd {x : Int} (h : 0 ≤ x) : 0 ≤ Int.tdiv x 2 ∧ Int.tdiv x 2 ≤ x := by
  rw [Int.tdiv_eq_ediv_of_nonneg h]
  exact ⟨by omega, by omega⟩
theorem pu_st {a : Int → Nat → Int} {n u k by_ now : Int} (h : asE a n u k now = 0) (h0 : 0 ≤ by_) (h1 : by_ ≤ 2304) : (n = 256 → puE a n u k by_ now = 22) ∧ (n ≠ 256 → puE a n u k by_ now = 0 ∧ puN a n u k by_ now = n + 1 ∧ puU a n u k by_ now = u ∧ puK a n u k by_ now = k) := by
  refine ⟨fun hn => ?_, fun hn => ?_⟩
  · unfold puE; rw [if_neg (by omega), if_pos ⟨h, h0, h1⟩, if_pos hn]
  · have : puE a n u k by_ now = 0 := by unfold puE; rw [if_neg (by omega), if_pos ⟨h, h0, h1⟩, if_neg hn]
    exact ⟨this, by unfold puN; rw [if_pos this], by unfold puU; rw [if_pos this], by unfold puK; rw [if_pos this]⟩
theorem app_one {g : Int → Nat → Int} {ng e : Int} (hg : ∀ j : Int, 0 ≤ j → j < ng → g j 0 = j) (he : e = ng) : ∀ j : Int, 0 ≤ j → j < ng + 1 → appA g ng (setA zA 0 0 e) j 0 = j := by
  intro j j0 j1
  unfold appA
  split
  · exact hg j j0 (by omega)
  · rw [show j - ng = 0 by omega]
    simp [setA]; omega
set_option maxHeartbeats 4000000 in
theorem vc3 : VC3 := by
  intro v m hrg hm0
  refine ⟨trivial, fun b hb hm1 => ⟨fun _ => ⟨by grind, trivial⟩, fun hsz => ?_⟩⟩
  subst hb
  refine ⟨fun a n u k now p np g ng i => 0 ≤ i ∧ i ≤ m ∧ 0 ≤ ng ∧ 0 ≤ n ∧ np = ng + n ∧ np ≤ i ∧ (∀ j : Int, 0 ≤ j → j < n → a j 0 = ng + j) ∧ (∀ j : Int, 0 ≤ j → j < ng → g j 0 = j) ∧ ckQ a n u k = 0 ∧ 0 ≤ now ∧ ltQ a n ≤ now ∧ now ≤ 30000 * i, fun _ _ _ _ _ _ _ _ _ i => (m - i).toNat,
    ⟨by omega, by omega, by omega, by omega, by omega, by omega, fun j _ _ => by omega, fun j _ _ => by omega, rfl, by omega, Int.le_refl _, by omega⟩, ?_⟩
  rintro a n u k now p np g ng i ⟨i0, i1, g0, n0, hnp, hni, hid, hg, hck, w0, hlt, w1⟩ c1 c2 c3 c4 c5 c6
  refine ⟨fun him => ⟨i0, fun _ => ?_⟩, fun hge => ?_⟩
  · have hx := hrg i i0 him
    have hw := wrap_neg hx.1 hx.2
    rw [hw]
    generalize hN : max (v i 0) (-v i 0 - 1) = N
    have hN0 : 0 ≤ N := by omega
    have hN1 : N ≤ 9223372036854775807 := by omega
    have hb := @md_bd N 2000 hN0 (by omega)
    generalize Int.tmod N 2000 = by_ at *
    have hd1 := @dv_bd N hN0
    have hd2 := @md_bd (Int.tdiv N 2) 30000 hd1.1 (by omega)
    generalize Int.tdiv N 2 = N2 at *
    generalize Int.tmod N2 30000 = d at *
    have hp := @md_bd N 2 hN0 (by omega)
    generalize Int.tmod N 2 = par at *
    have has : asE a n u k (now + d) = 0 := as_of hck (by omega) (by omega) (by omega)
    have hpu := @pu_st a n u k by_ (now + d) has hb.1 (by omega)
    have hpc := fun h => @ck_put a n u k np by_ (now + d) n0 has h hb.1 (by omega)
    obtain ⟨t1, t2, t3, t4, t5, t6⟩ := @ck_take a n u k (now + d) n0 has
    have hn256 := (ck_ok hck).1
    have hgn := app_one (e := ng) hg rfl
    have hput : ∀ j : Int, n ≠ 256 → 0 ≤ j → j < n + 1 → puA a n np by_ (now + d) j 0 = ng + j := fun j h j0 j1 => by
      obtain ⟨_, _, q3, q4, _⟩ := hpc (by omega)
      by_cases hj : j < n
      · rw [q3 j j0 hj]; exact hid j j0 hj
      · obtain rfl : j = n := by omega
        rw [q4]; omega
    have hpq : n ≠ 256 → ckQ (puA a n np by_ (now + d)) (n + 1) u k = 0 ∧ ltQ (puA a n np by_ (now + d)) (n + 1) = now + d := fun h => ⟨(hpc (by omega)).1, (hpc (by omega)).2.1⟩
    clear hpc
    generalize asE a n u k (now + d) = aE at *
    generalize hV : puA a n np by_ (now + d) = A at *
    generalize puN a n u k by_ (now + d) = pN at *
    generalize puU a n u k by_ (now + d) = pU at *
    generalize puK a n u k by_ (now + d) = pK at *
    generalize puE a n u k by_ (now + d) = pE at *
    have hsh : ∀ j : Int, 0 ≤ j → j < tkN a n u k (now + d) → shA a (tkD a n u k (now + d) + 1) j 0 = (ng + tkD a n u k (now + d) + tkG a n u k (now + d)) + j := fun j j0 j1 => by
      show a (j + (tkD a n u k (now + d) + 1)) 0 = _
      rw [hid _ (by omega) (by omega)]; omega
    have hti : tkG a n u k (now + d) = 1 → tkI a n u k (now + d) 0 = ng + tkD a n u k (now + d) := fun h => by
      rcases t6 with t6 | t6
      · rw [t6.2.2.2, hid _ (by omega) (by omega)]
      · omega
    generalize tkN a n u k (now + d) = tN at *
    generalize tkU a n u k (now + d) = tU at *
    generalize tkK a n u k (now + d) = tK at *
    generalize tkD a n u k (now + d) = tD at *
    generalize tkG a n u k (now + d) = tG at *
    generalize tkI a n u k (now + d) 0 = tI at *
    have tU1 := ck_ok t1
    refine ⟨?_, ?_⟩
    all_goals
      repeat' (first | exact True.intro | apply And.intro | intro _)
      all_goals (try (clear hid hg hgn hput hsh hrg; subst_vars; grind))
      all_goals (try first | exact hid _ (by assumption) (by assumption) | exact hg _ (by assumption) (by assumption))
      all_goals (try (clear hrg; subst_vars; grind))
      refine ⟨fun G q j => 0 ≤ j ∧ j ≤ tD ∧ q = ng + j ∧ (∀ x : Int, 0 ≤ x → x < q → G x 0 = x), fun _ _ j => (tD - j).toNat, ⟨by omega, by omega, by omega, fun x x0 x1 => hg x x0 (by omega)⟩, ?_⟩
      rintro G q j ⟨j0, j1, hq, hG⟩
      have happ1 := fun h : a j 0 = q => app_one hG h
      have happ2 := fun h : tI = q => app_one hG h
      have hidj := hid j
      repeat' (first | exact True.intro | apply And.intro | intro _)
      all_goals (try (clear hid hg hgn hput hsh hrg happ1 happ2 hG; subst_vars; grind))
      all_goals (try (clear hid hg hgn hput hrg happ1 happ2 hG; subst_vars; first | exact hsh _ (by assumption) (by assumption) | grind))
      all_goals (try (clear hid hg hgn hput hrg hsh; subst_vars; grind))
      all_goals (try (clear hid hg hgn hput hrg; subst_vars; grind))
  · repeat' (first | exact True.intro | apply And.intro | intro _)
    all_goals (try grind)
    refine ⟨fun j => 0 ≤ j ∧ j ≤ np, fun j => (np - j).toNat, by omega, ?_⟩
    intro j hj
    have f1 := hg j
    have f2 := hid (j - ng)
    clear hrg hg hid
    (repeat' (first | exact True.intro | apply And.intro | intro _)) <;> (try (subst_vars; grind []))
end Go.Proofs.Ytjlljcencbppcaa
