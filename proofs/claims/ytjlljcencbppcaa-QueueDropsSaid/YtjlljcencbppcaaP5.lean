/- A managed queue: what is left to show of the law of drops. -/
import Derived.Test.YtjlljcencbppcaaP4
namespace Go.Proofs.Ytjlljcencbppcaa
open Go Go.RowKit Go.Proofs.Ytjlljcencbppcaa.Vc
structure srtP (T : Int → Nat → Int) (nt now : Int) : Prop where
  up : ∀ x y : Int, 0 ≤ x → x ≤ y → y < nt → T x 0 ≤ T y 0
  le : ∀ x : Int, 0 ≤ x → x < nt → T x 0 ≤ now
def winP (T V : Int → Nat → Int) (nt u : Int) : Prop := u = 0 ∨ ∃ s : Int, 0 ≤ s ∧ s < nt ∧ T s 0 + 100000 ≤ u ∧ ∀ x : Int, s ≤ x → x < nt → 5000 ≤ V x 0
theorem app_lo {g : Int → Nat → Int} {n j e : Int} (h : j < n) : appA g n (setA zA 0 0 e) j 0 = g j 0 := by unfold appA; rw [if_pos h]
theorem app_hi {g : Int → Nat → Int} {n e : Int} : appA g n (setA zA 0 0 e) n 0 = e := by
  unfold appA; rw [if_neg (by omega), show n - n = 0 by omega]; simp [setA]
theorem srt_mono {T : Int → Nat → Int} {nt now now' : Int} (h : srtP T nt now) (h1 : now ≤ now') : srtP T nt now' := ⟨h.up, fun x x0 x1 => Int.le_trans (h.le x x0 x1) h1⟩
theorem srt_app {T : Int → Nat → Int} {nt now now' : Int} (h : srtP T nt now) (h1 : now ≤ now') : srtP (appA T nt (setA zA 0 0 now')) (nt + 1) now' := by
  refine ⟨fun x y x0 x1 y1 => ?_, fun x x0 x1 => ?_⟩
  · by_cases hy : y < nt
    · rw [app_lo hy, app_lo (by omega)]; exact h.up x y x0 x1 hy
    · obtain rfl : y = nt := by omega
      rw [app_hi]
      by_cases hx : x < y
      · rw [app_lo hx]; exact Int.le_trans (h.le x x0 hx) h1
      · obtain rfl : x = y := by omega
        rw [app_hi]; exact Int.le_refl _
  · by_cases hx : x < nt
    · rw [app_lo hx]; exact Int.le_trans (h.le x x0 hx) h1
    · obtain rfl : x = nt := by omega
      rw [app_hi]; exact Int.le_refl _
theorem win_keep {T V : Int → Nat → Int} {nt u u' now' wt : Int} (h : winP T V nt u) (hu : u ≠ 0) (hu' : u ≤ u') (hw : 5000 ≤ wt) (hn : 0 ≤ nt) : winP (appA T nt (setA zA 0 0 now')) (appA V nt (setA zA 0 0 wt)) (nt + 1) u' := by
  rcases h with h | ⟨s, s0, s1, s2, s3⟩
  · exact absurd h hu
  · refine .inr ⟨s, s0, by omega, by rw [app_lo s1]; omega, fun x x0 x1 => ?_⟩
    by_cases hx : x < nt
    · rw [app_lo hx]; exact s3 x x0 hx
    · obtain rfl : x = nt := by omega
      rw [app_hi]; exact hw
theorem win_take {a T V : Int → Nat → Int} {n u k nt now' wt : Int} (h : winP T V nt u) (hn : 0 ≤ nt) (hn0 : 0 ≤ n) (has : asE a n u k now' = 0) (hw : 0 < n → wt = now' - a 0 2) :
    winP (appA T nt (setA zA 0 0 now')) (appA V nt (setA zA 0 0 wt)) (nt + 1) (tkU a n u k now') := by
  rcases Classical.em (n = 0) with h0 | h0
  · exact .inl (tk_e (a := a) (u := u) (k := k) (now := now') (.inr h0)).2.2.2.1
  have hw := hw (by omega)
  rcases Classical.em (now' - a 0 2 < 5000) with h4 | h4
  · exact .inl (tk_calm has (by omega) h4).2.2.2.1
  rcases Classical.em (u = 0) with h5 | h5
  · rw [(tk_first has (by omega) (by omega) h5).2.2.2.1]
    refine .inr ⟨nt, hn, by omega, by rw [app_hi]; omega, fun x x0 x1 => ?_⟩
    obtain rfl : x = nt := by omega
    rw [app_hi]; omega
  rcases Classical.em (now' < u) with h6 | h6
  · rw [(tk_wait has (by omega) (by omega) h5 h6).2.2.2.1]
    exact win_keep h h5 (by omega) (by omega) hn
  rcases Classical.em (n = 1) with h7 | h7
  · exact .inl (tk_last has h7 (by omega) h5 (by omega)).2.2.2.1
  · rw [(tk_drop has (by omega) (by omega) h5 (by omega)).2.2.2.1]
    have hk := (ck_ok (as_ck has).1).2.2.2.1
    have hb := @tdiv_100 (min (k + 1) 256 + 1) (by omega)
    exact win_keep h h5 (by omega) (by omega) hn
theorem drop_chk {a T V : Int → Nat → Int} {n u k nt now' now : Int} (h : winP T V nt u) (hs : srtP T nt now) (hd : 0 < tkD a n u k now') :
    5000 ≤ now' - a 0 2 ∧ ∃ s : Int, 0 ≤ s ∧ s < nt ∧ T s 0 ≤ now' - 100000 ∧ ∀ x : Int, 0 ≤ x → x < nt → now' - 100000 < T x 0 → 5000 ≤ V x 0 := by
  unfold tkD at hd
  split at hd
  · rename_i hc
    refine ⟨hc.2.2.1, ?_⟩
    rcases h with h | ⟨s, s0, s1, s2, s3⟩
    · exact absurd h hc.2.2.2.1
    · refine ⟨s, s0, s1, by omega, fun x x0 x1 hx => s3 x ?_ x1⟩
      apply Classical.byContradiction
      intro hc2
      have := hs.up x s x0 (by omega) s1
      omega
  · omega
set_option maxHeartbeats 4000000 in
theorem vc4 : VC4 := by
  intro v m hrg hm0
  refine ⟨trivial, fun b hb hm1 => ⟨fun _ => ⟨by grind, trivial⟩, fun hsz => ?_⟩⟩
  subst hb
  refine ⟨fun a n u k now p np g ng T nt V nv i => 0 ≤ i ∧ i ≤ m ∧ 0 ≤ ng ∧ 0 ≤ n ∧ np = ng + n ∧ np ≤ i ∧ ckQ a n u k = 0 ∧ 0 ≤ now ∧ ltQ a n ≤ now ∧ now ≤ 30000 * i ∧ nv = nt ∧ 0 ≤ nt ∧ nt ≤ i ∧ srtP T nt now ∧ winP T V nt u, fun _ _ _ _ _ _ _ _ _ _ _ _ _ i => (m - i).toNat,
    ⟨by omega, by omega, by omega, by omega, by omega, by omega, rfl, by omega, Int.le_refl _, by omega, rfl, by omega, by omega, ⟨fun x y _ _ _ => by omega, fun x _ _ => by omega⟩, .inl rfl⟩, ?_⟩
  rintro a n u k now p np g ng T nt V nv i ⟨i0, i1, g0, n0, hnp, hni, hck, w0, hlt, w1, hnv, nt0, nti, hsr, hwi⟩ c1 c2 c3 c4 c5 c6 c7 c8 c9 c10
  subst hnv
  refine ⟨fun him => ⟨i0, fun _ => ?_⟩, fun hge => ?_⟩
  · have hx := hrg i i0 him
    have hw := wrap_neg hx.1 hx.2
    rw [hw]
    generalize hN : max (v i 0) (-v i 0 - 1) = N
    have hN0 : 0 ≤ N := by omega
    have hN1 : N ≤ 9223372036854775807 := by omega
    have hb := @md_bd N 2000 hN0 (by omega)
    generalize Int.tmod N 2000 = by_ at *
    have hd1 := @dv_bd N hN0
    have hd2 := @md_bd (Int.tdiv N 2) 30000 hd1.1 (by omega)
    generalize Int.tdiv N 2 = N2 at *
    generalize Int.tmod N2 30000 = d at *
    have hp := @md_bd N 2 hN0 (by omega)
    generalize Int.tmod N 2 = par at *
    have has : asE a n u k (now + d) = 0 := as_of hck (by omega) (by omega) (by omega)
    have hpu := @pu_st a n u k by_ (now + d) has hb.1 (by omega)
    have hpc := fun h => @ck_put a n u k np by_ (now + d) n0 has h hb.1 (by omega)
    obtain ⟨t1, t2, t3, t4, t5, t6⟩ := @ck_take a n u k (now + d) n0 has
    have hn256 := (ck_ok hck).1
    have hrow := fun h => @as_row a n u k (now + d) has 0 (by omega) h
    have hs0 := srt_mono (now' := now + d) hsr (by omega)
    have hs1 := srt_app (now' := now + d) hsr (by omega)
    have hw1 := @win_take a T V n u k nv (now + d) (now + d - a 0 2) hwi nt0 n0 has (fun _ => rfl)
    have hw2 := fun hn : ¬ 0 < n => @win_take a T V n u k nv (now + d) (-1) hwi nt0 n0 has (fun h => absurd h hn)
    have hchk := @drop_chk a T V n u k nv (now + d) now hwi hsr
    have hpq : n ≠ 256 → ckQ (puA a n np by_ (now + d)) (n + 1) u k = 0 ∧ ltQ (puA a n np by_ (now + d)) (n + 1) = now + d := fun h => ⟨(hpc (by omega)).1, (hpc (by omega)).2.1⟩
    clear hpc
    generalize asE a n u k (now + d) = aE at *
    generalize hV : puA a n np by_ (now + d) = A at *
    generalize puN a n u k by_ (now + d) = pN at *
    generalize puU a n u k by_ (now + d) = pU at *
    generalize puK a n u k by_ (now + d) = pK at *
    generalize puE a n u k by_ (now + d) = pE at *
    generalize tkN a n u k (now + d) = tN at *
    generalize tkU a n u k (now + d) = tU at *
    generalize tkK a n u k (now + d) = tK at *
    generalize tkD a n u k (now + d) = tD at *
    generalize tkG a n u k (now + d) = tG at *
    generalize tkI a n u k (now + d) 0 = tI at *
    have tU1 := ck_ok t1
    repeat' (first | exact True.intro | apply And.intro | intro _)
    all_goals (try (clear hrg hchk; subst_vars; grind))
    all_goals
      refine ⟨fun G q j => 0 ≤ j ∧ j ≤ tD ∧ q = ng + j, fun _ _ j => (tD - j).toNat, ⟨by omega, by omega, by omega⟩, ?_⟩
      rintro G q j ⟨j0, j1, hq⟩
      repeat' (first | exact True.intro | apply And.intro | intro _)
      all_goals (try (clear hrg hchk; subst_vars; grind))
      all_goals (try (have hck2 := fun h => (hchk h).1; clear hrg hchk; subst_vars; grind))
      all_goals
        obtain ⟨hc1, s, s0, s1, s2, s3⟩ := hchk (by omega)
        refine ⟨fun old x => 0 ≤ x ∧ x ≤ nv ∧ (s < x → old = true), fun _ x => (nv - x).toNat, ⟨by omega, by omega, by omega⟩, ?_⟩
        rintro old x ⟨x0, x1, hx⟩
        have s3x := s3 x
        have hsx : x = s ∨ x < s ∨ s < x := by omega
        clear s3 hchk hrg
        repeat' (first | exact True.intro | apply And.intro | intro _)
        all_goals (try (subst_vars; grind))
  · repeat' (first | exact True.intro | apply And.intro | intro _)
    all_goals (try grind)
end Go.Proofs.Ytjlljcencbppcaa
