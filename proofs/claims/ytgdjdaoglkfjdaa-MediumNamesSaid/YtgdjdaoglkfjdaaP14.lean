/- The chapter's names: what is left to show. -/
import Derived.Test.YtgdjdaoglkfjdaaE5
import Derived.Test.YtgdjdaoglkfjdaaC11
import Derived.Test.YtgdjdaoglkfjdaaP8
namespace Go.Proofs.Ytgdjdaoglkfjdaa
open Go Go.RowKit Go.Proofs.Ytgdjdaoglkfjdaa.Vc
def bT : Int → Nat → Int := setA (setA (setA (setA (setA (setA (setA (setA (setA (setA (setA (setA zA 0 0 0) 0 1 5) 0 2 10) 0 3 0) 1 0 1) 1 1 14) 1 2 20) 1 3 0) 2 0 0) 2 1 10) 2 2 11) 2 3 0
def bR : Int → Nat → Int := setA (setA (setA (setA zA 0 0 0) 0 1 0) 0 2 100) 0 3 0
theorem loss_20000 : loss 20000 = 1255 := by
  have h : halvings 160000000000000000 = 57 := hvs (by decide) (hvs (by decide) (hvs (by decide) (hvs (by decide) (hvs (by decide) (hvs (by decide) (hvs (by decide) (hvs (by decide) (hvs (by decide) (hvs (by decide) (hvs (by decide) (hvs (by decide) (hvs (by decide) (hvs (by decide) (hvs (by decide) (hvs (by decide) (hvs (by decide) (hvs (by decide) (hvs (by decide) (hvs (by decide) (hvs (by decide) (hvs (by decide) (hvs (by decide) (hvs (by decide) (hvs (by decide) (hvs (by decide) (hvs (by decide) (hvs (by decide) (hvs (by decide) (hvs (by decide) (hvs (by decide) (hvs (by decide) (hvs (by decide) (hvs (by decide) (hvs (by decide) (hvs (by decide) (hvs (by decide) (hvs (by decide) (hvs (by decide) (hvs (by decide) (hvs (by decide) (hvs (by decide) (hvs (by decide) (hvs (by decide) (hvs (by decide) (hvs (by decide) (hvs (by decide) (hvs (by decide) (hvs (by decide) (hvs (by decide) (hvs (by decide) (hvs (by decide) (hvs (by decide) (hvs (by decide) (hvs (by decide) (hvs (by decide) (hvs (by decide) (hv0 (by decide))))))))))))))))))))))))))))))))))))))))))))))))))))))))))
  show 400 + 15 * (halvings 160000000000000000 : Int) = 1255
  rw [h]; rfl
theorem ro_lv : lvA roA zF 0 0 2 = -955 := by
  have e : lvA roA zF 0 0 2 = roA 0 2 - (loss (dsW roA 0 2) + (if (0 : Int) < 0 then zF 0 2 0 else 0)) := rfl
  have e2 : dsW roA 0 2 = dist (-10000) 0 10000 0 := rfl
  rw [ds_of (x := -10000) (y := 10000) (s := 20000) (by decide) (by omega) (by decide) (by omega)] at e2
  rw [e, e2, loss_20000]; rfl
theorem vc33 : VC33 := by
  intro _
  exact ⟨rfl, fun i f _ _ _ => rfl, rfl, fun i h0 h1 => by omega, trivial⟩
theorem m_ok : mcE neA 3 zL zF 0 bT 3 = 0 := by decide
theorem m_row : mcE roA 3 zL zF 0 bR 1 = 0 := by decide
theorem sn_2 : ∀ i : Int, 0 ≤ i → i < 3 → snP neA zF 0 bT 2 i = true := fun i i0 i1 => by
  have hi : i = 0 ∨ i = 1 ∨ i = 2 := by omega
  unfold snP
  rcases hi with rfl | rfl | rfl
  · rw [show bT 0 0 = 0 from rfl, hr_of (i := 0) (j := 2) (by omega) rfl lv02 (by omega)]; rfl
  · rw [show bT 1 0 = 1 from rfl, hr_of (i := 1) (j := 2) (by omega) rfl lv12 (by omega)]; rfl
  · rw [show bT 2 0 = 0 from rfl, hr_of (i := 0) (j := 2) (by omega) rfl lv02 (by omega)]; rfl
theorem sn_0 : ∀ i : Int, 0 ≤ i → i < 3 → snP neA zF 0 bT 0 i = true := fun i i0 i1 => by
  have hi : i = 0 ∨ i = 1 ∨ i = 2 := by omega
  unfold snP
  rcases hi with rfl | rfl | rfl
  · rw [show bT 0 0 = 0 from rfl]; simp
  · rw [show bT 1 0 = 1 from rfl, hr_of (i := 1) (j := 0) (by omega) rfl lv10 (by omega)]; rfl
  · rw [show bT 2 0 = 0 from rfl]; simp
theorem bzn_iff {j x y : Int} (h : ∀ i : Int, 0 ≤ i → i < 3 → snP neA zF 0 bT j i = true) : bzB neA zF 0 bT 3 j x y = true ↔ (5 < y ∧ x < 10) ∨ (14 < y ∧ x < 20) ∨ (10 < y ∧ x < 11) := by
  have e : bzB neA zF 0 bT 3 j x y = !(allI (bzN neA zF 0 bT j x y) 3) := rfl
  have q0 : bzN neA zF 0 bT j x y 0 = !(decide (5 < y) && decide (x < 10)) := by unfold bzN; rw [h 0 (by omega) (by omega)]; rfl
  have q1 : bzN neA zF 0 bT j x y 1 = !(decide (14 < y) && decide (x < 20)) := by unfold bzN; rw [h 1 (by omega) (by omega)]; rfl
  have q2 : bzN neA zF 0 bT j x y 2 = !(decide (10 < y) && decide (x < 11)) := by unfold bzN; rw [h 2 (by omega) (by omega)]; rfl
  constructor
  · intro hb
    apply Classical.byContradiction
    intro hn
    have ha : allI (bzN neA zF 0 bT j x y) 3 = true := allI_of fun i i0 i1 => by
      have hi : i = 0 ∨ i = 1 ∨ i = 2 := by omega
      rcases hi with rfl | rfl | rfl
      · rw [q0, Bool.not_eq_true', ← Bool.not_eq_true, Bool.and_eq_true, decide_eq_true_eq, decide_eq_true_eq]; omega
      · rw [q1, Bool.not_eq_true', ← Bool.not_eq_true, Bool.and_eq_true, decide_eq_true_eq, decide_eq_true_eq]; omega
      · rw [q2, Bool.not_eq_true', ← Bool.not_eq_true, Bool.and_eq_true, decide_eq_true_eq, decide_eq_true_eq]; omega
    rw [e, ha] at hb
    cases hb
  · intro hb
    rw [e]
    cases ha : allI (bzN neA zF 0 bT j x y) 3 with
    | false => rfl
    | true =>
      have a0 := allI_at ha (i := 0) (by omega) (by omega)
      have a1 := allI_at ha (i := 1) (by omega) (by omega)
      have a2 := allI_at ha (i := 2) (by omega) (by omega)
      rw [q0, Bool.not_eq_true', ← Bool.not_eq_true, Bool.and_eq_true, decide_eq_true_eq, decide_eq_true_eq] at a0
      rw [q1, Bool.not_eq_true', ← Bool.not_eq_true, Bool.and_eq_true, decide_eq_true_eq, decide_eq_true_eq] at a1
      rw [q2, Bool.not_eq_true', ← Bool.not_eq_true, Bool.and_eq_true, decide_eq_true_eq, decide_eq_true_eq] at a2
      omega
theorem bzn_no {j x y : Int} (h : ∀ i : Int, 0 ≤ i → i < 3 → snP neA zF 0 bT j i = true) (hn : ¬ ((5 < y ∧ x < 10) ∨ (14 < y ∧ x < 20) ∨ (10 < y ∧ x < 11))) : bzB neA zF 0 bT 3 j x y = false := by
  cases hb : bzB neA zF 0 bT 3 j x y with
  | false => rfl
  | true => exact absurd ((bzn_iff h).1 hb) hn
theorem id_at {j x s t : Int} (h : ∀ i : Int, 0 ≤ i → i < 3 → snP neA zF 0 bT j i = true) (hm : maE neA 3 zL zF 0 bT 3 j x s = 0) (hs : ¬ s = 0) (h0 : x ≤ t) (h1 : ¬ ((5 < t ∧ t - s < 10) ∨ (14 < t ∧ t - s < 20) ∨ (10 < t ∧ t - s < 11))) (h2 : ∀ u, x ≤ u → u < t → (5 < u ∧ u - s < 10) ∨ (14 < u ∧ u - s < 20) ∨ (10 < u ∧ u - s < 11)) : idV neA 3 zL zF 0 bT 3 j x s = t := by
  unfold idV
  rw [if_pos hm]
  exact idF_eq hs ⟨h0, bzn_no h h1, fun u u0 u1 => (bzn_iff h).2 (h2 u u0 u1)⟩
theorem bz_row {x y : Int} : bzB roA zF 0 bR 1 2 x y = false := by
  have hh : snP roA zF 0 bR 2 0 = false := by
    unfold snP
    have h1 : hrA roA zF 0 2 (bR 0 0) = false := by
      cases hq : hrA roA zF 0 2 (bR 0 0) with
      | false => rfl
      | true =>
        have h9 := (hr_iff.1 hq).2.2
        rw [show bR 0 0 = 0 from rfl, ro_lv] at h9
        omega
    rw [h1]; decide
  have e : bzB roA zF 0 bR 1 2 x y = !(allI (bzN roA zF 0 bR 2 x y) 1) := rfl
  have ha : allI (bzN roA zF 0 bR 2 x y) 1 = true := allI_of fun i i0 i1 => by
    obtain rfl : i = 0 := by omega
    unfold bzN
    rw [hh]; rfl
  rw [e, ha]; rfl
theorem vc9 : VC9 := by
  intro _
  refine ⟨trivial, ?_⟩
  rintro _ _ _ _ _ rfl rfl rfl rfl rfl _ _
  refine ⟨trivial, ?_⟩
  rintro v4 h4 _ _
  have e4 : v4 = 8 := by rw [h4]; decide
  refine ⟨fun _ => ?_, fun h => absurd e4 h⟩
  refine ⟨trivial, ?_⟩
  rintro v5 h5
  have e5 : v5 = 8 := by rw [h5]; decide
  refine ⟨fun _ => ?_, fun h => absurd e5 h⟩
  refine ⟨trivial, ?_⟩
  rintro v6 h6
  have e6 : v6 = 8 := by rw [h6]; decide
  refine ⟨fun _ => ?_, fun h => absurd e6 h⟩
  refine ⟨trivial, ?_⟩
  rintro v7 h7
  have e7 : v7 = 8 := by rw [h7]; decide
  refine ⟨fun _ => ?_, fun h => absurd e7 h⟩
  refine ⟨trivial, ?_⟩
  rintro v8 h8
  have e8 : v8 = 8 := by rw [h8]; decide
  refine ⟨fun _ => ?_, fun h => absurd e8 h⟩
  refine ⟨trivial, ?_⟩
  rintro v9 h9
  have e9 : v9 = 8 := by rw [h9]; decide
  refine ⟨fun _ => ?_, fun h => absurd e9 h⟩
  refine ⟨trivial, ?_⟩
  rintro v10 h10
  have e10 : v10 = 8 := by rw [h10]; unfold mcE; rw [if_pos ne_ck, if_neg (by omega)]
  refine ⟨trivial, ?_⟩
  rintro v11 v12 h11 h12
  have e12 : v12 = 0 := by rw [h12]; change maE neA 3 zL zF 0 bT 3 2 5 0 = 0; unfold maE; rw [if_pos m_ok]; decide
  have e11 : v11 = true := by rw [h11]; change (decide (maE neA 3 zL zF 0 bT 3 2 5 0 = 0) && bzB neA zF 0 bT 3 2 5 6) = true; change v12 = maE neA 3 zL zF 0 bT 3 2 5 0 at h12; rw [← h12, e12, (bzn_iff sn_2).2 (by omega)]; rfl
  refine ⟨trivial, ?_⟩
  rintro v13 v14 h13 h14
  have e14 : v14 = 0 := by rw [h14]; change maE neA 3 zL zF 0 bT 3 2 11 0 = 0; unfold maE; rw [if_pos m_ok]; decide
  have e13 : v13 = false := by rw [h13]; change (decide (maE neA 3 zL zF 0 bT 3 2 11 0 = 0) && bzB neA zF 0 bT 3 2 11 12) = false; change v14 = maE neA 3 zL zF 0 bT 3 2 11 0 at h14; rw [← h14, e14, bzn_no sn_2 (by omega)]; rfl
  refine ⟨trivial, ?_⟩
  rintro v15 v16 h15 h16
  have e16 : v16 = 0 := by rw [h16]; change maE neA 3 zL zF 0 bT 3 0 10 0 = 0; unfold maE; rw [if_pos m_ok]; decide
  have e15 : v15 = true := by rw [h15]; change (decide (maE neA 3 zL zF 0 bT 3 0 10 0 = 0) && bzB neA zF 0 bT 3 0 10 11) = true; change v16 = maE neA 3 zL zF 0 bT 3 0 10 0 at h16; rw [← h16, e16, (bzn_iff sn_0).2 (by omega)]; rfl
  refine ⟨trivial, ?_⟩
  rintro v17 v18 h17 h18
  change v18 = maE neA 3 zL zF 0 bT 3 2 0 3 at h18
  have e18 : v18 = 0 := by rw [h18]; unfold maE; rw [if_pos m_ok]; decide
  have e17 : v17 = 0 := by rw [h17]; exact id_at (j := 2) (x := 0) (s := 3) sn_2 (h18 ▸ e18) (by omega) (by omega) (by omega) (fun u u0 u1 => by omega)
  refine ⟨trivial, ?_⟩
  rintro v19 v20 h19 h20
  change v20 = maE neA 3 zL zF 0 bT 3 2 4 4 at h20
  have e20 : v20 = 0 := by rw [h20]; unfold maE; rw [if_pos m_ok]; decide
  have e19 : v19 = 4 := by rw [h19]; exact id_at (j := 2) (x := 4) (s := 4) sn_2 (h20 ▸ e20) (by omega) (by omega) (by omega) (fun u u0 u1 => by omega)
  refine ⟨trivial, ?_⟩
  rintro v21 v22 h21 h22
  change v22 = maE neA 3 zL zF 0 bT 3 2 6 0 at h22
  have e22 : v22 = 0 := by rw [h22]; unfold maE; rw [if_pos m_ok]; decide
  have e21 : v21 = 6 := by rw [h21]; change (if maE neA 3 zL zF 0 bT 3 2 6 0 = 0 then idF neA zF 0 bT 3 2 6 0 else 0) = 6; rw [← h22, e22, if_pos rfl]; exact if_pos rfl
  refine ⟨trivial, ?_⟩
  rintro _ _ _ _ _ rfl rfl rfl rfl rfl _ _
  refine ⟨trivial, ?_⟩
  rintro v27 v28 h27 h28
  change v28 = maE roA 3 zL zF 0 bR 1 2 50 10 at h28
  have e28 : v28 = 0 := by rw [h28]; unfold maE; rw [if_pos m_row]; decide
  have e27 : v27 = 50 := by
    rw [h27]; change (if maE roA 3 zL zF 0 bR 1 2 50 10 = 0 then idF roA zF 0 bR 1 2 50 10 else 0) = 50
    rw [← h28, e28, if_pos rfl]
    exact idF_eq (by omega) ⟨by omega, bz_row, fun u u0 u1 => by omega⟩
  refine ⟨trivial, ?_⟩
  rintro v29 v30 h29 h30
  have e30 : v30 = 2 := by rw [h30]; change maE neA 3 zL zF 0 bT 3 3 0 0 = 2; unfold maE; rw [if_pos m_ok]; decide
  refine ⟨trivial, ?_⟩
  rintro v31 v32 h31 h32
  change v32 = maE neA 3 zL zF 0 bT 3 0 0 (-1) at h32
  have e32 : v32 = 2 := by rw [h32]; unfold maE; rw [if_pos m_ok]; decide
  refine ⟨trivial, ?_⟩
  rintro v33 v34 h33 h34
  change v34 = maE neA 3 zL zF 0 bT 3 0 1099511627777 0 at h34
  have e34 : v34 = 2 := by rw [h34]; unfold maE; rw [if_pos m_ok]; decide
  refine ⟨trivial, ?_⟩
  rintro v35l v35f v36 v37 _ _ _ h37 _
  have e37 : v37 = 8 := by rw [h37]; decide
  refine ⟨trivial, ?_⟩
  rintro v38 v39 h38 h39
  change v39 = maE neA 3 zL zF 0 bT 3 2 6 3 at h39
  have e39 : v39 = 0 := by rw [h39]; unfold maE; rw [if_pos m_ok]; decide
  have e38 : v38 = 14 := by rw [h38]; exact id_at (j := 2) (x := 6) (s := 3) sn_2 (h39 ▸ e39) (by omega) (by omega) (by omega) (fun u u0 u1 => by omega)
  intro _
  refine ⟨trivial, ?_⟩
  rintro v40 v41 h40 h41
  change v41 = maE neA 3 zL zF 0 bT 3 2 6 4 at h41
  have e41 : v41 = 0 := by rw [h41]; unfold maE; rw [if_pos m_ok]; decide
  have e40 : v40 = 24 := by rw [h40]; exact id_at (j := 2) (x := 6) (s := 4) sn_2 (h41 ▸ e41) (by omega) (by omega) (by omega) (fun u u0 u1 => by omega)
  refine ⟨trivial, ?_⟩
  rintro v42 e42
  refine ⟨fun _ => by omega, ?_⟩
  rintro v43 v44 h43 h44
  refine ⟨fun _ => trivial, ?_⟩
  rintro v45 h45
  have e45 : v45 = true := by rw [h45, h43, h44]; decide
  refine ⟨⟨fun _ => rfl, fun _ => ?_⟩, trivial⟩
  simp only [e10, e11, e12, e13, e14, e15, e16, e17, e18, e19, e20, e21, e22, e27, e28, e30, e32, e34, e37, e38, e39, e40, e41, e42, e45, and_self, true_and, Bool.false_eq_true, not_false_eq_true]
end Go.Proofs.Ytgdjdaoglkfjdaa
