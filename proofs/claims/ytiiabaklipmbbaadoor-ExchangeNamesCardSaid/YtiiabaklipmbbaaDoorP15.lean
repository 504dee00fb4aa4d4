/- Limits, errors, bursts, losses: what is left to show of the law. -/
import Derived.Test.YtiiabaklipmbbaaDoorC15
import Derived.Test.YtiiabaklipmbbaaDoorP7
import Derived.Test.YtiiabaklipmbbaaDoorP11
set_option maxRecDepth 100000
namespace Go.Proofs.YtiiabaklipmbbaaDoor
open Go Go.RowKit Go.Proofs.YtiiabaklipmbbaaDoor.Vc
theorem ek_d {x : Xc} {n k : Int} (h : exK x n k = 4) : exB x ≤ k ∧ k < exB x + n * exQ x ∧ ¬ (x.q = 0 ∧ (k - exB x) % 2 = 1) ∧ exX x n k = exI x k := by
  have hx : exX x n k = exI x k := by unfold exX; rw [if_pos (.inl h)]
  unfold exK at h
  generalize exB x + n * exQ x = e at *
  grind
theorem ek_a {x : Xc} {n k : Int} (h : exK x n k = 5) : exB x ≤ k ∧ k < exB x + n * exQ x ∧ (x.q = 0 ∧ (k - exB x) % 2 = 1) ∧ exX x n k = exI x k := by
  have hx : exX x n k = exI x k := by unfold exX; rw [if_pos (.inr h)]
  unfold exK at h
  generalize exB x + n * exQ x = e at *
  grind
theorem ek_b {x : Xc} {n k : Int} (h : exK x n k = 7) : exB x + n * exQ x < k := by
  unfold exK at h
  generalize exB x + n * exQ x = e at *
  grind
theorem ek_r {x : Xc} {n k : Int} (k0 : 0 ≤ k) (h : exK x n k = 1 ∨ exK x n k = 2) : x.p = 2 ∧ k < 2 ∧ exB x = 2 := by
  have hB : exB x = if x.p = 1 then 1 else if x.p = 2 then 2 else 0 := rfl
  unfold exK at h
  generalize exB x + n * exQ x = e at *
  generalize exB x = bb at *
  grind
theorem ex_pyP {x : Xc} (hx : exOk x) {n : Int} (n1 : 1 ≤ n) (n2 : n ≤ x.m) : pyP (exRow x n) (exL x n) := by
  have hl := exL_bd x hx n n1 n2
  have r0 : ∀ i, exRow x n i 0 = exK x n i := fun i => rfl
  have r2 : ∀ i, exRow x n i 2 = exX x n i := fun i => rfl
  refine ⟨hl.2, fun i j i0 ij j1 hi hj => ?_, fun i j i0 ij j1 hi hj => ?_, fun i i0 i1 hi => ⟨?_, fun j j0 j1 hj => ?_⟩⟩
  · rw [r0] at hi hj
    rw [r2, r2]
    obtain ⟨a1, a2, a3, a4⟩ := ek_d hi
    obtain ⟨b1, b2, b3, b4⟩ := ek_d hj
    rw [a4, b4]
    unfold exI
    split
    · rename_i hq
      have a5 : ¬ (i - exB x) % 2 = 1 := fun h => a3 ⟨hq, h⟩
      have b5 : ¬ (j - exB x) % 2 = 1 := fun h => b3 ⟨hq, h⟩
      omega
    · omega
  · rw [r0] at hi hj
    rw [r2, r2]
    obtain ⟨a1, a2, ⟨a3, a5⟩, a4⟩ := ek_a hi
    obtain ⟨b1, b2, ⟨b3, b5⟩, b4⟩ := ek_a hj
    rw [a4, b4]
    unfold exI
    rw [if_pos a3, if_pos a3]
    omega
  · rw [r0] at hi
    have h1 := ek_b hi
    have hL : exL x n = exB x + n * exQ x + exT x := rfl
    have hT : exT x ≤ 2 := by unfold exT; split <;> omega
    omega
  · rw [r0] at hi hj
    have h1 := ek_b hi
    obtain ⟨a1, a2, ⟨a3, a5⟩, a4⟩ := ek_a hj
    have hL : exL x n = exB x + n * exQ x + exT x := rfl
    have hT : exT x = 0 := by unfold exT; rw [if_neg (by omega)]
    omega
theorem pk_of {x : Xc} (h : plE x = 0) : exOk x ∧ 1 ≤ plN x ∧ plN x ≤ x.m := by
  have hV : exV x = true := by
    by_cases hv : exV x = true
    · exact hv
    · unfold plE at h; rw [if_neg hv] at h; omega
  obtain ⟨hx, hm1⟩ := exV_ok hV
  have hm16 := hx.1.2
  obtain ⟨s1, s2, s3, s4⟩ := plF_spec x 16 1 hm1 (by omega)
  have hP : plF x 1 16 = plN x := rfl
  rw [hP] at s1 s2
  exact ⟨hx, s1, s2⟩

theorem nm_bad {x : Xc} (h : exV x = false) : plE x = 2 ∧ plL x = 0 := by
  have e : plE x = 2 := by unfold plE; rw [h]; rfl
  refine ⟨e, ?_⟩
  unfold plL
  rw [if_neg (by omega)]
theorem nm_many {x : Xc} (h : exV x = true) (h2 : exRow x (plN x) 0 5 > 32767) : plE x = 4 ∧ plL x = 0 := by
  have e : plE x = 4 := by unfold plE; rw [if_pos h, if_pos h2]
  refine ⟨e, ?_⟩
  unfold plL
  rw [if_neg (by omega)]
theorem nm_ok {x : Xc} (h : exV x = true) (h2 : ¬ exRow x (plN x) 0 5 > 32767) : plE x = 0 ∧ plL x = exL x (plN x) := by
  have e : plE x = 0 := by unfold plE; rw [if_pos h, if_neg h2]
  refine ⟨e, ?_⟩
  unfold plL
  rw [if_pos e]
theorem nm_P {x : Xc} (h : plE x = 0) : pyP (exRow x (plN x)) (plL x) := by
  obtain ⟨hx, n1, n2⟩ := pk_of h
  have : plL x = exL x (plN x) := by unfold plL; rw [if_pos h]
  rw [this]
  exact ex_pyP hx n1 n2
theorem nm_ln {x : Xc} (h : plE x = 0) : lnP (exRow x (plN x)) (plL x) := by
  obtain ⟨_, _, _, g⟩ := pg_of h
  intro j j0 j1
  have := g.s j j0 j1
  omega
open Classical in
theorem vA : exV (Xc.mk 3 0 0 (setA zA 0 0 200) 1 50 40 40 60 70) = false := by
  unfold exV
  exact decide_eq_false (fun h => absurd h.1.1 (by decide))
open Classical in
theorem vB : exV (Xc.mk 2 3 0 (setA zA 0 0 200) 1 50 40 40 60 70) = false := by
  unfold exV
  exact decide_eq_false (fun h => absurd h.1.2 (by decide))
open Classical in
theorem vC : exV (Xc.mk 2 0 0 zA 0 50 40 40 60 70) = false := by
  unfold exV
  exact decide_eq_false (fun h => absurd h.2.2.1.1 (by decide))
open Classical in
theorem vD : exV (Xc.mk 2 0 32768 (setA zA 0 0 200) 1 50 40 40 60 70) = false := by
  unfold exV
  exact decide_eq_false (fun h => absurd h.2.1.2 (by decide))
open Classical in
theorem vE : exV (Xc.mk 2 0 0 (setA zA 0 0 200) 1 50 40 40 0 70) = false := by
  unfold exV
  exact decide_eq_false (fun h => absurd h.2.2.2.2.2.2.1.1 (by decide))
open Classical in
theorem vF : exV (Xc.mk 2 0 0 (setA zA 0 0 32767) 1 50 40 40 60 70) = true := by
  unfold exV
  refine decide_eq_true ⟨by decide, by decide, by decide, by decide, by decide, by decide, by decide, by decide, fun i i0 i1 => ?_⟩
  have i1 : i < 1 := i1
  have hi : i = 0 := by omega
  rcases hi with rfl <;> decide
open Classical in
theorem vG : exV (Xc.mk 0 2 500 (setA (setA (setA (setA zA 0 0 100) 1 0 100) 2 0 100) 3 0 100) 4 1 1 1 50 60) = true := by
  unfold exV
  refine decide_eq_true ⟨by decide, by decide, by decide, by decide, by decide, by decide, by decide, by decide, fun i i0 i1 => ?_⟩
  have i1 : i < 4 := i1
  have hi : i = 0 ∨ i = 1 ∨ i = 2 ∨ i = 3 := by omega
  rcases hi with rfl | rfl | rfl | rfl <;> decide
open Classical in
theorem vH : exV (Xc.mk 0 2 499 (setA (setA (setA (setA zA 0 0 100) 1 0 100) 2 0 100) 3 0 100) 4 1 1 1 50 60) = true := by
  unfold exV
  refine decide_eq_true ⟨by decide, by decide, by decide, by decide, by decide, by decide, by decide, by decide, fun i i0 i1 => ?_⟩
  have i1 : i < 4 := i1
  have hi : i = 0 ∨ i = 1 ∨ i = 2 ∨ i = 3 := by omega
  rcases hi with rfl | rfl | rfl | rfl <;> decide
open Classical in
theorem vI : exV (Xc.mk 0 2 0 (setA (setA (setA (setA zA 0 0 100) 1 0 100) 2 0 100) 3 0 100) 4 1 1 1 50 60) = true := by
  unfold exV
  refine decide_eq_true ⟨by decide, by decide, by decide, by decide, by decide, by decide, by decide, by decide, fun i i0 i1 => ?_⟩
  have i1 : i < 4 := i1
  have hi : i = 0 ∨ i = 1 ∨ i = 2 ∨ i = 3 := by omega
  rcases hi with rfl | rfl | rfl | rfl <;> decide
open Classical in
theorem vO : exV (Xc.mk 2 0 0 (setA zA 0 0 200) 1 50 40 40 60 70) = true := by
  unfold exV
  refine decide_eq_true ⟨by decide, by decide, by decide, by decide, by decide, by decide, by decide, by decide, fun i i0 i1 => ?_⟩
  have i1 : i < 1 := i1
  have hi : i = 0 := by omega
  rcases hi with rfl <;> decide
theorem vc3 : VC3 := by
  unfold VC3
  intro _
  refine ⟨trivial, ?_⟩
  intro aA lA eA haA hlA heA
  intro _ 
  refine ⟨fun _ => ?_, fun h => absurd ⟨heA.trans (nm_bad vA).1, hlA.trans (nm_bad vA).2⟩ h⟩
  refine ⟨trivial, ?_⟩
  intro aB lB eB haB hlB heB
  intro _ 
  refine ⟨fun _ => ?_, fun h => absurd ⟨heB.trans (nm_bad vB).1, hlB.trans (nm_bad vB).2⟩ h⟩
  refine ⟨trivial, ?_⟩
  intro aC lC eC haC hlC heC
  intro _ 
  refine ⟨fun _ => ?_, fun h => absurd ⟨heC.trans (nm_bad vC).1, hlC.trans (nm_bad vC).2⟩ h⟩
  refine ⟨trivial, ?_⟩
  intro aD lD eD haD hlD heD
  intro _ 
  refine ⟨fun _ => ?_, fun h => absurd ⟨heD.trans (nm_bad vD).1, hlD.trans (nm_bad vD).2⟩ h⟩
  refine ⟨trivial, ?_⟩
  intro aE lE eE haE hlE heE
  intro _ 
  refine ⟨fun _ => ?_, fun h => absurd ⟨heE.trans (nm_bad vE).1, hlE.trans (nm_bad vE).2⟩ h⟩
  refine ⟨trivial, ?_⟩
  intro aF lF eF haF hlF heF
  intro _ 
  refine ⟨trivial, ?_⟩
  intro aG lG eG haG hlG heG
  intro _ 
  refine ⟨trivial, ?_⟩
  intro aH lH eH haH hlH heH
  intro _ _ 
  refine ⟨trivial, ?_⟩
  intro aI lI eI haI hlI heI
  intro _ _ 
  have okG := nm_ok vG (by decide +kernel)
  have okH := nm_ok vH (by decide +kernel)
  have okI := nm_ok vI (by decide +kernel)
  have okO := nm_ok vO (by decide +kernel)
  have okF := nm_many vF (by decide +kernel)
  have nG : plN (Xc.mk 0 2 500 (setA (setA (setA (setA zA 0 0 100) 1 0 100) 2 0 100) 3 0 100) 4 1 1 1 50 60) = 3 := by decide +kernel
  have nH : plN (Xc.mk 0 2 499 (setA (setA (setA (setA zA 0 0 100) 1 0 100) 2 0 100) 3 0 100) 4 1 1 1 50 60) = 3 := by decide +kernel
  have nI : plN (Xc.mk 0 2 0 (setA (setA (setA (setA zA 0 0 100) 1 0 100) 2 0 100) 3 0 100) 4 1 1 1 50 60) = 1 := by decide +kernel
  have nO : plN (Xc.mk 2 0 0 (setA zA 0 0 200) 1 50 40 40 60 70) = 1 := by decide +kernel
  have pG : pyP aG lG := by rw [haG, hlG]; exact nm_P okG.1
  have qG : lnP aG lG := by rw [haG, hlG]; exact nm_ln okG.1
  rw [okG.2, nG] at hlG
  rw [nG] at haG
  rw [okH.2, nH] at hlH
  rw [okI.2, nI] at hlI
  have fG : lG = 5 := by rw [hlG]; decide +kernel
  have fH : lH = 5 := by rw [hlH]; decide +kernel
  have fI : lI = 3 := by rw [hlI]; decide +kernel
  subst fG
  refine ⟨pG, ?_⟩
  intro s1 g1 n1 k1 m1 hs1 hg1 hn1 hk1 hm1
  intro _ _ _ 
  refine ⟨pG, ?_⟩
  intro s2 g2 n2 k2 m2 hs2 hg2 hn2 hk2 hm2
  intro _ _ _ _ 
  refine ⟨pG, ?_⟩
  intro s3 g3 n3 k3 m3 hs3 hg3 hn3 hk3 hm3
  intro _ _ _ _ 
  refine ⟨trivial, ?_⟩
  intro aO lO eO haO hlO heO
  intro _ _ _ 
  have pO : pyP aO lO := by rw [haO, hlO]; exact nm_P okO.1
  rw [okO.2, nO] at hlO
  rw [nO] at haO
  have fO : lO = 4 := by rw [hlO]; decide +kernel
  subst fO
  refine ⟨pO, ?_⟩
  intro s4 g4 n4 k4 m4 hs4 hg4 hn4 hk4 hm4
  intro _ _ _ 
  refine ⟨pO, ?_⟩
  intro s5 g5 n5 k5 m5 hs5 hg5 hn5 hk5 hm5
  intro _ _ _ _ 
  refine ⟨⟨by decide, by decide⟩, ?_⟩
  intro u0 u1 u2 u3 u4 u5 u6 u7 u8 u9 u10 u11 u12 u13 u14 u15 u16 u17 u18 u19 u20 u21 u22 u23 u24 u25 u26 u27 u28 u29 u30 u31 u32 u33 u34 u35 u36 u37 u38 u39 u40 hu0 hu1 hu2 hu3 hu4 hu5 hu6 hu7 hu8 hu9 hu10 hu11 hu12 hu13 hu14 hu15 hu16 hu17 hu18 hu19 hu20 hu21 hu22 hu23 hu24 hu25 hu26 hu27 hu28 hu29 hu30 hu31 hu32 hu33 hu34 hu35 hu36 hu37 hu38 hu39 hu40
  intro _ _ 
  refine ⟨⟨by decide, by decide⟩, ?_⟩
  intro w0 w1 w2 w3 w4 w5 w6 w7 w8 w9 w10 w11 w12 w13 w14 w15 w16 w17 w18 w19 w20 w21 w22 w23 w24 w25 w26 w27 w28 w29 w30 w31 w32 w33 w34 w35 w36 w37 w38 w39 w40 hw0 hw1 hw2 hw3 hw4 hw5 hw6 hw7 hw8 hw9 hw10 hw11 hw12 hw13 hw14 hw15 hw16 hw17 hw18 hw19 hw20 hw21 hw22 hw23 hw24 hw25 hw26 hw27 hw28 hw29 hw30 hw31 hw32 hw33 hw34 hw35 hw36 hw37 hw38 hw39 hw40
  refine ⟨⟨by decide, by decide⟩, ?_⟩
  intro x0 x1 x2 x3 x4 x5 x6 x7 x8 x9 x10 x11 x12 x13 x14 x15 x16 x17 x18 x19 x20 x21 x22 x23 x24 x25 x26 x27 x28 x29 x30 x31 x32 x33 x34 x35 x36 x37 x38 x39 x40 hx0 hx1 hx2 hx3 hx4 hx5 hx6 hx7 hx8 hx9 hx10 hx11 hx12 hx13 hx14 hx15 hx16 hx17 hx18 hx19 hx20 hx21 hx22 hx23 hx24 hx25 hx26 hx27 hx28 hx29 hx30 hx31 hx32 hx33 hx34 hx35 hx36 hx37 hx38 hx39 hx40
  refine ⟨⟨by decide, by decide⟩, ?_⟩
  intro y0 y1 y2 y3 y4 y5 y6 y7 y8 y9 y10 y11 y12 y13 y14 y15 y16 y17 y18 y19 y20 y21 y22 y23 y24 y25 y26 y27 y28 y29 y30 y31 y32 y33 y34 y35 y36 y37 y38 y39 y40 hy0 hy1 hy2 hy3 hy4 hy5 hy6 hy7 hy8 hy9 hy10 hy11 hy12 hy13 hy14 hy15 hy16 hy17 hy18 hy19 hy20 hy21 hy22 hy23 hy24 hy25 hy26 hy27 hy28 hy29 hy30 hy31 hy32 hy33 hy34 hy35 hy36 hy37 hy38 hy39 hy40
  refine ⟨fun _ => qG, ?_⟩
  intro ln hln
  refine ⟨trivial, ?_⟩
  intro b1 hb1
  refine ⟨fun _ => trivial, ?_⟩
  intro b2 hb2
  refine ⟨fun _ => trivial, ?_⟩
  intro b3 hb3
  refine ⟨fun _ => trivial, ?_⟩
  intro b4 hb4
  refine ⟨fun _ => trivial, ?_⟩
  intro b5 hb5
  refine ⟨trivial, ?_⟩
  intro al hal
  have t1 : b1 = true := by
    rw [hb1, hs1, hg1, hn1, hk1, hm1, haG]
    exact sp_of (by decide +kernel) (by decide +kernel) (by decide +kernel) (by decide +kernel) (by decide +kernel)
  have t2 : b2 = true := by
    rw [hb2, hs2, hg2, hn2, hk2, hm2, haG]
    exact sp_of (by decide +kernel) (by decide +kernel) (by decide +kernel) (by decide +kernel) (by decide +kernel)
  have t3 : b3 = true := by
    rw [hb3, hs3, hg3, hn3, hk3, hm3, haG]
    exact sp_of (by decide +kernel) (by decide +kernel) (by decide +kernel) (by decide +kernel) (by decide +kernel)
  have t4 : b4 = true := by
    rw [hb4, hs4, hg4, hn4, hk4, hm4, haO]
    exact sp_of (by decide +kernel) (by decide +kernel) (by decide +kernel) (by decide +kernel) (by decide +kernel)
  have t5 : b5 = true := by
    rw [hb5, hs5, hg5, hn5, hk5, hm5, haO]
    exact sp_of (by decide +kernel) (by decide +kernel) (by decide +kernel) (by decide +kernel) (by decide +kernel)
  have tl : ln = 474 := by rw [hln, haG]; decide +kernel
  refine ⟨⟨fun _ => rfl, fun _ => ?_⟩, trivial⟩
  refine ⟨⟨⟨⟨⟨⟨⟨hal, heF.trans okF.1, hlF.trans okF.2⟩, ⟨⟨⟨⟨heG.trans okG.1, heH.trans okH.1⟩, heI.trans okI.1⟩, heO.trans okO.1⟩, by rw [hu40]; decide +kernel⟩, by rw [hw40]; decide +kernel⟩, ⟨⟨rfl, tl⟩, fH⟩, fI⟩, ⟨⟨⟨t1, t2⟩, t3⟩, t4⟩, t5⟩, ?_⟩, by rw [hx40]; decide +kernel⟩, by rw [hy40]; decide +kernel⟩
  exact ⟨⟨(hu0.trans (by decide +kernel)), (hu1.trans (by decide +kernel)), (by rw [hu2]; exact Bool.false_ne_true), (by rw [hu3]; exact Bool.false_ne_true), (by rw [hu4]; exact Bool.false_ne_true), (by rw [hu5]; exact Bool.false_ne_true), (by rw [hu6]; exact Bool.false_ne_true), (by rw [hu7]; exact Bool.false_ne_true), (by rw [hu8]; exact Bool.false_ne_true), (hu9.trans (by decide +kernel)), (hu10.trans (by decide +kernel)), (hu11.trans (by decide +kernel)), (hu12.trans (by decide +kernel)), (hu13.trans (by decide +kernel)), (hu14.trans (by decide +kernel)), (hu15.trans (by decide +kernel)), (hu16.trans (by decide +kernel)), (hu17.trans (by decide +kernel)), (hu18.trans (by decide +kernel)), (hu19.trans (by decide +kernel)), (hu20.trans (by decide +kernel)), (hu21.trans (by decide +kernel)), (hu22.trans (by decide +kernel)), (hu23.trans (by decide +kernel)), (hu24.trans (by decide +kernel)), (hu25.trans (by decide +kernel)), (hu26.trans (by decide +kernel)), (hu27.trans (by decide +kernel)), (hu28.trans (by decide +kernel)), (hu29.trans (by decide +kernel)), (hu30.trans (by decide +kernel)), (hu31.trans (by decide +kernel)), (hu32.trans (by decide +kernel)), (hu33.trans (by decide +kernel)), (hu34.trans (by decide +kernel)), (hu35.trans (by decide +kernel)), (hu36.trans (by decide +kernel)), (hu37.trans (by decide +kernel)), (by rw [hu38]; exact Bool.false_ne_true), (by rw [hu39]; exact Bool.false_ne_true)⟩,
    ⟨(hw0.trans (by decide +kernel)), (hw1.trans (by decide +kernel)), (by rw [hw2]; exact Bool.false_ne_true), (by rw [hw3]; exact Bool.false_ne_true), (by rw [hw4]; exact Bool.false_ne_true), (by rw [hw5]; exact Bool.false_ne_true), (by rw [hw6]; exact Bool.false_ne_true), (by rw [hw7]; exact Bool.false_ne_true), (by rw [hw8]; exact Bool.false_ne_true), (hw9.trans (by decide +kernel)), (hw10.trans (by decide +kernel)), (hw11.trans (by decide +kernel)), (hw12.trans (by decide +kernel)), (hw13.trans (by decide +kernel)), (hw14.trans (by decide +kernel)), (hw15.trans (by decide +kernel)), (hw16.trans (by decide +kernel)), (hw17.trans (by decide +kernel)), (hw18.trans (by decide +kernel)), (hw19.trans (by decide +kernel)), (hw20.trans (by decide +kernel)), (hw21.trans (by decide +kernel)), (hw22.trans (by decide +kernel)), (hw23.trans (by decide +kernel)), (hw24.trans (by decide +kernel)), (hw25.trans (by decide +kernel)), (hw26.trans (by decide +kernel)), (hw27.trans (by decide +kernel)), (hw28.trans (by decide +kernel)), (hw29.trans (by decide +kernel)), (hw30.trans (by decide +kernel)), (hw31.trans (by decide +kernel)), (hw32.trans (by decide +kernel)), (hw33.trans (by decide +kernel)), (hw34.trans (by decide +kernel)), (hw35.trans (by decide +kernel)), (hw36.trans (by decide +kernel)), (hw37.trans (by decide +kernel)), (by rw [hw38]; exact Bool.false_ne_true), (by rw [hw39]; exact Bool.false_ne_true)⟩⟩
end Go.Proofs.YtiiabaklipmbbaaDoor
