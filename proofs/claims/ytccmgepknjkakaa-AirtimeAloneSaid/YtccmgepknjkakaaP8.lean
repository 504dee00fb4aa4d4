/- Shares of airtime: what is left to show of AirtimeAlone. -/
import Derived.Test.YtccmgepknjkakaaP4
import Derived.Test.YtccmgepknjkakaaC8
namespace Go.Proofs.Ytccmgepknjkakaa
open Go Go.RowKit Go.Proofs.Ytccmgepknjkakaa.Vc
/-- what holds while one station alone has frames -/
structure AL (n : Int) (l : Int → Int) (a0 : Int → Nat → Int) (who : Int) (s : RS) : Prop where
  ri : RI n l s
  od : ∀ i, 0 ≤ i → i < s.cnt → s.ord i = who
  cr : ∀ i, 0 ≤ i → i < n → i ≠ who → s.a i 1 ≤ max (a0 i 1) 0
theorem AL.step {n : Int} {l : Int → Int} {f : Int → Int → Int} (F : RF n l f) {a0 : Int → Nat → Int} {who : Int} (hl : ∀ i, 0 ≤ i → i < n → i ≠ who → l i = 0) (s : RS) (h : AL n l a0 who s) (hd : rD (sumI l n) s = false) : AL n l a0 who (rS n l f s) := by
  obtain ⟨ri, od, cr⟩ := h
  have h2 := (rs_step F s ri hd).1
  refine ⟨h2, ?_, ?_⟩
  · unfold rS
    split
    · rename_i hc
      have hb := (cho_iff.1 hc).1
      have ht : s.t = who := by
        apply Classical.byContradiction
        intro hne
        have := hl s.t ri.t0 ri.t1 hne
        have h3 := ri.h s.t ri.t0 ri.t1
        have h4 : s.hd s.t < l s.t := of_decide_eq_true hb
        omega
      intro i i0 i1
      have i1' : i < s.cnt + 1 := i1
      show upI s.ord s.cnt s.t i = who
      by_cases hi : i = s.cnt
      · rw [hi, upI_eq, ht]
      · rw [upI_ne hi]; exact od i i0 (by omega)
    · exact od
  · unfold rS
    split
    · rename_i hc
      have hb := (cho_iff.1 hc).1
      have ht : s.t = who := by
        apply Classical.byContradiction
        intro hne
        have := hl s.t ri.t0 ri.t1 hne
        have h3 := ri.h s.t ri.t0 ri.t1
        have h4 : s.hd s.t < l s.t := of_decide_eq_true hb
        omega
      intro i i0 i1 hi
      show setA s.a s.t 1 _ i 1 ≤ _
      rw [setA_ne (.inl (by omega))]
      exact cr i i0 i1 hi
    · intro i i0 i1 hi
      obtain ⟨e0, e1, e2⟩ := @st_at (rB l s s.t) s.a s.t i
      show stA (rB l s s.t) s.a s.t i 1 ≤ _
      have := cr i i0 i1 hi
      by_cases hit : i = s.t
      · have hb : rB l s s.t = false := by
          have h3 := hl i i0 i1 hi
          have h4 := ri.h i i0 i1
          unfold rB
          rw [← hit]
          simp; omega
        rw [hb] at e2 ⊢
        subst hit
        rw [e2]
        simp only [Bool.false_eq_true, if_false]
        omega
      · rw [e1 hit]; exact this
theorem vc5 : VC5 := by
  intro a n t who f m _ hn hm
  refine ⟨trivial, ?_⟩
  rintro al rfl hN hM
  refine ⟨fun _ => ⟨by simp, trivial⟩, fun hs => ?_⟩
  have hs' : n ≤ 40 ∧ 0 ≤ who ∧ who < n ∧ m ≤ 200 := by
    refine ⟨?_, ?_, ?_, ?_⟩ <;> (apply Classical.byContradiction; intro h; apply hs; omega)
  obtain ⟨s1, s2, s3, s4⟩ := hs'
  have hL : ∀ i, 0 ≤ i → srL (srL zL (-1) 0) who m i = upI (fun _ => 0) who m i := fun i i0 => by
    unfold srL upI zL
    by_cases h : i = who
    · rw [if_pos h, if_pos h]
    · rw [if_neg h, if_neg h, if_neg (by omega)]
  have hrw : ∀ i, 0 ≤ i → i < n → 0 ≤ srL (srL zL (-1) 0) who m i ∧ srL (srL zL (-1) 0) who m i ≤ 140737488351232 := fun i i0 i1 => by
    rw [hL i i0]; unfold upI; dsimp only; split <;> omega
  refine ⟨by omega, fun _ => ⟨s2, fun _ => ⟨s3, fun _ => ⟨⟨s1, ⟨hrw⟩⟩, ?_⟩⟩⟩⟩
  generalize srL (srL zL (-1) 0) who m = L at hL hrw ⊢
  generalize srF (srF zF (-1) zA) who f = G
  rintro O k A k2 u e rfl rfl rfl rfl rfl rfl _ _ _ _
  refine ⟨fun _ => ⟨by simp, trivial⟩, fun he => ?_⟩
  have hE : ruE a n t L G n = 0 := by omega
  have hpos : ∀ i, 0 ≤ i → i < n → 0 ≤ L i := fun i i0 i1 => (hrw i i0 i1).1
  obtain ⟨hc, _, _, F, I⟩ := ruE_ok hpos hE
  obtain ⟨hR, hd, _⟩ := rn_spec hpos hE
  obtain ⟨hcnt, _⟩ := rn_cnt hpos hE
  have hsum : sumI (nmL L n) n = m := by
    rw [sumI_congr (h := upI (fun _ => 0) who m) fun i i0 i1 => by rw [nmL_at i0 i1, hL i i0], sumI_up s2 s3]
    have e : sumI (fun _ => (0:Int)) n = _ := sumN_const
    rw [e]; simp
  have hAL := hR.keeps (P := AL n (nmL L n) a who) (fun s hs hd => AL.step F (fun i i0 i1 hi => by rw [nmL_at i0 i1, hL i i0, upI_ne hi]) s hs hd) ⟨I, fun i i0 i1 => by have i1' : i < 0 := i1; omega, fun i i0 i1 hi => by show a i 1 ≤ _; omega⟩
  have n1 : ruK a n t L G n = m := by unfold ruK; rw [if_pos hE, hcnt, hsum]
  have n2 : ruN a n t L G n n = n := by unfold ruN; rw [if_pos hE]
  rw [n1, n2]
  refine ⟨fun h => by omega, fun _ => ?_⟩
  refine ⟨fun i => 0 ≤ i ∧ i ≤ m, fun i => (m - i).toNat, ⟨by omega, by omega⟩, ?_⟩
  rintro i ⟨i0, i1⟩
  refine ⟨fun h3 => ⟨i0, fun _ => ⟨fun h4 => ?_, fun _ => ⟨by omega, fun _ => ⟨⟨by omega, by omega⟩, by dsimp only; omega⟩⟩⟩⟩, fun h3 => ?_⟩
  · exfalso
    exact h4 (hAL.od i i0 (by rw [hcnt, hsum]; exact h3))
  · refine ⟨fun j => 0 ≤ j ∧ j ≤ n, fun j => (n - j).toNat, ⟨by omega, by omega⟩, ?_⟩
    rintro j ⟨j0, j1⟩
    refine ⟨fun h4 => ⟨.inr j0, fun _ => ⟨.inr h4, fun _ => ⟨.inr j0, fun _ => ⟨.inr h4, fun _ => ⟨.inr j0, fun _ => ⟨.inr j0, fun _ => ⟨fun h5 => ?_, fun _ => ⟨by omega, fun _ => ⟨⟨by omega, by omega⟩, by dsimp only; omega⟩⟩⟩⟩⟩⟩⟩⟩⟩, fun h4 => ⟨by simp, trivial⟩⟩
    exfalso
    have h6 : ruA a n t L G n j 1 = (rn a n t L G n).a j 1 := rfl
    have := hAL.cr j j0 h4 h5.1
    omega
end Go.Proofs.Ytccmgepknjkakaa
