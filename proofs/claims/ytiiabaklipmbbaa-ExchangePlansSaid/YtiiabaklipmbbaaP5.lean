/- What is left to show of the reference's plan. -/
import Derived.Test.YtiiabaklipmbbaaC5
import Derived.Test.YtiiabaklipmbbaaP4
namespace Go.Proofs.Ytiiabaklipmbbaa
open Go Go.RowKit Go.Proofs.Ytiiabaklipmbbaa.Vc
theorem row_end (x : Xc) (n : Int) (h : 1 ≤ exL x n) : exRow x n (exL x n - 1) 3 + exRow x n (exL x n - 1) 4 = exE x n := by
  show exS x n (exL x n - 1) + exA x n (exL x n - 1) = exE x n
  have := exS_succ x n (exL x n - 1) (by omega)
  rw [show exL x n - 1 + 1 = exL x n by omega] at this
  unfold exE
  omega
set_option maxHeartbeats 4000000 in
theorem vc8 : VC8 := by
  unfold VC8
  intro p q lim d m rts cts ack bar back _ hm
  generalize hxx : Xc.mk p q lim d m rts cts ack bar back = x
  have xl : x.lim = lim := by rw [← hxx]
  have xm : x.m = m := by rw [← hxx]
  clear hxx
  subst xl xm
  refine ⟨trivial, fun b hb _ => ⟨fun hf => pl_bad_out ?_, fun ht => ?_⟩⟩
  · rw [← hb]; simpa using hf
  · have hV : exV x = true := by rw [← hb]; simpa using ht
    obtain ⟨hx, hm1⟩ := exV_ok hV
    have hm16 := hx.1.2
    obtain ⟨s1, s2, s3, s4⟩ := plF_spec x 16 1 hm1 (by omega)
    have hP : plF x 1 16 = plN x := rfl
    rw [hP] at s1 s2 s3 s4
    refine ⟨⟨hx, by omega, by omega⟩, ?_⟩
    rintro _ _ rfl rfl
    intro _ _
    refine ⟨fun a L n => 2 ≤ n ∧ n ≤ x.m + 1 ∧ ∃ b, 1 ≤ b ∧ b ≤ x.m ∧ b = min (plN x) (n - 1) ∧ a = exRow x b ∧ L = exL x b, fun _ _ n => (x.m + 1 - n).toNat, ⟨by omega, by omega, 1, by omega, by omega, by omega, rfl, rfl⟩, fun a L n hI => ?_⟩
    obtain ⟨n2, nm, b, b1, b2, hbm, rfl, rfl⟩ := hI
    intro _ _
    refine ⟨fun hle => ⟨⟨hx, by omega, hle⟩, ?_⟩, fun hgt => ?_⟩
    · rintro _ _ rfl rfl
      have hl := exL_bd x hx n (by omega) hle
      have hpos := exE_pos x hx n (by omega) hle
      have hE : exE x n ≤ 2000000 := by
        have hb := exS_bd x hx n hle (exL x n).toNat (by omega)
        rw [Int.toNat_of_nonneg (by omega)] at hb
        unfold exE
        omega
      rw [row_end x n hl.1]
      have key : (0 < x.lim ∧ exE x n ≤ x.lim) ↔ n ≤ plN x := by
        constructor
        · intro h
          apply Decidable.byContradiction
          intro hn
          have h3 := s3 (by omega)
          have := exE_le x hx (plN x + 1) (by omega) (n - (plN x + 1)).toNat (by omega)
          rw [show plN x + 1 + (((n - (plN x + 1)).toNat : Nat) : Int) = n by omega] at this
          omega
        · intro h
          have := s4 n (by omega) h
          omega
      intro _ _
      refine ⟨by omega, fun _ => ⟨by omega, fun _ => ⟨by omega, fun _ => ⟨by omega, fun _ => ⟨by omega, fun _ => ⟨by omega, fun _ => ⟨by omega, fun _ => ⟨by omega, fun _ => ⟨by omega, fun _ => ⟨by omega, fun _ => ⟨by omega, fun _ => ⟨fun hc => ?_, fun hc => ?_⟩⟩⟩⟩⟩⟩⟩⟩⟩⟩⟩⟩
      · have := key.1 hc
        exact ⟨by omega, fun _ => ⟨⟨by omega, by omega, n, by omega, hle, by omega, rfl, rfl⟩, by dsimp only; omega⟩⟩
      · have : ¬ n ≤ plN x := fun h => hc (key.2 h)
        exact ⟨by omega, fun _ => ⟨⟨by omega, by omega, b, b1, b2, by omega, rfl, rfl⟩, by dsimp only; omega⟩⟩
    · have hb2 : b = plN x := by omega
      have hl := exL_bd x hx b b1 b2
      exact ⟨by omega, fun _ => ⟨fun hd => pl_many hV hb2 hd, fun hd => pl_good hV hb2 hd⟩⟩
end Go.Proofs.Ytiiabaklipmbbaa
