/- The reference's distances and losses: their contracts out of their walks. -/
import Derived.Test.YtgdjdaoglkfjdaaC
import Derived.Test.YtgdjdaoglkfjdaaH
namespace Go.Proofs.Ytgdjdaoglkfjdaa
open Go Go.RowKit Go.Proofs.Ytgdjdaoglkfjdaa.Vc
theorem gv0 {w : World} {N : Nat} (x : Int) : Gv N w [⟨false, [.int .i64]⟩] (.int .i64 x) [.i x] :=
  ⟨[.int .i64 x], [], rfl, ⟨[.i x], [], [], [], rfl, rfl, gv1 x, rfl, rfl⟩, List.nodup_nil⟩
theorem out12 (x1 x2 x3 x4 : Int) : (mkCon sig70 pre70 raw70).out [.i x1, .i x2, .i x3, .i x4] = [.i (dist x1 x2 x3 x4), .i (diste x1 x2 x3 x4)] := by
  show [AV.i (hidF dist x1 x2 x3 x4), AV.i (hidF diste x1 x2 x3 x4)] = _
  rw [hidF_eq, hidF_eq]
theorem out41 (x1 : Int) : (mkCon sig71 pre71 raw71).out [.i x1] = [.i (loss x1)] := by
  show [AV.i (hidF loss x1)] = _
  rw [hidF_eq]
theorem ok70 : Meets Try.prog (mkCon sig70 pre70 raw70) 70 sig70 := by
  intro args avs w _ hrd _
  obtain ⟨x1, as1, bs1, rfl, rfl, h1⟩ := rd1 hrd
  obtain ⟨x2, as2, bs2, rfl, rfl, h2⟩ := rd1 h1
  obtain ⟨x3, as3, bs3, rfl, rfl, h3⟩ := rd1 h2
  obtain ⟨x4, as4, bs4, rfl, rfl, h4⟩ := rd1 h3
  obtain ⟨rfl, rfl⟩ := rd0 h4
  refine (rdistance_any x1 x2 x3 x4 w).mono fun e w' ⟨he, hb⟩ => ⟨_, he, ?_, by rw [out12]; exact gv2 _ _⟩
  first | exact hb | (subst hb; exact Below.refl _ _)
theorem ok71 : Meets Try.prog (mkCon sig71 pre71 raw71) 71 sig71 := by
  intro args avs w _ hrd hp
  obtain ⟨x1, as1, bs1, rfl, rfl, h1⟩ := rd1 hrd
  obtain ⟨rfl, rfl⟩ := rd0 h1
  refine (rlost_any x1 w hp.1 hp.2).mono fun e w' ⟨he, hb⟩ => ⟨_, he, ?_, by rw [out41]; exact gv0 _⟩
  first | exact hb | (subst hb; exact Below.refl _ _)
end Go.Proofs.Ytgdjdaoglkfjdaa
