/- Distances and losses: their contracts out of their walks. -/
import Derived.Test.YtgdjdaoglkfjdaaC
namespace Go.Proofs.Ytgdjdaoglkfjdaa
open Go Go.RowKit Go.Proofs.Ytgdjdaoglkfjdaa.Vc
theorem rd1 {w : World} {hs : List Sh} {args : List Value} {avs : List AV} (h : RdA w (⟨false, [.int .i64]⟩ :: hs) args avs) : ∃ x vs bs, args = .int .i64 x :: vs ∧ avs = .i x :: bs ∧ RdA w hs vs bs := by
  cases args with
  | nil => exact h.elim
  | cons v vs =>
    obtain ⟨a, b, rfl, h1, h2⟩ := h
    have h1 : RdL w [.int .i64] [v] a := h1
    obtain ⟨a1, b1, rfl, ⟨z, rfl, rfl⟩, h3⟩ := h1
    obtain rfl : b1 = [] := h3
    exact ⟨z, vs, b, rfl, rfl, h2⟩
theorem rd0 {w : World} {args : List Value} {avs : List AV} (h : RdA w [] args avs) : args = [] ∧ avs = [] := by
  cases args with
  | nil => exact ⟨rfl, h⟩
  | cons _ _ => exact h.elim
theorem gv1 {w : World} {N : Nat} (x : Int) : GvV N w ⟨false, [.int .i64]⟩ (.int .i64 x) [.i x] [] :=
  ⟨.int .i64, rfl, [.i x], [], [], [], rfl, rfl, ⟨x, rfl, rfl, rfl⟩, rfl, rfl⟩
theorem gv2 {w : World} {N : Nat} (x y : Int) : Gv N w [⟨false, [.int .i64]⟩, ⟨false, [.int .i64]⟩] (.tuple #[.int .i64 x, .int .i64 y]) [.i x, .i y] :=
  ⟨[.int .i64 x, .int .i64 y], [], rfl, ⟨[.i x], [.i y], [], [], rfl, rfl, gv1 x, ⟨[.i y], [], [], [], rfl, rfl, gv1 y, rfl, rfl⟩⟩, List.nodup_nil⟩
theorem out11 (x1 x2 x3 x4 : Int) : (mkCon sig66 pre66 raw66).out [.i x1, .i x2, .i x3, .i x4] = [.i (dist x1 x2 x3 x4), .i (diste x1 x2 x3 x4)] := by
  show [AV.i (hidF dist x1 x2 x3 x4), AV.i (hidF diste x1 x2 x3 x4)] = _
  rw [hidF_eq, hidF_eq]
theorem out13 (x1 : Int) : (mkCon sig67 pre67 raw67).out [.i x1] = [.i (lossv x1), .i (losse x1)] := by
  show [AV.i (hidF lossv x1), AV.i (hidF losse x1)] = _
  rw [hidF_eq, hidF_eq]
theorem ok66 : Meets Try.prog (mkCon sig66 pre66 raw66) 66 sig66 := by
  intro args avs w _ hrd _
  obtain ⟨x1, as1, bs1, rfl, rfl, h1⟩ := rd1 hrd
  obtain ⟨x2, as2, bs2, rfl, rfl, h2⟩ := rd1 h1
  obtain ⟨x3, as3, bs3, rfl, rfl, h3⟩ := rd1 h2
  obtain ⟨x4, as4, bs4, rfl, rfl, h4⟩ := rd1 h3
  obtain ⟨rfl, rfl⟩ := rd0 h4
  exact (distance_any x1 x2 x3 x4 w).mono fun e w' ⟨he, hb⟩ => ⟨_, he, hb, by rw [out11]; exact gv2 _ _⟩
theorem ok67 : Meets Try.prog (mkCon sig67 pre67 raw67) 67 sig67 := by
  intro args avs w _ hrd _
  obtain ⟨x1, as1, bs1, rfl, rfl, h1⟩ := rd1 hrd
  obtain ⟨rfl, rfl⟩ := rd0 h1
  refine (loss_any x1 w).mono fun e w' ⟨he, hb⟩ => ⟨_, he, ?_, by rw [out13]; exact gv2 _ _⟩
  subst hb
  exact Below.refl _ _
end Go.Proofs.Ytgdjdaoglkfjdaa
