/- How many bits: the contract out of its walk. -/
import Derived.Test.YtiiabaklipmbbaaDoorC9
import Derived.Test.YtiiabaklipmbbaaDoorL
namespace Go.Proofs.YtiiabaklipmbbaaDoor
open Go Go.RowKit Go.Proofs.YtiiabaklipmbbaaDoor.Vc
theorem ru1 {w : World} {args : List Value} {avs : List AV} (h : RdA w [⟨false, [.int .u64]⟩] args avs) : ∃ x, args = [.int .u64 x] ∧ avs = [.i x] := by
  cases args with
  | nil => exact h.elim
  | cons v vs =>
    obtain ⟨a, b, rfl, h1, h2⟩ := h
    have h1 : RdL w [.int .u64] [v] a := h1
    obtain ⟨a1, b1, rfl, ⟨z, rfl, rfl⟩, h3⟩ := h1
    obtain rfl : b1 = [] := h3
    cases vs with
    | nil => obtain rfl : b = [] := h2; exact ⟨z, rfl, rfl⟩
    | cons _ _ => exact h2.elim
theorem gi1 {w : World} {N : Nat} (x : Int) : Gv N w [⟨false, [.int .i64]⟩] (.int .i64 x) [.i x] :=
  ⟨[.int .i64 x], [], rfl, ⟨[.i x], [], [], [], rfl, rfl, ⟨.int .i64, rfl, [.i x], [], [], [], rfl, rfl, ⟨x, rfl, rfl, rfl⟩, rfl, rfl⟩, rfl, rfl⟩, List.nodup_nil⟩
theorem lz_eq (x : Int) (h0 : 0 ≤ x) (h1 : x < 64) : (Lib.bitLen x.toNat : Int) = lz x := by
  obtain ⟨k, rfl⟩ := Int.eq_ofNat_of_zero_le h0
  have hk : k < 64 := by omega
  have : ∀ k : Fin 64, (Lib.bitLen ((k.1 : Int)).toNat : Int) = lz (k.1 : Int) := by decide
  exact this ⟨k, hk⟩
theorem ok37 : MeetsG Tryd.prog GW (mkCon sig37 pre37 raw37) 37 sig37 := by
  intro args avs w _ hrd hp
  obtain ⟨x, rfl, rfl⟩ := ru1 hrd
  have hp : 0 ≤ x ∧ x < 64 := hp
  refine (len64_any x w hp.1 (by omega)).mono fun e w' ⟨he, hb⟩ => ⟨_, he, ?_, ?_⟩
  · subst hb; exact Below.refl _ _
  · have : (mkCon sig37 pre37 raw37).out [.i x] = [.i (Lib.bitLen x.toNat)] := by
      show [AV.i (hidF lz x)] = _
      rw [hidF_eq, lz_eq x hp.1 hp.2]
    rw [this]; exact gi1 _
end Go.Proofs.YtiiabaklipmbbaaDoor
