/- Shares of airtime: what is left to show of AirtimeTells. -/
import Derived.Test.YtccmgepknjkakaaP2
import Derived.Test.YtccmgepknjkakaaC3
namespace Go.Proofs.Ytccmgepknjkakaa
open Go Go.RowKit Go.Proofs.Ytccmgepknjkakaa.Vc
theorem nn_nw {b : Int → Nat → Int} {n k : Int} (h : 0 ≤ k) : 0 ≤ nwN b n k := by unfold nwN; split <;> omega
theorem vc6 : VC6 := by
  intro a n t b m c l who air _ hn hm hl hn2 hm2 hl2
  refine ⟨fun h => ⟨by simp, trivial⟩, fun hs => ?_⟩
  refine ⟨by omega, ?_⟩
  rintro a n t rfl rfl rfl _
  refine ⟨by omega, ?_⟩
  rintro _ _ _ _ rfl rfl rfl rfl _ _
  refine ⟨by omega, ?_⟩
  rintro _ _ _ _ rfl rfl rfl rfl _ _
  refine ⟨trivial, ?_⟩
  rintro _ _ _ _ _ rfl rfl rfl rfl rfl _ hp
  refine ⟨trivial, ?_⟩
  rintro _ _ _ _ _ rfl rfl rfl rfl rfl _ _
  refine ⟨trivial, ?_⟩
  rintro _ _ _ _ rfl rfl rfl rfl _ hc
  refine ⟨trivial, ?_⟩
  rintro _ _ _ _ rfl rfl rfl rfl _ _
  refine ⟨trivial, ?_⟩
  rintro _ rfl
  refine ⟨trivial, ?_⟩
  rintro _ rfl
  refine ⟨fun _ => trivial, ?_⟩
  rintro _ rfl
  refine ⟨fun _ => trivial, ?_⟩
  rintro _ rfl
  refine ⟨fun _ => trivial, ?_⟩
  rintro _ rfl _
  refine ⟨fun _ i => 0 ≤ i, fun _ i => (pcN a n t c l n - i).toNat, by omega, ?_⟩
  intro x i hi
  refine ⟨fun h1 => ⟨hi, fun _ => ⟨by omega, fun _ => ⟨by omega, by dsimp only; omega⟩⟩⟩, fun _ => ?_⟩
  refine ⟨fun _ i => 0 ≤ i, fun _ i => (chN a n t who air n - i).toNat, by omega, ?_⟩
  intro y j hj
  refine ⟨fun h1 => ⟨hj, fun _ => ⟨by omega, fun _ => ⟨by omega, by dsimp only; omega⟩⟩⟩, fun _ => ?_⟩
  refine ⟨fun _ => trivial, ?_⟩
  rintro _ rfl
  simp [smA_refl]
end Go.Proofs.Ytccmgepknjkakaa
