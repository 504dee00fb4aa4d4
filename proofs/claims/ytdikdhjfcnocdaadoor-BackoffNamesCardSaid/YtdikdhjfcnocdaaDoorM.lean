/- The contracts. -/
import Derived.Test.YtdikdhjfcnocdaaDoorP
set_option maxRecDepth 100000
namespace Go.Proofs.YtdikdhjfcnocdaaDoor
open Go Go.RowKit Go.Proofs.YtdikdhjfcnocdaaDoor.Vc
def loopsA : List LA := [⟨5, 9, [(.cell 8 0, .sc), (.cell 8 1, .sc), (.cell 8 2, .sc), (.cell 8 3, .sc), (.slot 10, .sc), (.slot 11, .sc), (.slot 12, .keep), (.slot 13, .keep), (.slot 14, .sc), (.slot 6, .keep)], 0⟩,
 ⟨7, 9, [(.slot 12, .sc), (.slot 13, .sc), (.slot 6, .keep)], 0⟩,
 ⟨8, 9, [(.slot 14, .sc), (.slot 6, .keep)], 0⟩,
 ⟨9, 7, [(.slot 6, .own [.int .u8]), (.slot 7, .sc), (.slot 8, .sc)], 0⟩,
 ⟨12, 7, [(.slot 8, .sc), (.slot 9, .sc)], 0⟩,
 ⟨19, 4, [(.slot 0, .keep), (.slot 3, .sc)], 0⟩,
 ⟨20, 2, [(.slot 18, .sc), (.slot 6, .keep), (.slot 9, .keep)], 0⟩,
 ⟨20, 8, [(.slot 41, .sc), (.slot 6, .keep), (.slot 9, .keep)], 0⟩,
 ⟨20, 15, [(.slot 50, .sc), (.slot 6, .sc)], 0⟩,
 ⟨20, 23, [(.slot 68, .sc)], 0⟩,
 ⟨21, 3, [(.slot 11, .sc), (.slot 6, .keep), (.slot 9, .keep)], 0⟩,
 ⟨21, 8, [(.slot 12, .sc), (.slot 6, .keep), (.slot 9, .keep)], 0⟩,
 ⟨21, 14, [(.slot 13, .sc), (.slot 14, .sc)], 0⟩,
 ⟨21, 20, [(.slot 16, .keep), (.slot 17, .sc)], 0⟩,
 ⟨22, 6, [(.cell 10 0, .win), (.cell 3 0, .sc), (.cell 3 1, .sc), (.cell 3 2, .sc), (.cell 3 3, .sc), (.slot 24, .sc), (.slot 7, .sc), (.slot 8, .sc)], 0⟩,
 ⟨23, 5, [(.cell 3 0, .sc), (.cell 3 1, .sc), (.cell 3 2, .sc), (.cell 3 3, .sc), (.slot 10, .sc), (.slot 11, .sc), (.slot 7, .keep), (.slot 8, .keep), (.slot 9, .sc)], 0⟩]
theorem ok19 : MeetsG Tryd.prog GW (mkCon sig19 pre19 raw19) 19 sig19 := meetsK [] rfl 19 (by kernel_rfl) vc19
noncomputable def pr19 : PrG Tryd.prog GW := ⟨19, sig19, mkCon sig19 pre19 raw19, ok19, ⟨Tryd.f19, Tryd.func19, by kernel_rfl, by kernel_rfl⟩⟩
theorem ok10 : MeetsG Tryd.prog GW (mkCon sig10 pre10 raw10) 10 sig10 := meetsK [pr19] rfl 10 (by kernel_rfl) vc10
noncomputable def pr10 : PrG Tryd.prog GW := ⟨10, sig10, mkCon sig10 pre10 raw10, ok10, ⟨Tryd.f10, Tryd.func10, by kernel_rfl, by kernel_rfl⟩⟩
end Go.Proofs.YtdikdhjfcnocdaaDoor
