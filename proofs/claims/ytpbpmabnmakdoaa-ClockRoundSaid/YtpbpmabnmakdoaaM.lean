/- The contracts. -/
import Derived.Test.YtpbpmabnmakdoaaP
set_option maxRecDepth 100000
namespace Go.Proofs.Ytpbpmabnmakdoaa
open Go Go.RowKit Go.Proofs.Ytpbpmabnmakdoaa.Vc
def loopsA : List LA := [⟨3, 4, [(.slot 6, .keep), (.slot 7, .sc)], 0⟩,
 ⟨8, 9, [(.slot 12, .mo [.int .i64]), (.slot 13, .sc), (.slot 8, .keep)], 0⟩,
 ⟨8, 22, [(.slot 18, .sc), (.slot 19, .sc), (.slot 20, .sc), (.slot 8, .keep)], 0⟩,
 ⟨9, 10, [(.slot 10, .sc), (.slot 11, .sc), (.slot 4, .keep), (.slot 9, .sc)], 0⟩,
 ⟨9, 13, [(.slot 13, .sc), (.slot 14, .sc)], 0⟩,
 ⟨9, 23, [(.slot 12, .sc), (.slot 16, .sc), (.slot 4, .keep)], 0⟩,
 ⟨10, 2, [(.slot 19, .sc), (.slot 6, .keep), (.slot 7, .keep)], 0⟩,
 ⟨10, 12, [(.slot 55, .sc), (.slot 6, .own [.int .i64, .int .i64]), (.slot 7, .sc)], 0⟩,
 ⟨10, 16, [(.slot 14, .sc), (.slot 68, .sc)], 0⟩,
 ⟨11, 2, [(.slot 6, .keep), (.slot 7, .keep), (.slot 8, .sc)], 0⟩,
 ⟨11, 9, [(.slot 6, .keep), (.slot 7, .keep), (.slot 9, .sc)], 0⟩,
 ⟨11, 12, [(.slot 10, .sc), (.slot 6, .keep), (.slot 7, .keep)], 0⟩,
 ⟨11, 18, [(.slot 11, .own [.int .i64, .int .i64]), (.slot 12, .sc), (.slot 6, .keep), (.slot 7, .keep)], 0⟩,
 ⟨11, 22, [(.cell 13 0, .sc), (.cell 13 1, .sc), (.slot 14, .sc)], 0⟩,
 ⟨12, 4, [(.slot 4, .keep), (.slot 5, .sc)], 0⟩,
 ⟨18, 8, [(.slot 12, .sc)], 0⟩,
 ⟨18, 11, [(.slot 13, .sc), (.slot 14, .sc)], 0⟩,
 ⟨34, 2, [(.slot 5, .sc), (.slot 6, .sc)], 0⟩,
 ⟨36, 5, [(.slot 2, .keep), (.slot 23, .sc), (.slot 3, .sc)], 0⟩,
 ⟨43, 2, [(.slot 4, .keep), (.slot 8, .sc)], 0⟩,
 ⟨44, 2, [(.slot 4, .keep), (.slot 8, .sc)], 0⟩,
 ⟨45, 5, [(.slot 0, .arr), (.slot 5, .sc), (.slot 6, .sc), (.slot 8, .arr)], 0⟩,
 ⟨47, 2, [(.slot 0, .arr), (.slot 7, .sc), (.slot 8, .sc)], 0⟩,
 ⟨49, 2, [(.slot 4, .keep), (.slot 8, .sc)], 0⟩,
 ⟨50, 1, [(.slot 0, .arr), (.slot 8, .sc)], 0⟩,
 ⟨50, 4, [(.slot 0, .arr), (.slot 9, .sc)], 0⟩,
 ⟨51, 33, [(.slot 20, .sc), (.slot 21, .sc)], 0⟩]
theorem ok19 : Meets Try.prog (mkCon sig19 pre19 raw19) 19 sig19 := meets [] loopsA rfl 19 (by kernel_rfl) (vh19 vc19)
noncomputable def pr19 : Pr Try.prog := ⟨19, sig19, mkCon sig19 pre19 raw19, ok19, ⟨Try.f19, Try.func19, by kernel_rfl, by kernel_rfl⟩⟩
theorem ok33 : Meets Try.prog (mkCon sig33 pre33 raw33) 33 sig33 := meets [pr19] loopsA rfl 33 (by kernel_rfl) (vh33 vc33)
noncomputable def pr33 : Pr Try.prog := ⟨33, sig33, mkCon sig33 pre33 raw33, ok33, ⟨Try.f33, Try.func33, by kernel_rfl, by kernel_rfl⟩⟩
theorem ok27 : Meets Try.prog (mkCon sig27 pre27 raw27) 27 sig27 := meets [pr19, pr33] loopsA rfl 27 (by kernel_rfl) (vh27 vc27)
noncomputable def pr27 : Pr Try.prog := ⟨27, sig27, mkCon sig27 pre27 raw27, ok27, ⟨Try.f27, Try.func27, by kernel_rfl, by kernel_rfl⟩⟩
theorem ok28 : Meets Try.prog (mkCon sig28 pre28 raw28) 28 sig28 := meets [pr19, pr33, pr27] loopsA rfl 28 (by kernel_rfl) (vh28 vc28)
noncomputable def pr28 : Pr Try.prog := ⟨28, sig28, mkCon sig28 pre28 raw28, ok28, ⟨Try.f28, Try.func28, by kernel_rfl, by kernel_rfl⟩⟩
theorem ok10 : Meets Try.prog (mkCon sig10 pre10 raw10) 10 sig10 := meets [pr19, pr33, pr27, pr28] loopsA rfl 10 (by kernel_rfl) (vh10 vc10)
noncomputable def pr10 : Pr Try.prog := ⟨10, sig10, mkCon sig10 pre10 raw10, ok10, ⟨Try.f10, Try.func10, by kernel_rfl, by kernel_rfl⟩⟩
end Go.Proofs.Ytpbpmabnmakdoaa
