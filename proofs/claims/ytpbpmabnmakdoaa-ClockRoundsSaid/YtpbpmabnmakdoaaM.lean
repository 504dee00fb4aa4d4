/- The contracts. -/
import Derived.Test.YtpbpmabnmakdoaaC
import Derived.Test.YtpbpmabnmakdoaaP
namespace Go.Proofs.Ytpbpmabnmakdoaa
open Go Go.RowKit Go.Proofs.Ytpbpmabnmakdoaa.Vc
def loopsA : List LA := [⟨3, 4, [(.slot 6, .keep), (.slot 7, .sc)], 0⟩,
 ⟨9, 10, [(.slot 10, .sc), (.slot 11, .sc), (.slot 4, .keep), (.slot 9, .sc)], 0⟩,
 ⟨9, 13, [(.slot 13, .sc), (.slot 14, .sc)], 0⟩,
 ⟨9, 23, [(.slot 12, .sc), (.slot 16, .sc), (.slot 4, .keep)], 0⟩,
 ⟨10, 2, [(.slot 19, .sc), (.slot 6, .keep), (.slot 7, .keep)], 0⟩,
 ⟨10, 12, [(.slot 55, .sc), (.slot 6, .own [.int .i64, .int .i64]), (.slot 7, .sc)], 0⟩,
 ⟨10, 16, [(.slot 14, .sc), (.slot 68, .sc)], 0⟩,
 ⟨11, 2, [(.slot 6, .keep), (.slot 7, .keep), (.slot 8, .sc)], 0⟩,
 ⟨11, 9, [(.slot 6, .keep), (.slot 7, .keep), (.slot 9, .sc)], 0⟩,
 ⟨11, 12, [(.slot 10, .sc), (.slot 6, .keep), (.slot 7, .keep)], 0⟩,
 ⟨11, 18, [(.slot 11, .own [.int .i64, .int .i64]), (.slot 12, .sc), (.slot 6, .keep), (.slot 7, .keep)], 0⟩,
 ⟨11, 22, [(.cell 13 0, .sc), (.cell 13 1, .sc), (.slot 14, .sc)], 0⟩,
 ⟨12, 4, [(.slot 4, .keep), (.slot 5, .sc)], 0⟩,
 ⟨18, 8, [(.slot 12, .sc)], 0⟩,
 ⟨18, 11, [(.slot 13, .sc), (.slot 14, .sc)], 0⟩,
 ⟨34, 2, [(.slot 5, .sc), (.slot 6, .sc)], 0⟩,
 ⟨36, 5, [(.slot 2, .keep), (.slot 23, .sc), (.slot 3, .sc)], 0⟩,
 ⟨43, 2, [(.slot 4, .keep), (.slot 8, .sc)], 0⟩,
 ⟨44, 2, [(.slot 4, .keep), (.slot 8, .sc)], 0⟩]
theorem ok19 : Meets Try.prog (mkCon sig19 pre19 raw19) 19 sig19 := meets [] loopsA rfl 19 (by kernel_rfl) vc19
noncomputable def pr19 : Pr Try.prog := ⟨19, sig19, mkCon sig19 pre19 raw19, ok19, ⟨Try.f19, Try.func19, by kernel_rfl, by kernel_rfl⟩⟩
theorem ok33 : Meets Try.prog (mkCon sig33 pre33 raw33) 33 sig33 := meets [pr19] loopsA rfl 33 (by kernel_rfl) vc33
noncomputable def pr33 : Pr Try.prog := ⟨33, sig33, mkCon sig33 pre33 raw33, ok33, ⟨Try.f33, Try.func33, by kernel_rfl, by kernel_rfl⟩⟩
theorem ok27 : Meets Try.prog (mkCon sig27 pre27 raw27) 27 sig27 := meets [pr19, pr33] loopsA rfl 27 (by kernel_rfl) vc27
noncomputable def pr27 : Pr Try.prog := ⟨27, sig27, mkCon sig27 pre27 raw27, ok27, ⟨Try.f27, Try.func27, by kernel_rfl, by kernel_rfl⟩⟩
theorem ok28 : Meets Try.prog (mkCon sig28 pre28 raw28) 28 sig28 := meets [pr19, pr33, pr27] loopsA rfl 28 (by kernel_rfl) vc28
noncomputable def pr28 : Pr Try.prog := ⟨28, sig28, mkCon sig28 pre28 raw28, ok28, ⟨Try.f28, Try.func28, by kernel_rfl, by kernel_rfl⟩⟩
theorem ok10 : Meets Try.prog (mkCon sig10 pre10 raw10) 10 sig10 := meets [pr19, pr33, pr27, pr28] loopsA rfl 10 (by kernel_rfl) vc10
noncomputable def pr10 : Pr Try.prog := ⟨10, sig10, mkCon sig10 pre10 raw10, ok10, ⟨Try.f10, Try.func10, by kernel_rfl, by kernel_rfl⟩⟩
theorem ok20 : Meets Try.prog (mkCon sig20 pre20 raw20) 20 sig20 := meets [pr19, pr33, pr27, pr28, pr10] loopsA rfl 20 (by kernel_rfl) vc20
noncomputable def pr20 : Pr Try.prog := ⟨20, sig20, mkCon sig20 pre20 raw20, ok20, ⟨Try.f20, Try.func20, by kernel_rfl, by kernel_rfl⟩⟩
theorem ok30 : Meets Try.prog (mkCon sig30 pre30 raw30) 30 sig30 := meets [pr19, pr33, pr27, pr28, pr10, pr20] loopsA rfl 30 (by kernel_rfl) vc30
noncomputable def pr30 : Pr Try.prog := ⟨30, sig30, mkCon sig30 pre30 raw30, ok30, ⟨Try.f30, Try.func30, by kernel_rfl, by kernel_rfl⟩⟩
theorem ok29 : Meets Try.prog (mkCon sig29 pre29 raw29) 29 sig29 := meets [pr19, pr33, pr27, pr28, pr10, pr20, pr30] loopsA rfl 29 (by kernel_rfl) vc29
noncomputable def pr29 : Pr Try.prog := ⟨29, sig29, mkCon sig29 pre29 raw29, ok29, ⟨Try.f29, Try.func29, by kernel_rfl, by kernel_rfl⟩⟩
theorem ok11 : Meets Try.prog (mkCon sig11 pre11 raw11) 11 sig11 := meets [pr19, pr33, pr27, pr28, pr10, pr20, pr30, pr29] loopsA rfl 11 (by kernel_rfl) vc11
noncomputable def pr11 : Pr Try.prog := ⟨11, sig11, mkCon sig11 pre11 raw11, ok11, ⟨Try.f11, Try.func11, by kernel_rfl, by kernel_rfl⟩⟩
theorem ok12 : Meets Try.prog (mkCon sig12 pre12 raw12) 12 sig12 := meets [pr19, pr33, pr27, pr28, pr10, pr20, pr30, pr29, pr11] loopsA rfl 12 (by kernel_rfl) vc12
noncomputable def pr12 : Pr Try.prog := ⟨12, sig12, mkCon sig12 pre12 raw12, ok12, ⟨Try.f12, Try.func12, by kernel_rfl, by kernel_rfl⟩⟩
theorem ok3 : Meets Try.prog (mkCon sig3 pre3 raw3) 3 sig3 := meets [pr19, pr33, pr27, pr28, pr10, pr20, pr30, pr29, pr11, pr12] loopsA rfl 3 (by kernel_rfl) vc3
noncomputable def pr3 : Pr Try.prog := ⟨3, sig3, mkCon sig3 pre3 raw3, ok3, ⟨Try.f3, Try.func3, by kernel_rfl, by kernel_rfl⟩⟩
end Go.Proofs.Ytpbpmabnmakdoaa
