/- The contracts. -/
import Derived.Test.YtiiebpfifkaleaaP2
import Derived.Test.YtiiebpfifkaleaaH
set_option maxRecDepth 100000
namespace Go.Proofs.Ytiiebpfifkaleaa
open Go Go.RowKit Go.Proofs.Ytiiebpfifkaleaa.Vc
def loopsA : List LA := [⟨4, 10, [], 3⟩,
 ⟨4, 13, [(.cell 22 0, .arr), (.slot 23, .sc)], 0⟩,
 ⟨4, 17, [(.cell 87 1, .marr [.int .i64]), (.slot 24, .sc)], 0⟩,
 ⟨4, 20, [(.cell 99 1, .marr [.int .i64]), (.slot 25, .sc)], 0⟩,
 ⟨11, 2, [(.slot 18, .sc), (.slot 8, .keep), (.slot 9, .keep)], 0⟩,
 ⟨15, 4, [(.slot 2, .keep), (.slot 3, .sc)], 0⟩,
 ⟨16, 3, [(.cell 3 1, .mo [.int .i64]), (.slot 4, .sc)], 0⟩,
 ⟨21, 4, [(.slot 4, .keep), (.slot 5, .sc)], 0⟩,
 ⟨21, 9, [(.slot 4, .keep), (.slot 6, .sc)], 0⟩,
 ⟨22, 7, [(.slot 0, .keep), (.slot 10, .sc)], 0⟩,
 ⟨25, 4, [(.slot 12, .sc), (.slot 2, .keep)], 0⟩,
 ⟨25, 7, [(.slot 19, .sc), (.slot 2, .keep)], 0⟩,
 ⟨28, 5, [(.slot 18, .sc), (.slot 4, .own [.int .i64])], 0⟩,
 ⟨29, 6, [(.slot 7, .own [.int .i64]), (.slot 8, .sc)], 0⟩,
 ⟨30, 7, [(.slot 2, .keep), (.slot 35, .sc)], 0⟩,
 ⟨31, 5, [(.slot 2, .keep), (.slot 4, .sc)], 0⟩,
 ⟨31, 14, [(.slot 2, .keep), (.slot 5, .sc)], 0⟩,
 ⟨31, 19, [(.slot 2, .keep), (.slot 6, .sc)], 0⟩,
 ⟨32, 4, [(.slot 2, .keep), (.slot 3, .sc)], 0⟩,
 ⟨32, 7, [(.slot 2, .keep), (.slot 4, .sc)], 0⟩,
 ⟨33, 4, [(.slot 4, .keep), (.slot 5, .sc)], 0⟩,
 ⟨39, 2, [(.slot 3, .sc), (.slot 4, .sc)], 0⟩,
 ⟨41, 3, [(.slot 4, .sc), (.slot 5, .sc)], 0⟩,
 ⟨42, 6, [(.cell 9 1, .mo [.int .i64]), (.slot 27, .sc)], 0⟩,
 ⟨58, 2, [(.slot 5, .sc), (.slot 6, .sc)], 0⟩,
 ⟨63, 2, [(.slot 4, .keep), (.slot 8, .sc)], 0⟩,
 ⟨64, 2, [(.slot 4, .keep), (.slot 8, .sc)], 0⟩]
noncomputable def pr11 : Pr Try.prog := ⟨11, sig11, mkCon sig11 pre11 raw11, ok11, ⟨Try.f11, Try.func11, by kernel_rfl, by kernel_rfl⟩⟩
noncomputable def pr13 : Pr Try.prog := ⟨13, sig13, mkCon sig13 pre13 raw13, ok13, ⟨Try.f13, Try.func13, by kernel_rfl, by kernel_rfl⟩⟩
theorem ok36 : Meets Try.prog (mkCon sig36 pre36 raw36) 36 sig36 := meets [] loopsA rfl 36 (by kernel_rfl) (vh36 vc36)
noncomputable def pr36 : Pr Try.prog := ⟨36, sig36, mkCon sig36 pre36 raw36, ok36, ⟨Try.f36, Try.func36, by kernel_rfl, by kernel_rfl⟩⟩
theorem ok54 : Meets Try.prog (mkCon sig54 pre54 raw54) 54 sig54 := meets [pr36] loopsA rfl 54 (by kernel_rfl) (vh54 vc54)
noncomputable def pr54 : Pr Try.prog := ⟨54, sig54, mkCon sig54 pre54 raw54, ok54, ⟨Try.f54, Try.func54, by kernel_rfl, by kernel_rfl⟩⟩
theorem ok30 : Meets Try.prog (mkCon sig30 pre30 raw30) 30 sig30 := meets [pr36, pr54] loopsA rfl 30 (by kernel_rfl) (vh30 vc30)
noncomputable def pr30 : Pr Try.prog := ⟨30, sig30, mkCon sig30 pre30 raw30, ok30, ⟨Try.f30, Try.func30, by kernel_rfl, by kernel_rfl⟩⟩
theorem ok62 : Meets Try.prog (mkCon sig62 pre62 raw62) 62 sig62 := meets [pr36] loopsA rfl 62 (by kernel_rfl) (vh62 vc62)
noncomputable def pr62 : Pr Try.prog := ⟨62, sig62, mkCon sig62 pre62 raw62, ok62, ⟨Try.f62, Try.func62, by kernel_rfl, by kernel_rfl⟩⟩
theorem ok48 : Meets Try.prog (mkCon sig48 pre48 raw48) 48 sig48 := meets [pr11, pr13] loopsA rfl 48 (by kernel_rfl) (vh48 vc48)
noncomputable def pr48 : Pr Try.prog := ⟨48, sig48, mkCon sig48 pre48 raw48, ok48, ⟨Try.f48, Try.func48, by kernel_rfl, by kernel_rfl⟩⟩
theorem ok47 : Meets Try.prog (mkCon sig47 pre47 raw47) 47 sig47 := meets [pr30, pr62] loopsA rfl 47 (by kernel_rfl) (vh47 vc47)
noncomputable def pr47 : Pr Try.prog := ⟨47, sig47, mkCon sig47 pre47 raw47, ok47, ⟨Try.f47, Try.func47, by kernel_rfl, by kernel_rfl⟩⟩
theorem ok23 : Meets Try.prog (mkCon sig23 pre23 raw23) 23 sig23 := meets [pr47, pr48] loopsA rfl 23 (by kernel_rfl) (vh23 vc23)
noncomputable def pr23 : Pr Try.prog := ⟨23, sig23, mkCon sig23 pre23 raw23, ok23, ⟨Try.f23, Try.func23, by kernel_rfl, by kernel_rfl⟩⟩
theorem ok49 : Meets Try.prog (mkCon sig49 pre49 raw49) 49 sig49 := meets [pr48] loopsA rfl 49 (by kernel_rfl) (vh49 vc49)
noncomputable def pr49 : Pr Try.prog := ⟨49, sig49, mkCon sig49 pre49 raw49, ok49, ⟨Try.f49, Try.func49, by kernel_rfl, by kernel_rfl⟩⟩
theorem ok24 : Meets Try.prog (mkCon sig24 pre24 raw24) 24 sig24 := meets [pr47, pr49] loopsA rfl 24 (by kernel_rfl) (vh24 vc24)
noncomputable def pr24 : Pr Try.prog := ⟨24, sig24, mkCon sig24 pre24 raw24, ok24, ⟨Try.f24, Try.func24, by kernel_rfl, by kernel_rfl⟩⟩
theorem ok25 : Meets Try.prog (mkCon sig25 pre25 raw25) 25 sig25 := meets [pr30] loopsA rfl 25 (by kernel_rfl) (vh25 vc25)
noncomputable def pr25 : Pr Try.prog := ⟨25, sig25, mkCon sig25 pre25 raw25, ok25, ⟨Try.f25, Try.func25, by kernel_rfl, by kernel_rfl⟩⟩
theorem ok15 : Meets Try.prog (mkCon sig15 pre15 raw15) 15 sig15 := meets [] loopsA rfl 15 (by kernel_rfl) (vh15 vc15)
noncomputable def pr15 : Pr Try.prog := ⟨15, sig15, mkCon sig15 pre15 raw15, ok15, ⟨Try.f15, Try.func15, by kernel_rfl, by kernel_rfl⟩⟩
theorem ok22 : Meets Try.prog (mkCon sig22 pre22 raw22) 22 sig22 := meets [pr11, pr13, pr23, pr24] loopsA rfl 22 (by kernel_rfl) (vh22 vc22)
noncomputable def pr22 : Pr Try.prog := ⟨22, sig22, mkCon sig22 pre22 raw22, ok22, ⟨Try.f22, Try.func22, by kernel_rfl, by kernel_rfl⟩⟩
end Go.Proofs.Ytiiebpfifkaleaa
