/- The contracts. -/
import Derived.Test.YtjlljcencbppcaaP3
set_option maxRecDepth 100000
namespace Go.Proofs.Ytjlljcencbppcaa
open Go Go.RowKit Go.Proofs.Ytjlljcencbppcaa.Vc
def loopsA : List LA := [⟨3, 6, [(.cell 4 0, .own [.int .i64, .int .i64, .int .i64]), (.cell 4 1, .sc), (.cell 4 2, .sc), (.cell 4 3, .sc), (.cell 4 4, .own [.int .i64]), (.cell 4 5, .own [.int .i64]), (.slot 2, .keep), (.slot 5, .sc)], 0⟩,
 ⟨3, 15, [(.slot 2, .keep), (.slot 9, .sc)], 0⟩,
 ⟨4, 7, [(.cell 4 0, .own [.int .i64, .int .i64, .int .i64]), (.cell 4 1, .sc), (.cell 4 2, .sc), (.cell 4 3, .sc), (.cell 4 4, .own [.int .i64]), (.cell 4 5, .own [.int .i64]), (.slot 2, .keep), (.slot 5, .own [.int .i64]), (.slot 6, .own [.int .i64]), (.slot 7, .sc)], 0⟩,
 ⟨4, 23, [(.slot 14, .sc), (.slot 15, .sc), (.slot 2, .keep)], 0⟩,
 ⟨6, 8, [(.slot 11, .sc), (.slot 6, .keep)], 0⟩,
 ⟨6, 13, [(.slot 12, .sc), (.slot 6, .keep)], 0⟩,
 ⟨7, 15, [(.slot 32, .sc), (.slot 33, .sc)], 0⟩,
 ⟨7, 22, [], 6⟩,
 ⟨7, 25, [(.slot 37, .arr), (.slot 38, .sc)], 0⟩,
 ⟨9, 13, [(.cell 2 5, .own [.int .i64]), (.slot 14, .sc)], 0⟩,
 ⟨10, 5, [(.slot 2, .keep), (.slot 3, .sc), (.slot 43, .sc)], 0⟩,
 ⟨12, 7, [(.slot 10, .sc)], 0⟩,
 ⟨16, 4, [(.slot 4, .keep), (.slot 5, .sc)], 0⟩,
 ⟨19, 8, [(.cell 9 0, .own [.int .i64, .int .i64, .int .i64]), (.slot 10, .own [.int .i64, .int .i64, .int .i64]), (.slot 11, .sc)], 0⟩,
 ⟨20, 4, [(.slot 2, .keep), (.slot 3, .sc)], 0⟩]
theorem ok10 : Meets Try.prog (mkCon sig10 pre10 raw10) 10 sig10 := meets [] loopsA rfl 10 (by kernel_rfl) (vh10 vc10)
noncomputable def pr10 : Pr Try.prog := ⟨10, sig10, mkCon sig10 pre10 raw10, ok10, ⟨Try.f10, Try.func10, by kernel_rfl, by kernel_rfl⟩⟩
theorem ok20 : Meets Try.prog (mkCon sig20 pre20 raw20) 20 sig20 := meets [pr10] loopsA rfl 20 (by kernel_rfl) (vh20 vc20)
noncomputable def pr20 : Pr Try.prog := ⟨20, sig20, mkCon sig20 pre20 raw20, ok20, ⟨Try.f20, Try.func20, by kernel_rfl, by kernel_rfl⟩⟩
theorem ok28 : Meets Try.prog (mkCon sig28 pre28 raw28) 28 sig28 := meets [pr10, pr20] loopsA rfl 28 (by kernel_rfl) (vh28 vc28)
noncomputable def pr28 : Pr Try.prog := ⟨28, sig28, mkCon sig28 pre28 raw28, ok28, ⟨Try.f28, Try.func28, by kernel_rfl, by kernel_rfl⟩⟩
theorem ok22 : Meets Try.prog (mkCon sig22 pre22 raw22) 22 sig22 := meets [pr10, pr20, pr28] loopsA rfl 22 (by kernel_rfl) (vh22 vc22)
noncomputable def pr22 : Pr Try.prog := ⟨22, sig22, mkCon sig22 pre22 raw22, ok22, ⟨Try.f22, Try.func22, by kernel_rfl, by kernel_rfl⟩⟩
theorem ok26 : Meets Try.prog (mkCon sig26 pre26 raw26) 26 sig26 := meets [pr10, pr20, pr28, pr22] loopsA rfl 26 (by kernel_rfl) (vh26 vc26)
noncomputable def pr26 : Pr Try.prog := ⟨26, sig26, mkCon sig26 pre26 raw26, ok26, ⟨Try.f26, Try.func26, by kernel_rfl, by kernel_rfl⟩⟩
theorem ok11 : Meets Try.prog (mkCon sig11 pre11 raw11) 11 sig11 := meets [pr10, pr20, pr28, pr22, pr26] loopsA rfl 11 (by kernel_rfl) (vh11 vc11)
noncomputable def pr11 : Pr Try.prog := ⟨11, sig11, mkCon sig11 pre11 raw11, ok11, ⟨Try.f11, Try.func11, by kernel_rfl, by kernel_rfl⟩⟩
theorem ok17 : Meets Try.prog (mkCon sig17 pre17 raw17) 17 sig17 := meets [pr10, pr20, pr28, pr22, pr26, pr11] loopsA rfl 17 (by kernel_rfl) (vh17 vc17)
noncomputable def pr17 : Pr Try.prog := ⟨17, sig17, mkCon sig17 pre17 raw17, ok17, ⟨Try.f17, Try.func17, by kernel_rfl, by kernel_rfl⟩⟩
theorem ok24 : Meets Try.prog (mkCon sig24 pre24 raw24) 24 sig24 := meets [pr10, pr20, pr28, pr22, pr26, pr11, pr17] loopsA rfl 24 (by kernel_rfl) (vh24 vc24)
noncomputable def pr24 : Pr Try.prog := ⟨24, sig24, mkCon sig24 pre24 raw24, ok24, ⟨Try.f24, Try.func24, by kernel_rfl, by kernel_rfl⟩⟩
theorem ok13 : Meets Try.prog (mkCon sig13 pre13 raw13) 13 sig13 := meets [pr10, pr20, pr28, pr22, pr26, pr11, pr17, pr24] loopsA rfl 13 (by kernel_rfl) (vh13 vc13)
noncomputable def pr13 : Pr Try.prog := ⟨13, sig13, mkCon sig13 pre13 raw13, ok13, ⟨Try.f13, Try.func13, by kernel_rfl, by kernel_rfl⟩⟩
theorem ok18 : Meets Try.prog (mkCon sig18 pre18 raw18) 18 sig18 := meets [pr10, pr20, pr28, pr22, pr26, pr11, pr17, pr24, pr13] loopsA rfl 18 (by kernel_rfl) (vh18 vc18)
noncomputable def pr18 : Pr Try.prog := ⟨18, sig18, mkCon sig18 pre18 raw18, ok18, ⟨Try.f18, Try.func18, by kernel_rfl, by kernel_rfl⟩⟩
theorem ok12 : Meets Try.prog (mkCon sig12 pre12 raw12) 12 sig12 := meets [pr10, pr20, pr28, pr22, pr26, pr11, pr17, pr24, pr13, pr18] loopsA rfl 12 (by kernel_rfl) (vh12 vc12)
noncomputable def pr12 : Pr Try.prog := ⟨12, sig12, mkCon sig12 pre12 raw12, ok12, ⟨Try.f12, Try.func12, by kernel_rfl, by kernel_rfl⟩⟩
theorem ok19 : Meets Try.prog (mkCon sig19 pre19 raw19) 19 sig19 := meets [pr10, pr20, pr28, pr22, pr26, pr11, pr17, pr24, pr13, pr18, pr12] loopsA rfl 19 (by kernel_rfl) (vh19 vc19)
noncomputable def pr19 : Pr Try.prog := ⟨19, sig19, mkCon sig19 pre19 raw19, ok19, ⟨Try.f19, Try.func19, by kernel_rfl, by kernel_rfl⟩⟩
theorem ok16 : Meets Try.prog (mkCon sig16 pre16 raw16) 16 sig16 := meets [pr10, pr20, pr28, pr22, pr26, pr11, pr17, pr24, pr13, pr18, pr12, pr19] loopsA rfl 16 (by kernel_rfl) (vh16 vc16)
noncomputable def pr16 : Pr Try.prog := ⟨16, sig16, mkCon sig16 pre16 raw16, ok16, ⟨Try.f16, Try.func16, by kernel_rfl, by kernel_rfl⟩⟩
theorem ok15 : Meets Try.prog (mkCon sig15 pre15 raw15) 15 sig15 := meets [pr10, pr20, pr28, pr22, pr26, pr11, pr17, pr24, pr13, pr18, pr12, pr19, pr16] loopsA rfl 15 (by kernel_rfl) (vh15 vc15)
noncomputable def pr15 : Pr Try.prog := ⟨15, sig15, mkCon sig15 pre15 raw15, ok15, ⟨Try.f15, Try.func15, by kernel_rfl, by kernel_rfl⟩⟩
theorem ok8 : Meets Try.prog (mkCon sig8 pre8 raw8) 8 sig8 := meets [pr10, pr20, pr28, pr22, pr26, pr11, pr17, pr24, pr13, pr18, pr12, pr19, pr16, pr15] loopsA rfl 8 (by kernel_rfl) (vh8 vc8)
noncomputable def pr8 : Pr Try.prog := ⟨8, sig8, mkCon sig8 pre8 raw8, ok8, ⟨Try.f8, Try.func8, by kernel_rfl, by kernel_rfl⟩⟩
end Go.Proofs.Ytjlljcencbppcaa
