/- The contracts. -/
import Derived.Test.YtakkebjoeceplaaC
import Derived.Test.YtakkebjoeceplaaP3
set_option maxRecDepth 100000
namespace Go.Proofs.Ytakkebjoeceplaa
open Go Go.RowKit Go.Proofs.Ytakkebjoeceplaa.Vc
def loopsA : List LA := [⟨3, 12, [], 3⟩,
 ⟨3, 15, [(.cell 26 0, .arr), (.slot 27, .sc)], 0⟩,
 ⟨5, 9, [(.slot 2, .keep), (.slot 7, .sc)], 0⟩,
 ⟨5, 18, [(.slot 12, .sc), (.slot 2, .keep)], 0⟩,
 ⟨6, 6, [(.cell 28 0, .arr), (.cell 38 0, .arr), (.cell 4 0, .arr), (.cell 54 0, .arr), (.slot 10, .sc)], 0⟩,
 ⟨6, 14, [(.cell 28 0, .own [.int .i64, .int .i64, .int .i64, .int .i64, .bool]), (.cell 28 1, .sc), (.cell 38 0, .own [.int .i64, .int .i64, .int .i64, .int .i64, .bool]), (.cell 38 1, .sc), (.cell 4 0, .own [.int .i64, .int .i64, .int .i64, .int .i64, .bool]), (.cell 4 1, .sc), (.cell 54 0, .own [.int .i64, .int .i64, .int .i64, .int .i64, .bool]), (.cell 54 1, .sc), (.cell 66 0, .own [.int .i64, .int .i64, .int .i64, .int .i64, .bool]), (.cell 66 1, .sc), (.cell 82 0, .own [.int .i64, .int .i64, .int .i64, .int .i64, .bool]), (.cell 82 1, .sc), (.slot 12, .sc), (.slot 14, .sc), (.slot 8, .keep)], 0⟩,
 ⟨7, 10, [(.slot 2, .keep), (.slot 6, .sc)], 0⟩,
 ⟨9, 7, [(.cell 7 0, .sc), (.cell 7 1, .sc), (.cell 7 10, .sc), (.cell 7 11, .sc), (.cell 7 12, .sc), (.cell 7 13, .sc), (.cell 7 14, .sc), (.cell 7 15, .sc), (.cell 7 2, .sc), (.cell 7 3, .sc), (.cell 7 4, .sc), (.cell 7 5, .sc), (.cell 7 6, .sc), (.cell 7 7, .sc), (.cell 7 8, .sc), (.cell 7 9, .sc), (.slot 4, .keep), (.slot 8, .sc)], 0⟩,
 ⟨11, 3, [(.cell 4 0, .own [.int .i64, .int .i64, .int .i64, .int .i64, .bool]), (.slot 9, .sc)], 0⟩,
 ⟨12, 3, [(.cell 4 0, .own [.int .i64, .int .i64, .int .i64, .int .i64, .bool]), (.slot 5, .sc)], 0⟩,
 ⟨15, 8, [(.cell 5 0, .own [.int .i64, .int .i64, .int .i64, .int .i64, .bool]), (.slot 25, .sc)], 0⟩,
 ⟨16, 8, [(.cell 4 0, .arr), (.slot 5, .sc)], 0⟩,
 ⟨17, 4, [(.slot 4, .keep), (.slot 5, .sc)], 0⟩,
 ⟨21, 6, [(.cell 4 0, .sc), (.cell 4 2, .sc), (.cell 4 3, .sc), (.slot 6, .sc)], 0⟩,
 ⟨21, 16, [(.cell 4 1, .sc), (.cell 76 1, .sc), (.cell 78 1, .sc), (.slot 7, .sc)], 0⟩,
 ⟨24, 4, [(.slot 19, .sc), (.slot 2, .keep)], 0⟩,
 ⟨25, 4, [(.slot 2, .keep), (.slot 3, .sc)], 0⟩,
 ⟨33, 3, [(.slot 12, .sc), (.slot 7, .sc)], 0⟩,
 ⟨41, 3, [(.slot 2, .keep), (.slot 8, .sc)], 0⟩]
theorem ok27 : Meets Try.prog (mkCon sig27 pre27 raw27) 27 sig27 := meets [] loopsA rfl 27 (by kernel_rfl) vc27
noncomputable def pr27 : Pr Try.prog := ⟨27, sig27, mkCon sig27 pre27 raw27, ok27, ⟨Try.f27, Try.func27, by kernel_rfl, by kernel_rfl⟩⟩
theorem ok29 : Meets Try.prog (mkCon sig29 pre29 raw29) 29 sig29 := meets [pr27] loopsA rfl 29 (by kernel_rfl) vc29
noncomputable def pr29 : Pr Try.prog := ⟨29, sig29, mkCon sig29 pre29 raw29, ok29, ⟨Try.f29, Try.func29, by kernel_rfl, by kernel_rfl⟩⟩
theorem ok39 : Meets Try.prog (mkCon sig39 pre39 raw39) 39 sig39 := meets [pr27, pr29] loopsA rfl 39 (by kernel_rfl) vc39
noncomputable def pr39 : Pr Try.prog := ⟨39, sig39, mkCon sig39 pre39 raw39, ok39, ⟨Try.f39, Try.func39, by kernel_rfl, by kernel_rfl⟩⟩
theorem ok24 : Meets Try.prog (mkCon sig24 pre24 raw24) 24 sig24 := meets [pr27, pr29, pr39] loopsA rfl 24 (by kernel_rfl) vc24
noncomputable def pr24 : Pr Try.prog := ⟨24, sig24, mkCon sig24 pre24 raw24, ok24, ⟨Try.f24, Try.func24, by kernel_rfl, by kernel_rfl⟩⟩
theorem ok25 : Meets Try.prog (mkCon sig25 pre25 raw25) 25 sig25 := meets [pr27, pr29, pr39, pr24] loopsA rfl 25 (by kernel_rfl) vc25
noncomputable def pr25 : Pr Try.prog := ⟨25, sig25, mkCon sig25 pre25 raw25, ok25, ⟨Try.f25, Try.func25, by kernel_rfl, by kernel_rfl⟩⟩
theorem ok10 : Meets Try.prog (mkCon sig10 pre10 raw10) 10 sig10 := meets [pr27, pr29, pr39, pr24, pr25] loopsA rfl 10 (by kernel_rfl) vc10
noncomputable def pr10 : Pr Try.prog := ⟨10, sig10, mkCon sig10 pre10 raw10, ok10, ⟨Try.f10, Try.func10, by kernel_rfl, by kernel_rfl⟩⟩
theorem ok28 : Meets Try.prog (mkCon sig28 pre28 raw28) 28 sig28 := meets [pr27, pr29, pr39, pr24, pr25, pr10] loopsA rfl 28 (by kernel_rfl) vc28
noncomputable def pr28 : Pr Try.prog := ⟨28, sig28, mkCon sig28 pre28 raw28, ok28, ⟨Try.f28, Try.func28, by kernel_rfl, by kernel_rfl⟩⟩
theorem ok11 : Meets Try.prog (mkCon sig11 pre11 raw11) 11 sig11 := meets [pr27, pr29, pr39, pr24, pr25, pr10, pr28] loopsA rfl 11 (by kernel_rfl) vc11
noncomputable def pr11 : Pr Try.prog := ⟨11, sig11, mkCon sig11 pre11 raw11, ok11, ⟨Try.f11, Try.func11, by kernel_rfl, by kernel_rfl⟩⟩
theorem ok12 : Meets Try.prog (mkCon sig12 pre12 raw12) 12 sig12 := meets [pr27, pr29, pr39, pr24, pr25, pr10, pr28, pr11] loopsA rfl 12 (by kernel_rfl) vc12
noncomputable def pr12 : Pr Try.prog := ⟨12, sig12, mkCon sig12 pre12 raw12, ok12, ⟨Try.f12, Try.func12, by kernel_rfl, by kernel_rfl⟩⟩
theorem ok13 : Meets Try.prog (mkCon sig13 pre13 raw13) 13 sig13 := meets [pr27, pr29, pr39, pr24, pr25, pr10, pr28, pr11, pr12] loopsA rfl 13 (by kernel_rfl) vc13
noncomputable def pr13 : Pr Try.prog := ⟨13, sig13, mkCon sig13 pre13 raw13, ok13, ⟨Try.f13, Try.func13, by kernel_rfl, by kernel_rfl⟩⟩
theorem ok14 : Meets Try.prog (mkCon sig14 pre14 raw14) 14 sig14 := meets [pr27, pr29, pr39, pr24, pr25, pr10, pr28, pr11, pr12, pr13] loopsA rfl 14 (by kernel_rfl) vc14
noncomputable def pr14 : Pr Try.prog := ⟨14, sig14, mkCon sig14 pre14 raw14, ok14, ⟨Try.f14, Try.func14, by kernel_rfl, by kernel_rfl⟩⟩
theorem ok30 : Meets Try.prog (mkCon sig30 pre30 raw30) 30 sig30 := meets [pr27, pr29, pr39, pr24, pr25, pr10, pr28, pr11, pr12, pr13, pr14] loopsA rfl 30 (by kernel_rfl) vc30
noncomputable def pr30 : Pr Try.prog := ⟨30, sig30, mkCon sig30 pre30 raw30, ok30, ⟨Try.f30, Try.func30, by kernel_rfl, by kernel_rfl⟩⟩
theorem ok15 : Meets Try.prog (mkCon sig15 pre15 raw15) 15 sig15 := meets [pr27, pr29, pr39, pr24, pr25, pr10, pr28, pr11, pr12, pr13, pr14, pr30] loopsA rfl 15 (by kernel_rfl) vc15
noncomputable def pr15 : Pr Try.prog := ⟨15, sig15, mkCon sig15 pre15 raw15, ok15, ⟨Try.f15, Try.func15, by kernel_rfl, by kernel_rfl⟩⟩
theorem ok16 : Meets Try.prog (mkCon sig16 pre16 raw16) 16 sig16 := meets [pr27, pr29, pr39, pr24, pr25, pr10, pr28, pr11, pr12, pr13, pr14, pr30, pr15] loopsA rfl 16 (by kernel_rfl) vc16
noncomputable def pr16 : Pr Try.prog := ⟨16, sig16, mkCon sig16 pre16 raw16, ok16, ⟨Try.f16, Try.func16, by kernel_rfl, by kernel_rfl⟩⟩
theorem ok17 : Meets Try.prog (mkCon sig17 pre17 raw17) 17 sig17 := meets [pr27, pr29, pr39, pr24, pr25, pr10, pr28, pr11, pr12, pr13, pr14, pr30, pr15, pr16] loopsA rfl 17 (by kernel_rfl) vc17
noncomputable def pr17 : Pr Try.prog := ⟨17, sig17, mkCon sig17 pre17 raw17, ok17, ⟨Try.f17, Try.func17, by kernel_rfl, by kernel_rfl⟩⟩
theorem ok3 : Meets Try.prog (mkCon sig3 pre3 raw3) 3 sig3 := meets [pr27, pr29, pr39, pr24, pr25, pr10, pr28, pr11, pr12, pr13, pr14, pr30, pr15, pr16, pr17] loopsA rfl 3 (by kernel_rfl) vc3
noncomputable def pr3 : Pr Try.prog := ⟨3, sig3, mkCon sig3 pre3 raw3, ok3, ⟨Try.f3, Try.func3, by kernel_rfl, by kernel_rfl⟩⟩
theorem ok31 : Meets Try.prog (mkCon sig31 pre31 raw31) 31 sig31 := meets [pr27, pr29, pr39, pr24, pr25, pr10, pr28, pr11, pr12, pr13, pr14, pr30, pr15, pr16, pr17, pr3] loopsA rfl 31 (by kernel_rfl) vc31
noncomputable def pr31 : Pr Try.prog := ⟨31, sig31, mkCon sig31 pre31 raw31, ok31, ⟨Try.f31, Try.func31, by kernel_rfl, by kernel_rfl⟩⟩
theorem ok32 : Meets Try.prog (mkCon sig32 pre32 raw32) 32 sig32 := meets [pr27, pr29, pr39, pr24, pr25, pr10, pr28, pr11, pr12, pr13, pr14, pr30, pr15, pr16, pr17, pr3, pr31] loopsA rfl 32 (by kernel_rfl) vc32
noncomputable def pr32 : Pr Try.prog := ⟨32, sig32, mkCon sig32 pre32 raw32, ok32, ⟨Try.f32, Try.func32, by kernel_rfl, by kernel_rfl⟩⟩
theorem ok18 : Meets Try.prog (mkCon sig18 pre18 raw18) 18 sig18 := meets [pr27, pr29, pr39, pr24, pr25, pr10, pr28, pr11, pr12, pr13, pr14, pr30, pr15, pr16, pr17, pr3, pr31, pr32] loopsA rfl 18 (by kernel_rfl) vc18
noncomputable def pr18 : Pr Try.prog := ⟨18, sig18, mkCon sig18 pre18 raw18, ok18, ⟨Try.f18, Try.func18, by kernel_rfl, by kernel_rfl⟩⟩
theorem ok19 : Meets Try.prog (mkCon sig19 pre19 raw19) 19 sig19 := meets [pr27, pr29, pr39, pr24, pr25, pr10, pr28, pr11, pr12, pr13, pr14, pr30, pr15, pr16, pr17, pr3, pr31, pr32, pr18] loopsA rfl 19 (by kernel_rfl) vc19
noncomputable def pr19 : Pr Try.prog := ⟨19, sig19, mkCon sig19 pre19 raw19, ok19, ⟨Try.f19, Try.func19, by kernel_rfl, by kernel_rfl⟩⟩
theorem ok37 : Meets Try.prog (mkCon sig37 pre37 raw37) 37 sig37 := meets [pr27, pr29, pr39, pr24, pr25, pr10, pr28, pr11, pr12, pr13, pr14, pr30, pr15, pr16, pr17, pr3, pr31, pr32, pr18, pr19] loopsA rfl 37 (by kernel_rfl) vc37
noncomputable def pr37 : Pr Try.prog := ⟨37, sig37, mkCon sig37 pre37 raw37, ok37, ⟨Try.f37, Try.func37, by kernel_rfl, by kernel_rfl⟩⟩
theorem ok41 : Meets Try.prog (mkCon sig41 pre41 raw41) 41 sig41 := meets [pr27, pr29, pr39, pr24, pr25, pr10, pr28, pr11, pr12, pr13, pr14, pr30, pr15, pr16, pr17, pr3, pr31, pr32, pr18, pr19, pr37] loopsA rfl 41 (by kernel_rfl) vc41
noncomputable def pr41 : Pr Try.prog := ⟨41, sig41, mkCon sig41 pre41 raw41, ok41, ⟨Try.f41, Try.func41, by kernel_rfl, by kernel_rfl⟩⟩
theorem ok20 : Meets Try.prog (mkCon sig20 pre20 raw20) 20 sig20 := meets [pr27, pr29, pr39, pr24, pr25, pr10, pr28, pr11, pr12, pr13, pr14, pr30, pr15, pr16, pr17, pr3, pr31, pr32, pr18, pr19, pr37, pr41] loopsA rfl 20 (by kernel_rfl) vc20
noncomputable def pr20 : Pr Try.prog := ⟨20, sig20, mkCon sig20 pre20 raw20, ok20, ⟨Try.f20, Try.func20, by kernel_rfl, by kernel_rfl⟩⟩
theorem ok38 : Meets Try.prog (mkCon sig38 pre38 raw38) 38 sig38 := meets [pr27, pr29, pr39, pr24, pr25, pr10, pr28, pr11, pr12, pr13, pr14, pr30, pr15, pr16, pr17, pr3, pr31, pr32, pr18, pr19, pr37, pr41, pr20] loopsA rfl 38 (by kernel_rfl) vc38
noncomputable def pr38 : Pr Try.prog := ⟨38, sig38, mkCon sig38 pre38 raw38, ok38, ⟨Try.f38, Try.func38, by kernel_rfl, by kernel_rfl⟩⟩
theorem ok21 : Meets Try.prog (mkCon sig21 pre21 raw21) 21 sig21 := meets [pr27, pr29, pr39, pr24, pr25, pr10, pr28, pr11, pr12, pr13, pr14, pr30, pr15, pr16, pr17, pr3, pr31, pr32, pr18, pr19, pr37, pr41, pr20, pr38] loopsA rfl 21 (by kernel_rfl) vc21
noncomputable def pr21 : Pr Try.prog := ⟨21, sig21, mkCon sig21 pre21 raw21, ok21, ⟨Try.f21, Try.func21, by kernel_rfl, by kernel_rfl⟩⟩
theorem ok22 : Meets Try.prog (mkCon sig22 pre22 raw22) 22 sig22 := meets [pr27, pr29, pr39, pr24, pr25, pr10, pr28, pr11, pr12, pr13, pr14, pr30, pr15, pr16, pr17, pr3, pr31, pr32, pr18, pr19, pr37, pr41, pr20, pr38, pr21] loopsA rfl 22 (by kernel_rfl) vc22
noncomputable def pr22 : Pr Try.prog := ⟨22, sig22, mkCon sig22 pre22 raw22, ok22, ⟨Try.f22, Try.func22, by kernel_rfl, by kernel_rfl⟩⟩
theorem ok23 : Meets Try.prog (mkCon sig23 pre23 raw23) 23 sig23 := meets [pr27, pr29, pr39, pr24, pr25, pr10, pr28, pr11, pr12, pr13, pr14, pr30, pr15, pr16, pr17, pr3, pr31, pr32, pr18, pr19, pr37, pr41, pr20, pr38, pr21, pr22] loopsA rfl 23 (by kernel_rfl) vc23
noncomputable def pr23 : Pr Try.prog := ⟨23, sig23, mkCon sig23 pre23 raw23, ok23, ⟨Try.f23, Try.func23, by kernel_rfl, by kernel_rfl⟩⟩
theorem ok4 : Meets Try.prog (mkCon sig4 pre4 raw4) 4 sig4 := meets [pr27, pr29, pr39, pr24, pr25, pr10, pr28, pr11, pr12, pr13, pr14, pr30, pr15, pr16, pr17, pr3, pr31, pr32, pr18, pr19, pr37, pr41, pr20, pr38, pr21, pr22, pr23] loopsA rfl 4 (by kernel_rfl) vc4
noncomputable def pr4 : Pr Try.prog := ⟨4, sig4, mkCon sig4 pre4 raw4, ok4, ⟨Try.f4, Try.func4, by kernel_rfl, by kernel_rfl⟩⟩
theorem ok26 : Meets Try.prog (mkCon sig26 pre26 raw26) 26 sig26 := meets [pr27, pr29, pr39, pr24, pr25, pr10, pr28, pr11, pr12, pr13, pr14, pr30, pr15, pr16, pr17, pr3, pr31, pr32, pr18, pr19, pr37, pr41, pr20, pr38, pr21, pr22, pr23, pr4] loopsA rfl 26 (by kernel_rfl) vc26
noncomputable def pr26 : Pr Try.prog := ⟨26, sig26, mkCon sig26 pre26 raw26, ok26, ⟨Try.f26, Try.func26, by kernel_rfl, by kernel_rfl⟩⟩
theorem ok5 : Meets Try.prog (mkCon sig5 pre5 raw5) 5 sig5 := meets [pr27, pr29, pr39, pr24, pr25, pr10, pr28, pr11, pr12, pr13, pr14, pr30, pr15, pr16, pr17, pr3, pr31, pr32, pr18, pr19, pr37, pr41, pr20, pr38, pr21, pr22, pr23, pr4, pr26] loopsA rfl 5 (by kernel_rfl) vc5
noncomputable def pr5 : Pr Try.prog := ⟨5, sig5, mkCon sig5 pre5 raw5, ok5, ⟨Try.f5, Try.func5, by kernel_rfl, by kernel_rfl⟩⟩
theorem ok7 : Meets Try.prog (mkCon sig7 pre7 raw7) 7 sig7 := meets [pr27, pr29, pr39, pr24, pr25, pr10, pr28, pr11, pr12, pr13, pr14, pr30, pr15, pr16, pr17, pr3, pr31, pr32, pr18, pr19, pr37, pr41, pr20, pr38, pr21, pr22, pr23, pr4, pr26, pr5] loopsA rfl 7 (by kernel_rfl) vc7
noncomputable def pr7 : Pr Try.prog := ⟨7, sig7, mkCon sig7 pre7 raw7, ok7, ⟨Try.f7, Try.func7, by kernel_rfl, by kernel_rfl⟩⟩
end Go.Proofs.Ytakkebjoeceplaa
