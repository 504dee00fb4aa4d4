/- The contracts. -/
import Derived.Test.YtgdjdaoglkfjdaaP4
import Derived.Test.YtgdjdaoglkfjdaaH
import Derived.Test.YtgdjdaoglkfjdaaH6
set_option maxRecDepth 100000
namespace Go.Proofs.Ytgdjdaoglkfjdaa
open Go Go.RowKit Go.Proofs.Ytgdjdaoglkfjdaa.Vc
def loopsA : List LA := [⟨3, 9, [(.slot 19, .sc), (.slot 20, .sc)], 0⟩,
 ⟨5, 10, [(.slot 10, .sc), (.slot 6, .keep)], 0⟩,
 ⟨5, 13, [(.slot 11, .sc), (.slot 6, .keep)], 0⟩,
 ⟨5, 21, [(.slot 17, .sc), (.slot 6, .keep)], 0⟩,
 ⟨6, 12, [(.slot 14, .sc), (.slot 6, .keep)], 0⟩,
 ⟨6, 17, [(.slot 15, .sc), (.slot 6, .keep)], 0⟩,
 ⟨7, 8, [(.slot 4, .keep), (.slot 8, .sc)], 0⟩,
 ⟨7, 12, [(.slot 10, .sc), (.slot 9, .sc)], 0⟩,
 ⟨7, 20, [(.slot 13, .sc), (.slot 4, .keep)], 0⟩,
 ⟨8, 10, [(.slot 10, .keep), (.slot 14, .sc)], 0⟩,
 ⟨8, 17, [(.slot 17, .sc), (.slot 18, .sc)], 0⟩,
 ⟨13, 8, [(.slot 13, .sc), (.slot 14, .sc)], 0⟩,
 ⟨13, 11, [(.slot 13, .sc), (.slot 14, .sc), (.slot 37, .sc)], 0⟩,
 ⟨14, 8, [(.slot 13, .sc), (.slot 14, .sc)], 0⟩,
 ⟨15, 4, [(.slot 4, .keep), (.slot 5, .sc)], 0⟩,
 ⟨17, 3, [(.slot 5, .own [.int .i64, .int .i64, .int .i64, .int .i64]), (.slot 6, .sc)], 0⟩,
 ⟨20, 7, [(.slot 10, .sc), (.slot 24, .sc), (.slot 9, .mo [.int .i64])], 0⟩,
 ⟨20, 10, [(.slot 10, .sc), (.slot 30, .sc), (.slot 9, .mo [.int .i64])], 0⟩,
 ⟨21, 7, [(.slot 10, .sc), (.slot 11, .sc), (.slot 9, .mo [.int .i64])], 0⟩,
 ⟨21, 11, [(.slot 10, .sc), (.slot 12, .own [.int .i64]), (.slot 13, .sc)], 0⟩,
 ⟨22, 7, [(.slot 19, .sc), (.slot 4, .keep)], 0⟩,
 ⟨23, 7, [(.slot 2, .keep), (.slot 6, .sc)], 0⟩,
 ⟨23, 13, [(.slot 2, .keep), (.slot 7, .keep), (.slot 8, .sc)], 0⟩,
 ⟨24, 4, [(.slot 4, .keep), (.slot 5, .sc)], 0⟩,
 ⟨28, 2, [(.slot 4, .keep), (.slot 5, .sc)], 0⟩,
 ⟨29, 4, [(.slot 4, .keep), (.slot 5, .sc)], 0⟩,
 ⟨30, 5, [(.slot 18, .sc), (.slot 4, .own [.int .i64])], 0⟩,
 ⟨34, 4, [(.slot 2, .keep), (.slot 3, .sc)], 0⟩,
 ⟨40, 2, [(.slot 10, .keep), (.slot 11, .sc)], 0⟩,
 ⟨41, 2, [(.slot 4, .own [.int .i64, .int .i64, .int .i64, .int .i64]), (.slot 9, .sc)], 0⟩,
 ⟨44, 6, [(.slot 11, .sc), (.slot 8, .keep)], 0⟩,
 ⟨45, 7, [(.slot 2, .keep), (.slot 35, .sc)], 0⟩,
 ⟨47, 5, [(.slot 2, .keep), (.slot 4, .sc)], 0⟩,
 ⟨47, 14, [(.slot 2, .keep), (.slot 5, .sc)], 0⟩,
 ⟨47, 19, [(.slot 2, .keep), (.slot 6, .sc)], 0⟩,
 ⟨54, 2, [(.slot 4, .keep), (.slot 8, .sc)], 0⟩,
 ⟨66, 2, [(.slot 18, .sc), (.slot 8, .keep), (.slot 9, .keep)], 0⟩,
 ⟨68, 2, [(.slot 4, .keep), (.slot 8, .sc)], 0⟩,
 ⟨71, 3, [(.slot 4, .sc), (.slot 5, .sc)], 0⟩,
 ⟨72, 2, [(.slot 4, .keep), (.slot 8, .sc)], 0⟩,
 ⟨76, 2, [(.slot 3, .sc), (.slot 4, .sc)], 0⟩,
 ⟨77, 2, [(.slot 5, .sc), (.slot 6, .sc)], 0⟩]
noncomputable def pr66 : Pr Try.prog := ⟨66, sig66, mkCon sig66 pre66 raw66, ok66, ⟨Try.f66, Try.func66, by kernel_rfl, by kernel_rfl⟩⟩
noncomputable def pr67 : Pr Try.prog := ⟨67, sig67, mkCon sig67 pre67 raw67, ok67, ⟨Try.f67, Try.func67, by kernel_rfl, by kernel_rfl⟩⟩
theorem ok63 : Meets Try.prog (mkCon sig63 pre63 raw63) 63 sig63 := meets [] loopsA rfl 63 (by kernel_rfl) (vh63 vc63)
noncomputable def pr63 : Pr Try.prog := ⟨63, sig63, mkCon sig63 pre63 raw63, ok63, ⟨Try.f63, Try.func63, by kernel_rfl, by kernel_rfl⟩⟩
theorem ok61 : Meets Try.prog (mkCon sig61 pre61 raw61) 61 sig61 := meets [pr63] loopsA rfl 61 (by kernel_rfl) (vh61 vc61)
noncomputable def pr61 : Pr Try.prog := ⟨61, sig61, mkCon sig61 pre61 raw61, ok61, ⟨Try.f61, Try.func61, by kernel_rfl, by kernel_rfl⟩⟩
theorem ok45 : Meets Try.prog (mkCon sig45 pre45 raw45) 45 sig45 := meets [pr63, pr61] loopsA rfl 45 (by kernel_rfl) (vh45 vc45)
noncomputable def pr45 : Pr Try.prog := ⟨45, sig45, mkCon sig45 pre45 raw45, ok45, ⟨Try.f45, Try.func45, by kernel_rfl, by kernel_rfl⟩⟩
theorem ok65 : Meets Try.prog (mkCon sig65 pre65 raw65) 65 sig65 := meets [pr63] loopsA rfl 65 (by kernel_rfl) (vh65 vc65)
noncomputable def pr65 : Pr Try.prog := ⟨65, sig65, mkCon sig65 pre65 raw65, ok65, ⟨Try.f65, Try.func65, by kernel_rfl, by kernel_rfl⟩⟩
theorem ok51 : Meets Try.prog (mkCon sig51 pre51 raw51) 51 sig51 := meets [pr66, pr67] loopsA rfl 51 (by kernel_rfl) (vh51 vc51)
noncomputable def pr51 : Pr Try.prog := ⟨51, sig51, mkCon sig51 pre51 raw51, ok51, ⟨Try.f51, Try.func51, by kernel_rfl, by kernel_rfl⟩⟩
theorem ok49 : Meets Try.prog (mkCon sig49 pre49 raw49) 49 sig49 := meets [pr45, pr65] loopsA rfl 49 (by kernel_rfl) (vh49 vc49)
noncomputable def pr49 : Pr Try.prog := ⟨49, sig49, mkCon sig49 pre49 raw49, ok49, ⟨Try.f49, Try.func49, by kernel_rfl, by kernel_rfl⟩⟩
theorem ok27 : Meets Try.prog (mkCon sig27 pre27 raw27) 27 sig27 := meets [pr49, pr51] loopsA rfl 27 (by kernel_rfl) (vh27 vc27)
noncomputable def pr27 : Pr Try.prog := ⟨27, sig27, mkCon sig27 pre27 raw27, ok27, ⟨Try.f27, Try.func27, by kernel_rfl, by kernel_rfl⟩⟩
theorem ok50 : Meets Try.prog (mkCon sig50 pre50 raw50) 50 sig50 := meets [pr51] loopsA rfl 50 (by kernel_rfl) (vh50 vc50)
noncomputable def pr50 : Pr Try.prog := ⟨50, sig50, mkCon sig50 pre50 raw50, ok50, ⟨Try.f50, Try.func50, by kernel_rfl, by kernel_rfl⟩⟩
theorem ok26 : Meets Try.prog (mkCon sig26 pre26 raw26) 26 sig26 := meets [pr49, pr50] loopsA rfl 26 (by kernel_rfl) (vh26 vc26)
noncomputable def pr26 : Pr Try.prog := ⟨26, sig26, mkCon sig26 pre26 raw26, ok26, ⟨Try.f26, Try.func26, by kernel_rfl, by kernel_rfl⟩⟩
theorem ok34 : Meets Try.prog (mkCon sig34 pre34 raw34) 34 sig34 := meets [] loopsA rfl 34 (by kernel_rfl) (vh34 vc34)
noncomputable def pr34 : Pr Try.prog := ⟨34, sig34, mkCon sig34 pre34 raw34, ok34, ⟨Try.f34, Try.func34, by kernel_rfl, by kernel_rfl⟩⟩
noncomputable def pr70 : Pr Try.prog := ⟨70, sig70, mkCon sig70 pre70 raw70, ok70, ⟨Try.f70, Try.func70, by kernel_rfl, by kernel_rfl⟩⟩
noncomputable def pr71 : Pr Try.prog := ⟨71, sig71, mkCon sig71 pre71 raw71, ok71, ⟨Try.f71, Try.func71, by kernel_rfl, by kernel_rfl⟩⟩
theorem ok48 : Meets Try.prog (mkCon sig48 pre48 raw48) 48 sig48 := meets [] loopsA rfl 48 (by kernel_rfl) (vh48 vc48)
noncomputable def pr48 : Pr Try.prog := ⟨48, sig48, mkCon sig48 pre48 raw48, ok48, ⟨Try.f48, Try.func48, by kernel_rfl, by kernel_rfl⟩⟩
theorem ok64 : Meets Try.prog (mkCon sig64 pre64 raw64) 64 sig64 := meets [pr48] loopsA rfl 64 (by kernel_rfl) (vh64 vc64)
noncomputable def pr64 : Pr Try.prog := ⟨64, sig64, mkCon sig64 pre64 raw64, ok64, ⟨Try.f64, Try.func64, by kernel_rfl, by kernel_rfl⟩⟩
theorem ok47 : Meets Try.prog (mkCon sig47 pre47 raw47) 47 sig47 := meets [pr48, pr64] loopsA rfl 47 (by kernel_rfl) (vh47 vc47)
noncomputable def pr47 : Pr Try.prog := ⟨47, sig47, mkCon sig47 pre47 raw47, ok47, ⟨Try.f47, Try.func47, by kernel_rfl, by kernel_rfl⟩⟩
theorem ok58 : Meets Try.prog (mkCon sig58 pre58 raw58) 58 sig58 := meets [pr70, pr71] loopsA rfl 58 (by kernel_rfl) (vh58 vc58)
noncomputable def pr58 : Pr Try.prog := ⟨58, sig58, mkCon sig58 pre58 raw58, ok58, ⟨Try.f58, Try.func58, by kernel_rfl, by kernel_rfl⟩⟩
theorem ok56 : Meets Try.prog (mkCon sig56 pre56 raw56) 56 sig56 := meets [pr58] loopsA rfl 56 (by kernel_rfl) (vh56 vc56)
noncomputable def pr56 : Pr Try.prog := ⟨56, sig56, mkCon sig56 pre56 raw56, ok56, ⟨Try.f56, Try.func56, by kernel_rfl, by kernel_rfl⟩⟩
theorem ok29 : Meets Try.prog (mkCon sig29 pre29 raw29) 29 sig29 := meets [] loopsA rfl 29 (by kernel_rfl) (vh29 vc29)
noncomputable def pr29 : Pr Try.prog := ⟨29, sig29, mkCon sig29 pre29 raw29, ok29, ⟨Try.f29, Try.func29, by kernel_rfl, by kernel_rfl⟩⟩
theorem ok18 : Meets Try.prog (mkCon sig18 pre18 raw18) 18 sig18 := meets [] loopsA rfl 18 (by kernel_rfl) (vh18 vc18)
noncomputable def pr18 : Pr Try.prog := ⟨18, sig18, mkCon sig18 pre18 raw18, ok18, ⟨Try.f18, Try.func18, by kernel_rfl, by kernel_rfl⟩⟩
theorem ok19 : Meets Try.prog (mkCon sig19 pre19 raw19) 19 sig19 := meets [] loopsA rfl 19 (by kernel_rfl) (vh19 vc19)
noncomputable def pr19 : Pr Try.prog := ⟨19, sig19, mkCon sig19 pre19 raw19, ok19, ⟨Try.f19, Try.func19, by kernel_rfl, by kernel_rfl⟩⟩
theorem ok22 : Meets Try.prog (mkCon sig22 pre22 raw22) 22 sig22 := meets [pr45, pr18] loopsA rfl 22 (by kernel_rfl) (vh22 vc22)
noncomputable def pr22 : Pr Try.prog := ⟨22, sig22, mkCon sig22 pre22 raw22, ok22, ⟨Try.f22, Try.func22, by kernel_rfl, by kernel_rfl⟩⟩
theorem ok23 : Meets Try.prog (mkCon sig23 pre23 raw23) 23 sig23 := meets [pr47, pr48, pr19] loopsA rfl 23 (by kernel_rfl) (vh23 vc23)
noncomputable def pr23 : Pr Try.prog := ⟨23, sig23, mkCon sig23 pre23 raw23, ok23, ⟨Try.f23, Try.func23, by kernel_rfl, by kernel_rfl⟩⟩
theorem ok35 : Meets Try.prog (mkCon sig35 pre35 raw35) 35 sig35 := meets [pr22] loopsA rfl 35 (by kernel_rfl) (vh35 vc35)
noncomputable def pr35 : Pr Try.prog := ⟨35, sig35, mkCon sig35 pre35 raw35, ok35, ⟨Try.f35, Try.func35, by kernel_rfl, by kernel_rfl⟩⟩
theorem ok39 : Meets Try.prog (mkCon sig39 pre39 raw39) 39 sig39 := meets [pr23, pr48] loopsA rfl 39 (by kernel_rfl) (vh39 vc39)
noncomputable def pr39 : Pr Try.prog := ⟨39, sig39, mkCon sig39 pre39 raw39, ok39, ⟨Try.f39, Try.func39, by kernel_rfl, by kernel_rfl⟩⟩
theorem ok37 : Meets Try.prog (mkCon sig37 pre37 raw37) 37 sig37 := meets [pr26] loopsA rfl 37 (by kernel_rfl) (vh37 vc37)
noncomputable def pr37 : Pr Try.prog := ⟨37, sig37, mkCon sig37 pre37 raw37, ok37, ⟨Try.f37, Try.func37, by kernel_rfl, by kernel_rfl⟩⟩
theorem ok40 : Meets Try.prog (mkCon sig40 pre40 raw40) 40 sig40 := meets [pr56] loopsA rfl 40 (by kernel_rfl) (vh40 vc40)
noncomputable def pr40 : Pr Try.prog := ⟨40, sig40, mkCon sig40 pre40 raw40, ok40, ⟨Try.f40, Try.func40, by kernel_rfl, by kernel_rfl⟩⟩
theorem ok11 : Meets Try.prog (mkCon sig11 pre11 raw11) 11 sig11 := meets [pr35, pr37] loopsA rfl 11 (by kernel_rfl) (vh11 vc11)
noncomputable def pr11 : Pr Try.prog := ⟨11, sig11, mkCon sig11 pre11 raw11, ok11, ⟨Try.f11, Try.func11, by kernel_rfl, by kernel_rfl⟩⟩
theorem ok12 : Meets Try.prog (mkCon sig12 pre12 raw12) 12 sig12 := meets [pr39, pr40] loopsA rfl 12 (by kernel_rfl) (vh12 vc12)
noncomputable def pr12 : Pr Try.prog := ⟨12, sig12, mkCon sig12 pre12 raw12, ok12, ⟨Try.f12, Try.func12, by kernel_rfl, by kernel_rfl⟩⟩
theorem ok13 : Meets Try.prog (mkCon sig13 pre13 raw13) 13 sig13 := meets [pr35, pr37] loopsA rfl 13 (by kernel_rfl) (vh13 vc13)
noncomputable def pr13 : Pr Try.prog := ⟨13, sig13, mkCon sig13 pre13 raw13, ok13, ⟨Try.f13, Try.func13, by kernel_rfl, by kernel_rfl⟩⟩
theorem ok14 : Meets Try.prog (mkCon sig14 pre14 raw14) 14 sig14 := meets [pr39, pr40] loopsA rfl 14 (by kernel_rfl) (vh14 vc14)
noncomputable def pr14 : Pr Try.prog := ⟨14, sig14, mkCon sig14 pre14 raw14, ok14, ⟨Try.f14, Try.func14, by kernel_rfl, by kernel_rfl⟩⟩
theorem ok16 : Meets Try.prog (mkCon sig16 pre16 raw16) 16 sig16 := meets [] loopsA rfl 16 (by kernel_rfl) (vh16 vc16)
noncomputable def pr16 : Pr Try.prog := ⟨16, sig16, mkCon sig16 pre16 raw16, ok16, ⟨Try.f16, Try.func16, by kernel_rfl, by kernel_rfl⟩⟩
theorem ok17 : Meets Try.prog (mkCon sig17 pre17 raw17) 17 sig17 := meets [] loopsA rfl 17 (by kernel_rfl) (vh17 vc17)
noncomputable def pr17 : Pr Try.prog := ⟨17, sig17, mkCon sig17 pre17 raw17, ok17, ⟨Try.f17, Try.func17, by kernel_rfl, by kernel_rfl⟩⟩
theorem ok15 : Meets Try.prog (mkCon sig15 pre15 raw15) 15 sig15 := meets [] loopsA rfl 15 (by kernel_rfl) (vh15 vc15)
noncomputable def pr15 : Pr Try.prog := ⟨15, sig15, mkCon sig15 pre15 raw15, ok15, ⟨Try.f15, Try.func15, by kernel_rfl, by kernel_rfl⟩⟩
theorem ok10 : Meets Try.prog (mkCon sig10 pre10 raw10) 10 sig10 := meets [pr34] loopsA rfl 10 (by kernel_rfl) (vh10 vc10)
noncomputable def pr10 : Pr Try.prog := ⟨10, sig10, mkCon sig10 pre10 raw10, ok10, ⟨Try.f10, Try.func10, by kernel_rfl, by kernel_rfl⟩⟩
end Go.Proofs.Ytgdjdaoglkfjdaa
