/- The contracts. -/
import Derived.Test.YtdikdhjfcnocdaaDoorP
import Derived.Test.YtdikdhjfcnocdaaDoorP2
set_option maxRecDepth 100000
namespace Go.Proofs.YtdikdhjfcnocdaaDoor
open Go Go.RowKit Go.Proofs.YtdikdhjfcnocdaaDoor.Vc
def loopsA : List LA := [⟨7, 9, [], 5⟩,
 ⟨20, 2, [], 5⟩,
 ⟨20, 15, [], 5⟩,
 ⟨20, 23, [], 5⟩,
 ⟨21, 3, [], 5⟩,
 ⟨21, 8, [], 5⟩,
 ⟨21, 14, [], 5⟩,
 ⟨21, 20, [], 5⟩,
 ⟨5, 9, [(.cell 8 0, .sc), (.cell 8 1, .sc), (.cell 8 2, .sc), (.cell 8 3, .sc), (.slot 10, .sc), (.slot 11, .sc), (.slot 12, .keep), (.slot 13, .keep), (.slot 14, .sc), (.slot 6, .keep)], 0⟩,
 ⟨8, 9, [(.slot 14, .sc), (.slot 6, .keep)], 0⟩,
 ⟨9, 7, [(.slot 6, .own [.int .u8]), (.slot 7, .sc), (.slot 8, .sc)], 0⟩,
 ⟨12, 7, [(.slot 8, .sc), (.slot 9, .sc)], 0⟩,
 ⟨19, 4, [(.slot 0, .keep), (.slot 3, .sc)], 0⟩,
 ⟨20, 8, [(.slot 41, .sc), (.slot 6, .keep), (.slot 9, .keep)], 0⟩,
 ⟨22, 6, [(.cell 10 0, .win), (.cell 3 0, .sc), (.cell 3 1, .sc), (.cell 3 2, .sc), (.cell 3 3, .sc), (.slot 24, .sc), (.slot 7, .sc), (.slot 8, .sc)], 0⟩,
 ⟨23, 5, [(.cell 3 0, .sc), (.cell 3 1, .sc), (.cell 3 2, .sc), (.cell 3 3, .sc), (.slot 10, .sc), (.slot 11, .sc), (.slot 7, .keep), (.slot 8, .keep), (.slot 9, .sc)], 0⟩]
theorem ok24 : MeetsG Tryd.prog GW (mkCon sig24 pre24 raw24) 24 sig24 := meets [] loopsA rfl 24 (by kernel_rfl) vc24
noncomputable def pr24 : PrG Tryd.prog GW := ⟨24, sig24, mkCon sig24 pre24 raw24, ok24, ⟨Tryd.f24, Tryd.func24, by kernel_rfl, by kernel_rfl⟩⟩
theorem ok11 : MeetsG Tryd.prog GW (mkCon sig11 pre11 raw11) 11 sig11 := meets [pr24] loopsA rfl 11 (by kernel_rfl) vc11
noncomputable def pr11 : PrG Tryd.prog GW := ⟨11, sig11, mkCon sig11 pre11 raw11, ok11, ⟨Tryd.f11, Tryd.func11, by kernel_rfl, by kernel_rfl⟩⟩
theorem ok17 : MeetsG Tryd.prog GW (mkCon sig17 pre17 raw17) 17 sig17 := meets [pr11] loopsA rfl 17 (by kernel_rfl) vc17
noncomputable def pr17 : PrG Tryd.prog GW := ⟨17, sig17, mkCon sig17 pre17 raw17, ok17, ⟨Tryd.f17, Tryd.func17, by kernel_rfl, by kernel_rfl⟩⟩
theorem ok25 : MeetsG Tryd.prog GW (mkCon sig25 pre25 raw25) 25 sig25 := meets [] loopsA rfl 25 (by kernel_rfl) vc25
noncomputable def pr25 : PrG Tryd.prog GW := ⟨25, sig25, mkCon sig25 pre25 raw25, ok25, ⟨Tryd.f25, Tryd.func25, by kernel_rfl, by kernel_rfl⟩⟩
theorem ok26 : MeetsG Tryd.prog GW (mkCon sig26 pre26 raw26) 26 sig26 := meets [pr24] loopsA rfl 26 (by kernel_rfl) vc26
noncomputable def pr26 : PrG Tryd.prog GW := ⟨26, sig26, mkCon sig26 pre26 raw26, ok26, ⟨Tryd.f26, Tryd.func26, by kernel_rfl, by kernel_rfl⟩⟩
theorem ok29 : MeetsG Tryd.prog GW (mkCon sig29 pre29 raw29) 29 sig29 := meets [pr26] loopsA rfl 29 (by kernel_rfl) vc29
noncomputable def pr29 : PrG Tryd.prog GW := ⟨29, sig29, mkCon sig29 pre29 raw29, ok29, ⟨Tryd.f29, Tryd.func29, by kernel_rfl, by kernel_rfl⟩⟩
theorem ok15 : MeetsG Tryd.prog GW (mkCon sig15 pre15 raw15) 15 sig15 := meets [pr17, pr25, pr29] loopsA rfl 15 (by kernel_rfl) vc15
noncomputable def pr15 : PrG Tryd.prog GW := ⟨15, sig15, mkCon sig15 pre15 raw15, ok15, ⟨Tryd.f15, Tryd.func15, by kernel_rfl, by kernel_rfl⟩⟩
theorem ok22 : MeetsG Tryd.prog GW (mkCon sig22 pre22 raw22) 22 sig22 := meets [pr17, pr15] loopsA rfl 22 (by kernel_rfl) vc22
noncomputable def pr22 : PrG Tryd.prog GW := ⟨22, sig22, mkCon sig22 pre22 raw22, ok22, ⟨Tryd.f22, Tryd.func22, by kernel_rfl, by kernel_rfl⟩⟩
theorem ok12 : MeetsG Tryd.prog GW (mkCon sig12 pre12 raw12) 12 sig12 := meets [] loopsA rfl 12 (by kernel_rfl) vc12
noncomputable def pr12 : PrG Tryd.prog GW := ⟨12, sig12, mkCon sig12 pre12 raw12, ok12, ⟨Tryd.f12, Tryd.func12, by kernel_rfl, by kernel_rfl⟩⟩
theorem ok18 : MeetsG Tryd.prog GW (mkCon sig18 pre18 raw18) 18 sig18 := meets [pr12] loopsA rfl 18 (by kernel_rfl) vc18
noncomputable def pr18 : PrG Tryd.prog GW := ⟨18, sig18, mkCon sig18 pre18 raw18, ok18, ⟨Tryd.f18, Tryd.func18, by kernel_rfl, by kernel_rfl⟩⟩
theorem ok27 : MeetsG Tryd.prog GW (mkCon sig27 pre27 raw27) 27 sig27 := meets [] loopsA rfl 27 (by kernel_rfl) vc27
noncomputable def pr27 : PrG Tryd.prog GW := ⟨27, sig27, mkCon sig27 pre27 raw27, ok27, ⟨Tryd.f27, Tryd.func27, by kernel_rfl, by kernel_rfl⟩⟩
theorem ok28 : MeetsG Tryd.prog GW (mkCon sig28 pre28 raw28) 28 sig28 := meets [pr12] loopsA rfl 28 (by kernel_rfl) vc28
noncomputable def pr28 : PrG Tryd.prog GW := ⟨28, sig28, mkCon sig28 pre28 raw28, ok28, ⟨Tryd.f28, Tryd.func28, by kernel_rfl, by kernel_rfl⟩⟩
theorem ok30 : MeetsG Tryd.prog GW (mkCon sig30 pre30 raw30) 30 sig30 := meets [pr28] loopsA rfl 30 (by kernel_rfl) vc30
noncomputable def pr30 : PrG Tryd.prog GW := ⟨30, sig30, mkCon sig30 pre30 raw30, ok30, ⟨Tryd.f30, Tryd.func30, by kernel_rfl, by kernel_rfl⟩⟩
theorem ok16 : MeetsG Tryd.prog GW (mkCon sig16 pre16 raw16) 16 sig16 := meets [pr18, pr27, pr28, pr30] loopsA rfl 16 (by kernel_rfl) vc16
noncomputable def pr16 : PrG Tryd.prog GW := ⟨16, sig16, mkCon sig16 pre16 raw16, ok16, ⟨Tryd.f16, Tryd.func16, by kernel_rfl, by kernel_rfl⟩⟩
theorem ok32 : MeetsG Tryd.prog GW (mkCon sig32 pre32 raw32) 32 sig32 := meets [] loopsA rfl 32 (by kernel_rfl) vc32
noncomputable def pr32 : PrG Tryd.prog GW := ⟨32, sig32, mkCon sig32 pre32 raw32, ok32, ⟨Tryd.f32, Tryd.func32, by kernel_rfl, by kernel_rfl⟩⟩
theorem ok23 : MeetsG Tryd.prog GW (mkCon sig23 pre23 raw23) 23 sig23 := meets [pr18, pr32, pr16] loopsA rfl 23 (by kernel_rfl) vc23
noncomputable def pr23 : PrG Tryd.prog GW := ⟨23, sig23, mkCon sig23 pre23 raw23, ok23, ⟨Tryd.f23, Tryd.func23, by kernel_rfl, by kernel_rfl⟩⟩
theorem ok8 : MeetsG Tryd.prog GW (mkCon sig8 pre8 raw8) 8 sig8 := meets [pr22, pr23] loopsA rfl 8 (by kernel_rfl) vc8
noncomputable def pr8 : PrG Tryd.prog GW := ⟨8, sig8, mkCon sig8 pre8 raw8, ok8, ⟨Tryd.f8, Tryd.func8, by kernel_rfl, by kernel_rfl⟩⟩
theorem ok19 : MeetsG Tryd.prog GW (mkCon sig19 pre19 raw19) 19 sig19 := meetsK [] rfl 19 (by kernel_rfl) vc19
noncomputable def pr19 : PrG Tryd.prog GW := ⟨19, sig19, mkCon sig19 pre19 raw19, ok19, ⟨Tryd.f19, Tryd.func19, by kernel_rfl, by kernel_rfl⟩⟩
theorem ok9 : MeetsG Tryd.prog GW (mkCon sig9 pre9 raw9) 9 sig9 := meets [pr19, pr17, pr22] loopsA rfl 9 (by kernel_rfl) vc9
noncomputable def pr9 : PrG Tryd.prog GW := ⟨9, sig9, mkCon sig9 pre9 raw9, ok9, ⟨Tryd.f9, Tryd.func9, by kernel_rfl, by kernel_rfl⟩⟩
end Go.Proofs.YtdikdhjfcnocdaaDoor
