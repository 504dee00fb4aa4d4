/- The contracts. -/
import Derived.Test.YtkagcjibneigdaaDoorP
set_option maxRecDepth 100000
namespace Go.Proofs.YtkagcjibneigdaaDoor
open Go Go.RowKit Go.Proofs.YtkagcjibneigdaaDoor.Vc
def loopsA : List LA := [ ⟨3, 8, [(.slot 9, .sc)], 0⟩,
 ⟨3, 11, [(.slot 10, .sc)], 0⟩,
 ⟨4, 9, [(.slot 10, .sc), (.slot 4, .keep), (.slot 44, .arr), (.slot 9, .arr)], 0⟩,
 ⟨5, 10, [(.slot 4, .keep), (.slot 9, .sc)], 0⟩,
 ⟨5, 14, [(.slot 10, .sc), (.slot 11, .sc), (.slot 12, .sc), (.slot 4, .keep)], 0⟩,
 ⟨6, 10, [(.slot 14, .sc)], 0⟩,
 ⟨9, 8, [(.slot 4, .keep), (.slot 9, .sc)], 0⟩,
 ⟨11, 4, [(.slot 4, .keep), (.slot 5, .sc)], 0⟩,
 ⟨12, 2, [(.slot 2, .keep), (.slot 3, .sc)], 0⟩,
 ⟨12, 5, [(.slot 2, .keep), (.slot 4, .sc)], 0⟩,
 ⟨13, 8, [(.cell 8 4, .own [.int .u8, .int .i64, .int .i64, .int .i64, .int .i64, .int .i64, .int .i64, .int .i64, .int .i64, .bool, .bool, .int .i64]), (.slot 27, .sc)], 0⟩,
 ⟨13, 13, [(.cell 8 4, .arr), (.cell 8 5, .win), (.cell 8 6, .own [.int .i64, .int .i64, .int .i64, .bool, .bool]), (.slot 45, .sc)], 0⟩,
 ⟨13, 20, [(.slot 5, .own [.int .u8, .int .i64, .int .i64, .int .i64, .int .i64, .int .i64, .int .i64]), (.slot 63, .sc)], 0⟩,
 ⟨14, 5, [(.slot 2, .keep), (.slot 28, .sc)], 0⟩,
 ⟨15, 4, [(.slot 4, .keep), (.slot 5, .sc)], 0⟩,
 ⟨19, 4, [(.slot 4, .keep), (.slot 5, .sc)], 0⟩,
 ⟨20, 4, [(.slot 12, .sc), (.slot 2, .keep)], 0⟩,
 ⟨20, 7, [(.slot 19, .sc), (.slot 2, .keep)], 0⟩,
 ⟨21, 4, [(.slot 4, .keep), (.slot 5, .keep), (.slot 6, .keep), (.slot 7, .sc)], 0⟩,
 ⟨21, 10, [(.cell 8 0, .lst [.int .u8, .int .i64, .int .i64, .int .i64, .int .i64, .int .i64, .int .i64]), (.cell 8 1, .lst [.int .i64, .int .i64, .int .i64, .bool, .bool]), (.cell 8 2, .lst [.int .i64, .int .i64, .int .i64, .bool, .bool]), (.cell 8 3, .lst [.int .i64]), (.cell 8 4, .sc), (.slot 9, .sc)], 0⟩,
 ⟨22, 5, [(.slot 2, .keep), (.slot 4, .sc)], 0⟩,
 ⟨23, 4, [(.slot 3, .sc)], 0⟩,
 ⟨23, 7, [(.slot 4, .sc)], 0⟩,
 ⟨26, 2, [(.slot 4, .own [.bool]), (.slot 13, .sc)], 0⟩,
 ⟨26, 7, [(.cell 0 4, .arr), (.slot 33, .sc)], 0⟩,
 ⟨27, 5, [(.slot 5, .own [.int .i64]), (.slot 6, .own [.int .i64]), (.slot 22, .sc)], 0⟩,
 ⟨27, 16, [(.cell 0 4, .arr), (.slot 90, .sc)], 0⟩,
 ⟨27, 21, [(.cell 0 4, .arr), (.slot 20, .arr), (.slot 104, .sc)], 0⟩,
 ⟨27, 27, [(.cell 0 4, .arr), (.slot 20, .arr), (.slot 137, .sc)], 0⟩,
 ⟨28, 1, [(.slot 13, .sc), (.cell 0 4, .arr), (.cell 0 6, .own [.int .i64, .int .i64, .int .i64, .bool, .bool]), (.slot 11, .arr), (.cell 0 5, .win)], 0⟩,
 ⟨34, 4, [(.cell 3 0, .arr), (.cell 3 2, .own [.int .i64, .int .i64, .int .i64, .bool, .bool]), (.cell 3 4, .sc), (.slot 7, .sc)], 0⟩,
 ⟨34, 7, [(.slot 8, .sc), (.cell 3 0, .arr), (.cell 3 2, .own [.int .i64, .int .i64, .int .i64, .bool, .bool]), (.cell 3 4, .sc)], 0⟩,
 ⟨35, 5, [(.slot 8, .sc), (.cell 4 1, .arr)], 0⟩,
 ⟨35, 18, [(.slot 12, .sc), (.cell 4 3, .arr)], 0⟩,
 ⟨35, 23, [(.cell 4 3, .arr), (.slot 14, .sc)], 0⟩,
 ⟨36, 5, [(.cell 4 0, .arr), (.slot 8, .sc), (.cell 4 1, .own [.int .i64, .int .i64, .int .i64, .bool, .bool])], 0⟩,
 ⟨36, 9, [(.slot 10, .sc), (.slot 9, .sc)], 0⟩,
 ⟨37, 3, [(.slot 5, .own [.int .i64, .int .i64, .int .i64, .bool, .bool]), (.slot 6, .sc)], 0⟩,
 ⟨40, 2, [(.slot 4, .keep), (.slot 8, .sc)], 0⟩,
 ⟨42, 5, [(.slot 8, .keep), (.slot 40, .sc)], 0⟩,
 ⟨44, 5, [(.slot 4, .keep), (.slot 43, .sc)], 0⟩,
 ⟨45, 2, [(.cell 0 4, .arr), (.slot 9, .arr), (.slot 15, .arr), (.slot 17, .sc)], 0⟩,
 ⟨49, 5, [(.slot 10, .sc), (.slot 8, .keep)], 0⟩,
 ⟨50, 2, [(.slot 8, .keep), (.slot 9, .sc)], 0⟩,
 ⟨51, 7, [(.slot 8, .sc), (.slot 9, .sc)], 0⟩]
theorem ok54 : MeetsG Tryd.prog GW (mkCon sig54 pre54 raw54) 54 sig54 := meets [] loopsA rfl 54 (by kernel_rfl) (vh54 vc54)
noncomputable def pr54 : PrG Tryd.prog GW := ⟨54, sig54, mkCon sig54 pre54 raw54, ok54, ⟨Tryd.f54, Tryd.func54, by kernel_rfl, by kernel_rfl⟩⟩
theorem ok47 : MeetsG Tryd.prog GW (mkCon sig47 pre47 raw47) 47 sig47 := meets [pr54] loopsA rfl 47 (by kernel_rfl) (vh47 vc47)
noncomputable def pr47 : PrG Tryd.prog GW := ⟨47, sig47, mkCon sig47 pre47 raw47, ok47, ⟨Tryd.f47, Tryd.func47, by kernel_rfl, by kernel_rfl⟩⟩
theorem ok30 : MeetsG Tryd.prog GW (mkCon sig30 pre30 raw30) 30 sig30 := meets [pr47] loopsA rfl 30 (by kernel_rfl) (vh30 vc30)
noncomputable def pr30 : PrG Tryd.prog GW := ⟨30, sig30, mkCon sig30 pre30 raw30, ok30, ⟨Tryd.f30, Tryd.func30, by kernel_rfl, by kernel_rfl⟩⟩
theorem ok52 : MeetsG Tryd.prog GW (mkCon sig52 pre52 raw52) 52 sig52 := meets [] loopsA rfl 52 (by kernel_rfl) (vh52 vc52)
noncomputable def pr52 : PrG Tryd.prog GW := ⟨52, sig52, mkCon sig52 pre52 raw52, ok52, ⟨Tryd.f52, Tryd.func52, by kernel_rfl, by kernel_rfl⟩⟩
theorem ok57 : MeetsG Tryd.prog GW (mkCon sig57 pre57 raw57) 57 sig57 := meets [pr54] loopsA rfl 57 (by kernel_rfl) (vh57 vc57)
noncomputable def pr57 : PrG Tryd.prog GW := ⟨57, sig57, mkCon sig57 pre57 raw57, ok57, ⟨Tryd.f57, Tryd.func57, by kernel_rfl, by kernel_rfl⟩⟩
theorem ok53 : MeetsG Tryd.prog GW (mkCon sig53 pre53 raw53) 53 sig53 := meets [pr57] loopsA rfl 53 (by kernel_rfl) (vh53 vc53)
noncomputable def pr53 : PrG Tryd.prog GW := ⟨53, sig53, mkCon sig53 pre53 raw53, ok53, ⟨Tryd.f53, Tryd.func53, by kernel_rfl, by kernel_rfl⟩⟩
theorem ok43 : MeetsG Tryd.prog GW (mkCon sig43 pre43 raw43) 43 sig43 := meets [pr30, pr52, pr53] loopsA rfl 43 (by kernel_rfl) (vh43 vc43)
noncomputable def pr43 : PrG Tryd.prog GW := ⟨43, sig43, mkCon sig43 pre43 raw43, ok43, ⟨Tryd.f43, Tryd.func43, by kernel_rfl, by kernel_rfl⟩⟩
theorem ok29 : MeetsG Tryd.prog GW (mkCon sig29 pre29 raw29) 29 sig29 := meets [] loopsA rfl 29 (by kernel_rfl) (vh29 vc29)
noncomputable def pr29 : PrG Tryd.prog GW := ⟨29, sig29, mkCon sig29 pre29 raw29, ok29, ⟨Tryd.f29, Tryd.func29, by kernel_rfl, by kernel_rfl⟩⟩
theorem ok14 : MeetsG Tryd.prog GW (mkCon sig14 pre14 raw14) 14 sig14 := meets [pr29, pr30] loopsA rfl 14 (by kernel_rfl) (vh14 vc14)
noncomputable def pr14 : PrG Tryd.prog GW := ⟨14, sig14, mkCon sig14 pre14 raw14, ok14, ⟨Tryd.f14, Tryd.func14, by kernel_rfl, by kernel_rfl⟩⟩
end Go.Proofs.YtkagcjibneigdaaDoor
