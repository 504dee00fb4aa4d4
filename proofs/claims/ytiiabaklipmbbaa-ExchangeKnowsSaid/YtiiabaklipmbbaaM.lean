/- The contracts. -/
import Derived.Test.YtiiabaklipmbbaaP
set_option maxRecDepth 100000
namespace Go.Proofs.Ytiiabaklipmbbaa
open Go Go.RowKit Go.Proofs.Ytiiabaklipmbbaa.Vc
def loopsA : List LA := [⟨4, 11, [(.slot 2, .keep), (.slot 7, .sc)], 0⟩,
 ⟨5, 26, [(.slot 12, .sc), (.slot 2, .keep)], 0⟩,
 ⟨7, 6, [(.slot 4, .sc)], 0⟩,
 ⟨8, 5, [(.slot 4, .own [.int .u8, .bool, .int .i64, .int .i64, .int .i64, .int .i64]), (.slot 5, .sc)], 0⟩,
 ⟨9, 4, [(.slot 4, .keep), (.slot 5, .sc)], 0⟩,
 ⟨10, 4, [(.slot 4, .keep), (.slot 5, .sc)], 0⟩,
 ⟨12, 3, [(.slot 3, .sc), (.slot 8, .sc)], 0⟩,
 ⟨13, 3, [(.slot 5, .sc), (.slot 6, .sc)], 0⟩,
 ⟨18, 10, [(.cell 5 0, .own [.int .u8, .bool, .int .i64, .int .i64, .int .i64, .int .i64]), (.cell 5 1, .sc), (.slot 35, .sc)], 0⟩,
 ⟨18, 20, [(.cell 5 0, .arr), (.slot 67, .sc)], 0⟩,
 ⟨19, 5, [(.slot 2, .keep), (.slot 4, .sc)], 0⟩,
 ⟨20, 8, [(.slot 5, .own [.int .u8, .bool, .int .i64, .int .i64, .int .i64, .int .i64]), (.slot 6, .sc)], 0⟩,
 ⟨20, 18, [(.slot 5, .arr), (.slot 8, .sc)], 0⟩,
 ⟨24, 2, [(.slot 4, .keep), (.slot 8, .sc)], 0⟩,
 ⟨32, 1, [(.slot 6, .sc)], 0⟩,
 ⟨32, 4, [(.slot 7, .sc)], 0⟩,
 ⟨37, 3, [], 1⟩,
 ⟨37, 5, [(.slot 7, .sc)], 0⟩,
 ⟨30, 2, [], 1⟩,
 ⟨29, 4, [(.slot 3, .sc)], 0⟩,
 ⟨14, 3, [(.slot 10, .sc), (.cell 5 0, .sc), (.cell 5 1, .own [.int .i64]), (.cell 5 2, .own [.int .i64])], 0⟩,
 ⟨15, 2, [(.slot 5, .sc)], 0⟩,
 ⟨6, 11, [(.slot 9, .sc)], 0⟩,
 ⟨6, 16, [(.slot 10, .sc)], 0⟩
]
theorem ok17 : Meets Try.prog (mkCon sig17 pre17 raw17) 17 sig17 := meets [] loopsA rfl 17 (by kernel_rfl) (vh17 vc17)
noncomputable def pr17 : Pr Try.prog := ⟨17, sig17, mkCon sig17 pre17 raw17, ok17, ⟨Try.f17, Try.func17, by kernel_rfl, by kernel_rfl⟩⟩
theorem ok26 : Meets Try.prog (mkCon sig26 pre26 raw26) 26 sig26 := meets [pr17] loopsA rfl 26 (by kernel_rfl) (vh26 vc26)
noncomputable def pr26 : Pr Try.prog := ⟨26, sig26, mkCon sig26 pre26 raw26, ok26, ⟨Try.f26, Try.func26, by kernel_rfl, by kernel_rfl⟩⟩
theorem ok12 : Meets Try.prog (mkCon sig12 pre12 raw12) 12 sig12 := meets [] loopsA rfl 12 (by kernel_rfl) (vh12 vc12)
noncomputable def pr12 : Pr Try.prog := ⟨12, sig12, mkCon sig12 pre12 raw12, ok12, ⟨Try.f12, Try.func12, by kernel_rfl, by kernel_rfl⟩⟩
theorem ok19 : Meets Try.prog (mkCon sig19 pre19 raw19) 19 sig19 := meets [pr26] loopsA rfl 19 (by kernel_rfl) (vh19 vc19)
noncomputable def pr19 : Pr Try.prog := ⟨19, sig19, mkCon sig19 pre19 raw19, ok19, ⟨Try.f19, Try.func19, by kernel_rfl, by kernel_rfl⟩⟩
theorem ok9 : Meets Try.prog (mkCon sig9 pre9 raw9) 9 sig9 := meets [] loopsA rfl 9 (by kernel_rfl) (vh9 vc9)
noncomputable def pr9 : Pr Try.prog := ⟨9, sig9, mkCon sig9 pre9 raw9, ok9, ⟨Try.f9, Try.func9, by kernel_rfl, by kernel_rfl⟩⟩
theorem ok10 : Meets Try.prog (mkCon sig10 pre10 raw10) 10 sig10 := meets [] loopsA rfl 10 (by kernel_rfl) (vh10 vc10)
noncomputable def pr10 : Pr Try.prog := ⟨10, sig10, mkCon sig10 pre10 raw10, ok10, ⟨Try.f10, Try.func10, by kernel_rfl, by kernel_rfl⟩⟩
theorem ok11 : Meets Try.prog (mkCon sig11 pre11 raw11) 11 sig11 := meetsK [] rfl 11 (by kernel_rfl) (vh11 vc11)
noncomputable def pr11 : Pr Try.prog := ⟨11, sig11, mkCon sig11 pre11 raw11, ok11, ⟨Try.f11, Try.func11, by kernel_rfl, by kernel_rfl⟩⟩
theorem ok13 : Meets Try.prog (mkCon sig13 pre13 raw13) 13 sig13 := meets [] loopsA rfl 13 (by kernel_rfl) (vh13 vc13)
noncomputable def pr13 : Pr Try.prog := ⟨13, sig13, mkCon sig13 pre13 raw13, ok13, ⟨Try.f13, Try.func13, by kernel_rfl, by kernel_rfl⟩⟩
end Go.Proofs.Ytiiabaklipmbbaa
