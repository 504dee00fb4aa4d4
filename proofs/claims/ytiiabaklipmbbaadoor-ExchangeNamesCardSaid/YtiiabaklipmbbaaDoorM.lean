/- The contracts. -/
import Derived.Test.YtiiabaklipmbbaaDoorP
set_option maxRecDepth 100000
namespace Go.Proofs.YtiiabaklipmbbaaDoor
open Go Go.RowKit Go.Proofs.YtiiabaklipmbbaaDoor.Vc
def loopsA : List LA := [ ⟨6, 6, [(.slot 4, .sc)], 0⟩,
 ⟨20, 4, [(.slot 4, .keep), (.slot 5, .sc)], 0⟩,
 ⟨19, 4, [(.slot 4, .keep), (.slot 5, .sc)], 0⟩,
 ⟨10, 3, [(.slot 3, .sc), (.slot 8, .sc)], 0⟩,
 ⟨16, 10, [(.cell 5 0, .own [.int .u8, .bool, .int .i64, .int .i64, .int .i64, .int .i64]), (.cell 5 1, .sc), (.slot 35, .sc)], 0⟩,
 ⟨16, 20, [(.cell 5 0, .arr), (.slot 67, .sc)], 0⟩,
 ⟨21, 2, [(.slot 4, .keep), (.slot 8, .sc)], 0⟩,
 ⟨27, 1, [(.slot 6, .sc)], 0⟩,
 ⟨27, 4, [(.slot 7, .sc)], 0⟩,
 ⟨32, 3, [], 1⟩,
 ⟨32, 5, [(.slot 7, .sc)], 0⟩,
 ⟨25, 2, [], 1⟩,
 ⟨24, 4, [(.slot 3, .sc)], 0⟩,
 ⟨8, 3, [(.slot 10, .sc), (.cell 5 0, .sc), (.cell 5 1, .own [.int .i64]), (.cell 5 2, .own [.int .i64])], 0⟩,
 ⟨4, 9, [(.slot 11, .sc)], 0⟩
]
theorem ok15 : MeetsG Tryd.prog GW (mkCon sig15 pre15 raw15) 15 sig15 := meets [] loopsA rfl 15 (by kernel_rfl) (vh15 vc15)
noncomputable def pr15 : PrG Tryd.prog GW := ⟨15, sig15, mkCon sig15 pre15 raw15, ok15, ⟨Tryd.f15, Tryd.func15, by kernel_rfl, by kernel_rfl⟩⟩
theorem ok13 : MeetsG Tryd.prog GW (mkCon sig13 pre13 raw13) 13 sig13 := meets [pr15] loopsA rfl 13 (by kernel_rfl) (vh13 vc13)
noncomputable def pr13 : PrG Tryd.prog GW := ⟨13, sig13, mkCon sig13 pre13 raw13, ok13, ⟨Tryd.f13, Tryd.func13, by kernel_rfl, by kernel_rfl⟩⟩
theorem ok10 : MeetsG Tryd.prog GW (mkCon sig10 pre10 raw10) 10 sig10 := meets [] loopsA rfl 10 (by kernel_rfl) (vh10 vc10)
noncomputable def pr10 : PrG Tryd.prog GW := ⟨10, sig10, mkCon sig10 pre10 raw10, ok10, ⟨Tryd.f10, Tryd.func10, by kernel_rfl, by kernel_rfl⟩⟩
theorem ok20 : MeetsG Tryd.prog GW (mkCon sig20 pre20 raw20) 20 sig20 := meets [] loopsA rfl 20 (by kernel_rfl) (vh20 vc20)
noncomputable def pr20 : PrG Tryd.prog GW := ⟨20, sig20, mkCon sig20 pre20 raw20, ok20, ⟨Tryd.f20, Tryd.func20, by kernel_rfl, by kernel_rfl⟩⟩
theorem ok19 : MeetsG Tryd.prog GW (mkCon sig19 pre19 raw19) 19 sig19 := meets [] loopsA rfl 19 (by kernel_rfl) (vh19 vc19)
noncomputable def pr19 : PrG Tryd.prog GW := ⟨19, sig19, mkCon sig19 pre19 raw19, ok19, ⟨Tryd.f19, Tryd.func19, by kernel_rfl, by kernel_rfl⟩⟩
theorem ok12 : MeetsG Tryd.prog GW (mkCon sig12 pre12 raw12) 12 sig12 := meetsK [] rfl 12 (by kernel_rfl) (vh12 vc12)
noncomputable def pr12 : PrG Tryd.prog GW := ⟨12, sig12, mkCon sig12 pre12 raw12, ok12, ⟨Tryd.f12, Tryd.func12, by kernel_rfl, by kernel_rfl⟩⟩
end Go.Proofs.YtiiabaklipmbbaaDoor
