/- The contracts. -/
import Derived.Test.YtccmgepknjkakaaP
set_option maxRecDepth 100000
namespace Go.Proofs.Ytccmgepknjkakaa
open Go Go.RowKit Go.Proofs.Ytccmgepknjkakaa.Vc
def loopsA : List LA := [⟨6, 12, [], 3⟩,
 ⟨3, 5, [(.slot 5, .mo [.int .i64]), (.slot 6, .sc)], 0⟩,
 ⟨3, 12, [(.slot 13, .sc), (.slot 14, .sc)], 0⟩,
 ⟨4, 12, [(.slot 11, .arr), (.slot 12, .sc)], 0⟩,
 ⟨4, 18, [(.slot 13, .sc)], 0⟩,
 ⟨4, 21, [(.slot 14, .sc)], 0⟩,
 ⟨4, 28, [(.slot 17, .sc)], 0⟩,
 ⟨5, 12, [(.slot 12, .sc), (.slot 6, .keep)], 0⟩,
 ⟨5, 17, [(.slot 13, .sc), (.slot 6, .keep)], 0⟩,
 ⟨6, 15, [(.cell 28 0, .arr), (.slot 29, .sc)], 0⟩,
 ⟨7, 9, [(.slot 10, .sc), (.slot 9, .sc)], 0⟩,
 ⟨7, 19, [(.slot 11, .sc), (.slot 4, .keep)], 0⟩,
 ⟨9, 9, [(.cell 2 0, .lst [.int .i64, .int .i64]), (.cell 2 1, .sc), (.slot 10, .sc), (.slot 9, .arr)], 0⟩,
 ⟨9, 13, [(.slot 11, .own [.bool]), (.slot 12, .sc)], 0⟩,
 ⟨10, 5, [(.slot 3, .sc), (.slot 4, .sc)], 0⟩,
 ⟨11, 6, [(.slot 22, .sc), (.slot 4, .keep), (.slot 6, .keep), (.slot 8, .sc)], 0⟩,
 ⟨11, 15, [(.cell 11 0, .arr), (.cell 11 1, .sc), (.cell 12 0, .mo [.int .i64]), (.slot 4, .own [.int .i64]), (.slot 8, .sc)], 0⟩,
 ⟨12, 7, [(.slot 4, .keep), (.slot 6, .keep), (.slot 7, .sc), (.slot 8, .sc)], 0⟩,
 ⟨12, 11, [(.slot 4, .keep), (.slot 6, .keep), (.slot 9, .sc)], 0⟩,
 ⟨12, 20, [(.cell 11 0, .own [.int .i64, .int .i64]), (.cell 11 1, .sc), (.slot 10, .arr), (.slot 12, .own [.int .i64]), (.slot 73, .arr)], 0⟩,
 ⟨13, 4, [(.slot 4, .keep), (.slot 5, .sc)], 0⟩,
 ⟨14, 4, [(.slot 4, .keep), (.slot 5, .sc)], 0⟩,
 ⟨16, 3, [(.cell 4 0, .own [.int .i64, .int .i64]), (.slot 9, .sc)], 0⟩,
 ⟨17, 3, [(.slot 5, .sc), (.slot 6, .sc)], 0⟩,
 ⟨19, 5, [(.cell 4 0, .own [.int .i64, .int .i64]), (.slot 3, .keep), (.slot 5, .sc)], 0⟩,
 ⟨21, 7, [(.slot 7, .sc), (.slot 8, .sc)], 0⟩,
 ⟨21, 11, [(.cell 9 0, .own [.int .i64, .int .i64]), (.cell 9 1, .sc), (.slot 10, .sc)], 0⟩,
 ⟨25, 5, [(.slot 2, .keep), (.slot 4, .sc)], 0⟩,
 ⟨30, 2, [(.cell 0 0, .arr), (.cell 0 1, .sc), (.slot 4, .keep)], 0⟩,
 ⟨37, 2, [(.slot 4, .keep), (.slot 8, .sc)], 0⟩,
 ⟨40, 2, [(.slot 4, .keep), (.slot 8, .sc)], 0⟩,
 ⟨41, 2, [(.slot 4, .keep), (.slot 8, .sc)], 0⟩]
theorem ok24 : Meets Try.prog (mkCon sig24 pre24 raw24) 24 sig24 := meets [] loopsA rfl 24 (by kernel_rfl) (vh24 vc24)
noncomputable def pr24 : Pr Try.prog := ⟨24, sig24, mkCon sig24 pre24 raw24, ok24, ⟨Try.f24, Try.func24, by kernel_rfl, by kernel_rfl⟩⟩
theorem ok25 : Meets Try.prog (mkCon sig25 pre25 raw25) 25 sig25 := meets [] loopsA rfl 25 (by kernel_rfl) (vh25 vc25)
noncomputable def pr25 : Pr Try.prog := ⟨25, sig25, mkCon sig25 pre25 raw25, ok25, ⟨Try.f25, Try.func25, by kernel_rfl, by kernel_rfl⟩⟩
theorem ok14 : Meets Try.prog (mkCon sig14 pre14 raw14) 14 sig14 := meets [] loopsA rfl 14 (by kernel_rfl) (vh14 vc14)
noncomputable def pr14 : Pr Try.prog := ⟨14, sig14, mkCon sig14 pre14 raw14, ok14, ⟨Try.f14, Try.func14, by kernel_rfl, by kernel_rfl⟩⟩
theorem ok18 : Meets Try.prog (mkCon sig18 pre18 raw18) 18 sig18 := meets [] loopsA rfl 18 (by kernel_rfl) (vh18 vc18)
noncomputable def pr18 : Pr Try.prog := ⟨18, sig18, mkCon sig18 pre18 raw18, ok18, ⟨Try.f18, Try.func18, by kernel_rfl, by kernel_rfl⟩⟩
theorem ok38 : Meets Try.prog (mkCon sig38 pre38 raw38) 38 sig38 := meets [] loopsA rfl 38 (by kernel_rfl) (vh38 vc38)
noncomputable def pr38 : Pr Try.prog := ⟨38, sig38, mkCon sig38 pre38 raw38, ok38, ⟨Try.f38, Try.func38, by kernel_rfl, by kernel_rfl⟩⟩
theorem ok16 : Meets Try.prog (mkCon sig16 pre16 raw16) 16 sig16 := meets [pr24] loopsA rfl 16 (by kernel_rfl) (vh16 vc16)
noncomputable def pr16 : Pr Try.prog := ⟨16, sig16, mkCon sig16 pre16 raw16, ok16, ⟨Try.f16, Try.func16, by kernel_rfl, by kernel_rfl⟩⟩
theorem ok19 : Meets Try.prog (mkCon sig19 pre19 raw19) 19 sig19 := meets [] loopsA rfl 19 (by kernel_rfl) (vh19 vc19)
noncomputable def pr19 : Pr Try.prog := ⟨19, sig19, mkCon sig19 pre19 raw19, ok19, ⟨Try.f19, Try.func19, by kernel_rfl, by kernel_rfl⟩⟩
theorem ok22 : Meets Try.prog (mkCon sig22 pre22 raw22) 22 sig22 := meets [pr24, pr38] loopsA rfl 22 (by kernel_rfl) (vh22 vc22)
noncomputable def pr22 : Pr Try.prog := ⟨22, sig22, mkCon sig22 pre22 raw22, ok22, ⟨Try.f22, Try.func22, by kernel_rfl, by kernel_rfl⟩⟩
theorem ok23 : Meets Try.prog (mkCon sig23 pre23 raw23) 23 sig23 := meets [pr25, pr18] loopsA rfl 23 (by kernel_rfl) (vh23 vc23)
noncomputable def pr23 : Pr Try.prog := ⟨23, sig23, mkCon sig23 pre23 raw23, ok23, ⟨Try.f23, Try.func23, by kernel_rfl, by kernel_rfl⟩⟩
theorem ok32 : Meets Try.prog (mkCon sig32 pre32 raw32) 32 sig32 := meets [pr18] loopsA rfl 32 (by kernel_rfl) (vh32 vc32)
noncomputable def pr32 : Pr Try.prog := ⟨32, sig32, mkCon sig32 pre32 raw32, ok32, ⟨Try.f32, Try.func32, by kernel_rfl, by kernel_rfl⟩⟩
end Go.Proofs.Ytccmgepknjkakaa
