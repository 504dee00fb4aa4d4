/- The contracts. -/
import Derived.Test.YtakkebjoeceplaaP9
import Derived.Test.YtakkebjoeceplaaM
set_option maxRecDepth 100000
namespace Go.Proofs.Ytakkebjoeceplaa
open Go Go.RowKit Go.Proofs.Ytakkebjoeceplaa.Vc
def loopsB : List LA := [⟨3, 12, [], 3⟩,
 ⟨3, 15, [(.cell 26 0, .arr), (.slot 27, .sc)], 0⟩,
 ⟨5, 9, [(.slot 2, .keep), (.slot 7, .sc)], 0⟩,
 ⟨5, 18, [(.slot 12, .sc), (.slot 2, .keep)], 0⟩,
 ⟨6, 6, [(.cell 4 0, .arr), (.slot 10, .sc)], 0⟩,
 ⟨6, 11, [(.cell 4 0, .own [.int .i64, .int .i64, .int .i64, .int .i64, .bool]), (.cell 4 1, .sc), (.slot 12, .sc), (.slot 13, .sc), (.slot 8, .keep)], 0⟩,
 ⟨6, 14, [(.cell 4 0, .own [.int .i64, .int .i64, .int .i64, .int .i64, .bool]), (.cell 4 1, .sc), (.slot 12, .sc), (.slot 14, .sc), (.slot 8, .keep)], 0⟩,
 ⟨7, 10, [(.slot 2, .keep), (.slot 6, .sc)], 0⟩,
 ⟨9, 7, [(.cell 7 0, .sc), (.cell 7 1, .sc), (.cell 7 10, .sc), (.cell 7 11, .sc), (.cell 7 12, .sc), (.cell 7 13, .sc), (.cell 7 14, .sc), (.cell 7 15, .sc), (.cell 7 2, .sc), (.cell 7 3, .sc), (.cell 7 4, .sc), (.cell 7 5, .sc), (.cell 7 6, .sc), (.cell 7 7, .sc), (.cell 7 8, .sc), (.cell 7 9, .sc), (.slot 4, .keep), (.slot 8, .sc)], 0⟩,
 ⟨11, 3, [(.cell 4 0, .own [.int .i64, .int .i64, .int .i64, .int .i64, .bool]), (.slot 9, .sc)], 0⟩,
 ⟨12, 3, [(.cell 4 0, .own [.int .i64, .int .i64, .int .i64, .int .i64, .bool]), (.slot 5, .sc)], 0⟩,
 ⟨15, 8, [(.cell 5 0, .own [.int .i64, .int .i64, .int .i64, .int .i64, .bool]), (.slot 25, .sc)], 0⟩,
 ⟨16, 8, [(.cell 4 0, .arr), (.slot 5, .sc)], 0⟩,
 ⟨17, 4, [(.slot 4, .keep), (.slot 5, .sc)], 0⟩,
 ⟨21, 6, [(.cell 4 0, .sc), (.cell 4 2, .sc), (.cell 4 3, .sc), (.slot 6, .sc)], 0⟩,
 ⟨21, 16, [(.cell 4 1, .sc), (.cell 76 1, .sc), (.cell 78 1, .sc), (.slot 7, .sc)], 0⟩,
 ⟨24, 4, [(.slot 19, .sc), (.slot 2, .keep)], 0⟩,
 ⟨25, 4, [(.slot 2, .keep), (.slot 3, .sc)], 0⟩,
 ⟨33, 3, [(.slot 12, .sc), (.slot 7, .sc)], 0⟩,
 ⟨41, 3, [(.slot 2, .keep), (.slot 8, .sc)], 0⟩]
theorem ok6 : Meets Try.prog (mkCon sig6 pre6 raw6) 6 sig6 := meets [pr26, pr24, pr10, pr13, pr15, pr20, pr18] loopsB rfl 6 (by kernel_rfl) vc6
noncomputable def pr6 : Pr Try.prog := ⟨6, sig6, mkCon sig6 pre6 raw6, ok6, ⟨Try.f6, Try.func6, by kernel_rfl, by kernel_rfl⟩⟩
end Go.Proofs.Ytakkebjoeceplaa
