/- The contracts. -/
import Derived.Test.YtjlljcencbppcaaP
set_option maxRecDepth 100000
namespace Go.Proofs.Ytjlljcencbppcaa
open Go Go.RowKit Go.Proofs.Ytjlljcencbppcaa.Vc
def loopsA : List LA := [⟨3, 6, [(.cell 4 0, .own [.int .i64, .int .i64, .int .i64]), (.cell 4 1, .sc), (.cell 4 2, .sc), (.cell 4 3, .sc), (.cell 4 4, .own [.int .i64]), (.cell 4 5, .own [.int .i64]), (.slot 2, .keep), (.slot 5, .sc)], 0⟩,
 ⟨3, 15, [(.slot 2, .keep), (.slot 9, .sc)], 0⟩,
 ⟨4, 7, [(.cell 4 0, .own [.int .i64, .int .i64, .int .i64]), (.cell 4 1, .sc), (.cell 4 2, .sc), (.cell 4 3, .sc), (.cell 4 4, .own [.int .i64]), (.cell 4 5, .own [.int .i64]), (.slot 2, .keep), (.slot 5, .own [.int .i64]), (.slot 6, .own [.int .i64]), (.slot 7, .sc)], 0⟩,
 ⟨4, 23, [(.slot 14, .sc), (.slot 15, .sc), (.slot 2, .keep)], 0⟩,
 ⟨6, 8, [(.slot 11, .sc), (.slot 6, .keep)], 0⟩,
 ⟨6, 13, [(.slot 12, .sc), (.slot 6, .keep)], 0⟩,
 ⟨7, 15, [(.slot 32, .sc), (.slot 33, .sc)], 0⟩,
 ⟨7, 22, [(.cell 12 0, .arr), (.cell 202 0, .arr), (.slot 203, .arr), (.slot 212, .sc)], 0⟩,
 ⟨7, 25, [(.cell 12 0, .arr), (.cell 202 0, .arr), (.cell 214 0, .arr), (.slot 203, .arr), (.slot 215, .arr), (.slot 37, .arr), (.slot 38, .sc)], 0⟩,
 ⟨9, 13, [(.cell 2 5, .own [.int .i64]), (.slot 14, .sc)], 0⟩,
 ⟨10, 5, [(.slot 2, .keep), (.slot 3, .sc), (.slot 43, .sc)], 0⟩,
 ⟨12, 7, [(.slot 10, .sc)], 0⟩,
 ⟨16, 4, [(.slot 4, .keep), (.slot 5, .sc)], 0⟩,
 ⟨19, 8, [(.cell 9 0, .own [.int .i64, .int .i64, .int .i64]), (.slot 10, .own [.int .i64, .int .i64, .int .i64]), (.slot 11, .sc)], 0⟩,
 ⟨20, 4, [(.slot 2, .keep), (.slot 3, .sc)], 0⟩]
theorem ok8 : Meets Try.prog (mkCon sig8 pre8 raw8) 8 sig8 := meetsK [] rfl 8 (by kernel_rfl) vc8
noncomputable def pr8 : Pr Try.prog := ⟨8, sig8, mkCon sig8 pre8 raw8, ok8, ⟨Try.f8, Try.func8, by kernel_rfl, by kernel_rfl⟩⟩
theorem ok14 : Meets Try.prog (mkCon sig14 pre14 raw14) 14 sig14 := meetsK [] rfl 14 (by kernel_rfl) vc14
noncomputable def pr14 : Pr Try.prog := ⟨14, sig14, mkCon sig14 pre14 raw14, ok14, ⟨Try.f14, Try.func14, by kernel_rfl, by kernel_rfl⟩⟩
theorem ok5 : Meets Try.prog (mkCon sig5 pre5 raw5) 5 sig5 := meetsK [pr8, pr14] rfl 5 (by kernel_rfl) vc5
noncomputable def pr5 : Pr Try.prog := ⟨5, sig5, mkCon sig5 pre5 raw5, ok5, ⟨Try.f5, Try.func5, by kernel_rfl, by kernel_rfl⟩⟩
end Go.Proofs.Ytjlljcencbppcaa
