/- The contracts. -/
import Derived.Test.YtjlljcencbppcaaP3
import Derived.Test.YtjlljcencbppcaaM
set_option maxRecDepth 100000
namespace Go.Proofs.Ytjlljcencbppcaa
open Go Go.RowKit Go.Proofs.Ytjlljcencbppcaa.Vc
theorem ok6 : Meets Try.prog (mkCon sig6 pre6 raw6) 6 sig6 := meets [pr10, pr20, pr28, pr22, pr26, pr11, pr17, pr24, pr13, pr18, pr12, pr19, pr16, pr15, pr8] loopsA rfl 6 (by kernel_rfl) (vh6 vc6)
noncomputable def pr6 : Pr Try.prog := ⟨6, sig6, mkCon sig6 pre6 raw6, ok6, ⟨Try.f6, Try.func6, by kernel_rfl, by kernel_rfl⟩⟩
theorem ok14 : Meets Try.prog (mkCon sig14 pre14 raw14) 14 sig14 := meets [pr10, pr20, pr28, pr22, pr26, pr11, pr17, pr24, pr13, pr18, pr12, pr19, pr16, pr15, pr8, pr6] loopsA rfl 14 (by kernel_rfl) (vh14 vc14)
noncomputable def pr14 : Pr Try.prog := ⟨14, sig14, mkCon sig14 pre14 raw14, ok14, ⟨Try.f14, Try.func14, by kernel_rfl, by kernel_rfl⟩⟩
end Go.Proofs.Ytjlljcencbppcaa
