/- The contracts. -/
import Derived.Test.YtiiebpfifkaleaaP2
import Derived.Test.YtiiebpfifkaleaaM
set_option maxRecDepth 100000
namespace Go.Proofs.Ytiiebpfifkaleaa
open Go Go.RowKit Go.Proofs.Ytiiebpfifkaleaa.Vc
theorem ok6 : Meets Try.prog (mkCon sig6 pre6 raw6) 6 sig6 := meets [pr13, pr22] loopsA rfl 6 (by kernel_rfl) (vh6 vc6)
noncomputable def pr6 : Pr Try.prog := ⟨6, sig6, mkCon sig6 pre6 raw6, ok6, ⟨Try.f6, Try.func6, by kernel_rfl, by kernel_rfl⟩⟩
end Go.Proofs.Ytiiebpfifkaleaa
