/- The contracts. -/
import Derived.Test.YtiiebpfifkaleaaP8
import Derived.Test.YtiiebpfifkaleaaM6
import Derived.Test.YtiiebpfifkaleaaM
set_option maxRecDepth 100000
namespace Go.Proofs.Ytiiebpfifkaleaa
open Go Go.RowKit Go.Proofs.Ytiiebpfifkaleaa.Vc
theorem ok4 : Meets Try.prog (mkCon sig4 pre4 raw4) 4 sig4 := meets [pr15, pr16, pr17, pr18, pr19, pr20, pr21] loopsA rfl 4 (by kernel_rfl) (vh4 vc4)
noncomputable def pr4 : Pr Try.prog := ⟨4, sig4, mkCon sig4 pre4 raw4, ok4, ⟨Try.f4, Try.func4, by kernel_rfl, by kernel_rfl⟩⟩
end Go.Proofs.Ytiiebpfifkaleaa
