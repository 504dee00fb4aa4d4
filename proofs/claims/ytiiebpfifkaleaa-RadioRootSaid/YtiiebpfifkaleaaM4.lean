/- The contracts. -/
import Derived.Test.YtiiebpfifkaleaaP4
import Derived.Test.YtiiebpfifkaleaaM
set_option maxRecDepth 100000
namespace Go.Proofs.Ytiiebpfifkaleaa
open Go Go.RowKit Go.Proofs.Ytiiebpfifkaleaa.Vc
theorem ok5 : Meets Try.prog (mkCon sig5 pre5 raw5) 5 sig5 := meets [pr11, pr22] loopsA rfl 5 (by kernel_rfl) (vh5 vc5)
noncomputable def pr5 : Pr Try.prog := ⟨5, sig5, mkCon sig5 pre5 raw5, ok5, ⟨Try.f5, Try.func5, by kernel_rfl, by kernel_rfl⟩⟩
end Go.Proofs.Ytiiebpfifkaleaa
