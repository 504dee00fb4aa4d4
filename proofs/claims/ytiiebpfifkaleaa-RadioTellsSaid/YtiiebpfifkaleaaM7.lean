/- The contracts. -/
import Derived.Test.YtiiebpfifkaleaaP7
import Derived.Test.YtiiebpfifkaleaaM6
import Derived.Test.YtiiebpfifkaleaaM
set_option maxRecDepth 100000
namespace Go.Proofs.Ytiiebpfifkaleaa
open Go Go.RowKit Go.Proofs.Ytiiebpfifkaleaa.Vc
theorem ok8 : Meets Try.prog (mkCon sig8 pre8 raw8) 8 sig8 := meets [pr15, pr16, pr23, pr26, pr24, pr27, pr28, pr29, pr30, pr31, pr25, pr32, pr33, pr21] loopsA rfl 8 (by kernel_rfl) (vh8 vc8)
noncomputable def pr8 : Pr Try.prog := ⟨8, sig8, mkCon sig8 pre8 raw8, ok8, ⟨Try.f8, Try.func8, by kernel_rfl, by kernel_rfl⟩⟩
end Go.Proofs.Ytiiebpfifkaleaa
