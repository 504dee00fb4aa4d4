/- The contracts. -/
import Derived.Test.YtiiebpfifkaleaaP5
import Derived.Test.YtiiebpfifkaleaaM
set_option maxRecDepth 100000
namespace Go.Proofs.Ytiiebpfifkaleaa
open Go Go.RowKit Go.Proofs.Ytiiebpfifkaleaa.Vc
theorem ok7 : Meets Try.prog (mkCon sig7 pre7 raw7) 7 sig7 := meets [pr11, pr23, pr24, pr25, pr15, pr22] loopsA rfl 7 (by kernel_rfl) (vh7 vc7)
noncomputable def pr7 : Pr Try.prog := ⟨7, sig7, mkCon sig7 pre7 raw7, ok7, ⟨Try.f7, Try.func7, by kernel_rfl, by kernel_rfl⟩⟩
end Go.Proofs.Ytiiebpfifkaleaa
