/- The contracts. -/
import Derived.Test.YtiiebpfifkaleaaP9
import Derived.Test.YtiiebpfifkaleaaM6
import Derived.Test.YtiiebpfifkaleaaM
set_option maxRecDepth 100000
namespace Go.Proofs.Ytiiebpfifkaleaa
open Go Go.RowKit Go.Proofs.Ytiiebpfifkaleaa.Vc
theorem ok9 : Meets Try.prog (mkCon sig9 pre9 raw9) 9 sig9 := meets [pr22, pr15, pr17, pr19, pr21, pr30, pr23, pr24] loopsA rfl 9 (by kernel_rfl) (vh9 vc9)
noncomputable def pr9 : Pr Try.prog := ⟨9, sig9, mkCon sig9 pre9 raw9, ok9, ⟨Try.f9, Try.func9, by kernel_rfl, by kernel_rfl⟩⟩
end Go.Proofs.Ytiiebpfifkaleaa
