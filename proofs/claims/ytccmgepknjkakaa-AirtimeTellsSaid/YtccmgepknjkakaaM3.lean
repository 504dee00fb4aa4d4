/- The contracts. -/
import Derived.Test.YtccmgepknjkakaaP3
import Derived.Test.YtccmgepknjkakaaM2
import Derived.Test.YtccmgepknjkakaaM
set_option maxRecDepth 100000
namespace Go.Proofs.Ytccmgepknjkakaa
open Go Go.RowKit Go.Proofs.Ytccmgepknjkakaa.Vc
theorem ok6 : Meets Try.prog (mkCon sig6 pre6 raw6) 6 sig6 := meets [pr18, pr16, pr19, pr20, pr21, pr22, pr23, pr24, pr25, pr14] loopsA rfl 6 (by kernel_rfl) (vh6 vc6)
noncomputable def pr6 : Pr Try.prog := ⟨6, sig6, mkCon sig6 pre6 raw6, ok6, ⟨Try.f6, Try.func6, by kernel_rfl, by kernel_rfl⟩⟩
end Go.Proofs.Ytccmgepknjkakaa
