/- The contracts. -/
import Derived.Test.YtccmgepknjkakaaP6
import Derived.Test.YtccmgepknjkakaaM
set_option maxRecDepth 100000
namespace Go.Proofs.Ytccmgepknjkakaa
open Go Go.RowKit Go.Proofs.Ytccmgepknjkakaa.Vc
theorem ok12 : Meets Try.prog (mkCon sig12 pre12 raw12) 12 sig12 := meets [pr25, pr18, pr32] loopsA rfl 12 (by kernel_rfl) (vh12 vc12)
noncomputable def pr12 : Pr Try.prog := ⟨12, sig12, mkCon sig12 pre12 raw12, ok12, ⟨Try.f12, Try.func12, by kernel_rfl, by kernel_rfl⟩⟩
end Go.Proofs.Ytccmgepknjkakaa
