/- The contracts. -/
import Derived.Test.YtccmgepknjkakaaP9
import Derived.Test.YtccmgepknjkakaaM2
import Derived.Test.YtccmgepknjkakaaM4
import Derived.Test.YtccmgepknjkakaaM5
import Derived.Test.YtccmgepknjkakaaM
set_option maxRecDepth 100000
namespace Go.Proofs.Ytccmgepknjkakaa
open Go Go.RowKit Go.Proofs.Ytccmgepknjkakaa.Vc
theorem ok9 : Meets Try.prog (mkCon sig9 pre9 raw9) 9 sig9 := meets [pr15, pr11, pr10, pr20, pr22, pr14] loopsA rfl 9 (by kernel_rfl) (vh9 vc9)
noncomputable def pr9 : Pr Try.prog := ⟨9, sig9, mkCon sig9 pre9 raw9, ok9, ⟨Try.f9, Try.func9, by kernel_rfl, by kernel_rfl⟩⟩
end Go.Proofs.Ytccmgepknjkakaa
