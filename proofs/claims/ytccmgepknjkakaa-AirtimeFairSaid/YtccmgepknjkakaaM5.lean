/- The contracts. -/
import Derived.Test.YtccmgepknjkakaaP5
import Derived.Test.YtccmgepknjkakaaM2
import Derived.Test.YtccmgepknjkakaaM
set_option maxRecDepth 100000
namespace Go.Proofs.Ytccmgepknjkakaa
open Go Go.RowKit Go.Proofs.Ytccmgepknjkakaa.Vc
theorem ok15 : Meets Try.prog (mkCon sig15 pre15 raw15) 15 sig15 := meetsK [] rfl 15 (by kernel_rfl) (vh15 vc15)
noncomputable def pr15 : Pr Try.prog := ⟨15, sig15, mkCon sig15 pre15 raw15, ok15, ⟨Try.f15, Try.func15, by kernel_rfl, by kernel_rfl⟩⟩
theorem ok7 : Meets Try.prog (mkCon sig7 pre7 raw7) 7 sig7 := meets [pr15, pr20, pr14, pr24] loopsA rfl 7 (by kernel_rfl) (vh7 vc7)
noncomputable def pr7 : Pr Try.prog := ⟨7, sig7, mkCon sig7 pre7 raw7, ok7, ⟨Try.f7, Try.func7, by kernel_rfl, by kernel_rfl⟩⟩
end Go.Proofs.Ytccmgepknjkakaa
