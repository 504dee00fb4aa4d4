/- The contracts. -/
import Derived.Test.YtccmgepknjkakaaP0
import Derived.Test.YtccmgepknjkakaaM4
import Derived.Test.YtccmgepknjkakaaM5
import Derived.Test.YtccmgepknjkakaaM
set_option maxRecDepth 100000
namespace Go.Proofs.Ytccmgepknjkakaa
open Go Go.RowKit Go.Proofs.Ytccmgepknjkakaa.Vc
theorem ok17 : Meets Try.prog (mkCon sig17 pre17 raw17) 17 sig17 := meets [] loopsA rfl 17 (by kernel_rfl) (vh17 vc17)
noncomputable def pr17 : Pr Try.prog := ⟨17, sig17, mkCon sig17 pre17 raw17, ok17, ⟨Try.f17, Try.func17, by kernel_rfl, by kernel_rfl⟩⟩
theorem ok4 : Meets Try.prog (mkCon sig4 pre4 raw4) 4 sig4 := meets [pr15, pr16, pr11, pr10, pr17] loopsA rfl 4 (by kernel_rfl) (vh4 vc4)
noncomputable def pr4 : Pr Try.prog := ⟨4, sig4, mkCon sig4 pre4 raw4, ok4, ⟨Try.f4, Try.func4, by kernel_rfl, by kernel_rfl⟩⟩
end Go.Proofs.Ytccmgepknjkakaa
