/- The contracts. -/
import Derived.Test.YtccmgepknjkakaaP8
import Derived.Test.YtccmgepknjkakaaM4
import Derived.Test.YtccmgepknjkakaaM5
import Derived.Test.YtccmgepknjkakaaM
set_option maxRecDepth 100000
namespace Go.Proofs.Ytccmgepknjkakaa
open Go Go.RowKit Go.Proofs.Ytccmgepknjkakaa.Vc
theorem ok5 : Meets Try.prog (mkCon sig5 pre5 raw5) 5 sig5 := meets [pr15, pr11] loopsA rfl 5 (by kernel_rfl) (vh5 vc5)
noncomputable def pr5 : Pr Try.prog := ⟨5, sig5, mkCon sig5 pre5 raw5, ok5, ⟨Try.f5, Try.func5, by kernel_rfl, by kernel_rfl⟩⟩
end Go.Proofs.Ytccmgepknjkakaa
