/- The contracts. -/
import Derived.Test.YtccmgepknjkakaaP
set_option maxRecDepth 100000
namespace Go.Proofs.Ytccmgepknjkakaa
open Go Go.RowKit Go.Proofs.Ytccmgepknjkakaa.Vc
def loopsA : List LA := [
]
theorem ok15 : Meets Try.prog (mkCon sig15 pre15 raw15) 15 sig15 := meetsK [] rfl 15 (by kernel_rfl) vc15
noncomputable def pr15 : Pr Try.prog := ⟨15, sig15, mkCon sig15 pre15 raw15, ok15, ⟨Try.f15, Try.func15, by kernel_rfl, by kernel_rfl⟩⟩
theorem ok8 : Meets Try.prog (mkCon sig8 pre8 raw8) 8 sig8 := meetsK [pr15] rfl 8 (by kernel_rfl) vc8
noncomputable def pr8 : Pr Try.prog := ⟨8, sig8, mkCon sig8 pre8 raw8, ok8, ⟨Try.f8, Try.func8, by kernel_rfl, by kernel_rfl⟩⟩
end Go.Proofs.Ytccmgepknjkakaa
