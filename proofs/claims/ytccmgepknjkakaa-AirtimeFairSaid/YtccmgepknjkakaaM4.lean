/- The contracts. -/
import Derived.Test.YtccmgepknjkakaaP4
import Derived.Test.YtccmgepknjkakaaM
set_option maxRecDepth 100000
namespace Go.Proofs.Ytccmgepknjkakaa
open Go Go.RowKit Go.Proofs.Ytccmgepknjkakaa.Vc
theorem ok10 : Meets Try.prog (mkCon sig10 pre10 raw10) 10 sig10 := meets [] loopsA rfl 10 (by kernel_rfl) (vh10 vc10)
noncomputable def pr10 : Pr Try.prog := ⟨10, sig10, mkCon sig10 pre10 raw10, ok10, ⟨Try.f10, Try.func10, by kernel_rfl, by kernel_rfl⟩⟩
theorem ok13 : Meets Try.prog (mkCon sig13 pre13 raw13) 13 sig13 := meets [] loopsA rfl 13 (by kernel_rfl) (vh13 vc13)
noncomputable def pr13 : Pr Try.prog := ⟨13, sig13, mkCon sig13 pre13 raw13, ok13, ⟨Try.f13, Try.func13, by kernel_rfl, by kernel_rfl⟩⟩
theorem ok11 : Meets Try.prog (mkCon sig11 pre11 raw11) 11 sig11 := meets [pr24, pr38] loopsA rfl 11 (by kernel_rfl) (vh11 vc11)
noncomputable def pr11 : Pr Try.prog := ⟨11, sig11, mkCon sig11 pre11 raw11, ok11, ⟨Try.f11, Try.func11, by kernel_rfl, by kernel_rfl⟩⟩
end Go.Proofs.Ytccmgepknjkakaa
