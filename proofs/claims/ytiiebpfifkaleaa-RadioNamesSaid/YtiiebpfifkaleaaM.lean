/- The contracts. -/
import Derived.Test.YtiiebpfifkaleaaP
set_option maxRecDepth 100000
namespace Go.Proofs.Ytiiebpfifkaleaa
open Go Go.RowKit Go.Proofs.Ytiiebpfifkaleaa.Vc
def loopsA : List LA := [
]
theorem ok22 : Meets Try.prog (mkCon sig22 pre22 raw22) 22 sig22 := meetsK [] rfl 22 (by kernel_rfl) vc22
noncomputable def pr22 : Pr Try.prog := ⟨22, sig22, mkCon sig22 pre22 raw22, ok22, ⟨Try.f22, Try.func22, by kernel_rfl, by kernel_rfl⟩⟩
theorem ok10 : Meets Try.prog (mkCon sig10 pre10 raw10) 10 sig10 := meetsK [pr22] rfl 10 (by kernel_rfl) vc10
noncomputable def pr10 : Pr Try.prog := ⟨10, sig10, mkCon sig10 pre10 raw10, ok10, ⟨Try.f10, Try.func10, by kernel_rfl, by kernel_rfl⟩⟩
end Go.Proofs.Ytiiebpfifkaleaa
