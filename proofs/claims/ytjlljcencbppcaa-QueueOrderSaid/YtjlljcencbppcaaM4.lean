/- The contracts. -/
import Derived.Test.YtjlljcencbppcaaP4
import Derived.Test.YtjlljcencbppcaaM
namespace Go.Proofs.Ytjlljcencbppcaa
open Go Go.RowKit Go.Proofs.Ytjlljcencbppcaa.Vc
theorem ok3 : Meets Try.prog (mkCon sig3 pre3 raw3) 3 sig3 := meetsW [posAt Try.f3 8 9] [pr10, pr11, pr13, pr8] loopsA rfl 3 (by kernel_rfl) vc3
noncomputable def pr3 : Pr Try.prog := ⟨3, sig3, mkCon sig3 pre3 raw3, ok3, ⟨Try.f3, Try.func3, by kernel_rfl, by kernel_rfl⟩⟩
end Go.Proofs.Ytjlljcencbppcaa
