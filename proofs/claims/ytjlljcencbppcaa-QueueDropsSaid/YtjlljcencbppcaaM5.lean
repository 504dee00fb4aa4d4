/- The contracts. -/
import Derived.Test.YtjlljcencbppcaaP5
import Derived.Test.YtjlljcencbppcaaM
namespace Go.Proofs.Ytjlljcencbppcaa
open Go Go.RowKit Go.Proofs.Ytjlljcencbppcaa.Vc
theorem ok4 : Meets Try.prog (mkCon sig4 pre4 raw4) 4 sig4 := meetsW [posAt Try.f4 9 8] [pr10, pr11, pr13, pr8] loopsA rfl 4 (by kernel_rfl) vc4
noncomputable def pr4 : Pr Try.prog := ⟨4, sig4, mkCon sig4 pre4 raw4, ok4, ⟨Try.f4, Try.func4, by kernel_rfl, by kernel_rfl⟩⟩
end Go.Proofs.Ytjlljcencbppcaa
