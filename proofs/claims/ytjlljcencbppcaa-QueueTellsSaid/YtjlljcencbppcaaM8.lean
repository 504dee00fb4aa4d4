/- The contracts. -/
import Derived.Test.YtjlljcencbppcaaP8
import Derived.Test.YtjlljcencbppcaaM7
import Derived.Test.YtjlljcencbppcaaM
set_option maxRecDepth 100000
namespace Go.Proofs.Ytjlljcencbppcaa
open Go Go.RowKit Go.Proofs.Ytjlljcencbppcaa.Vc
theorem ok7 : Meets Try.prog (mkCon sig7 pre7 raw7) 7 sig7 := meetsW [posAt Try.f7 17 7] [pr10, pr20, pr11, pr17, pr13, pr18, pr12, pr19, pr16, pr15, pr21] loopsA rfl 7 (by kernel_rfl) (vh7 vc7)
noncomputable def pr7 : Pr Try.prog := ⟨7, sig7, mkCon sig7 pre7 raw7, ok7, ⟨Try.f7, Try.func7, by kernel_rfl, by kernel_rfl⟩⟩
end Go.Proofs.Ytjlljcencbppcaa
