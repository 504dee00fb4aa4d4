/- The contracts. -/
import Derived.Test.YtjlljcencbppcaaH7
import Derived.Test.YtjlljcencbppcaaM
set_option maxRecDepth 100000
namespace Go.Proofs.Ytjlljcencbppcaa
open Go Go.RowKit Go.Proofs.Ytjlljcencbppcaa.Vc
noncomputable def pr21 : Pr Try.prog := ⟨21, sig21, mkCon sig21 pre21 raw21, ok21, ⟨Try.f21, Try.func21, by kernel_rfl, by kernel_rfl⟩⟩
end Go.Proofs.Ytjlljcencbppcaa
