/- The contracts. -/
import Derived.Test.YtgdjdaoglkfjdaaH7
import Derived.Test.YtgdjdaoglkfjdaaM
set_option maxRecDepth 100000
namespace Go.Proofs.Ytgdjdaoglkfjdaa
open Go Go.RowKit Go.Proofs.Ytgdjdaoglkfjdaa.Vc
noncomputable def pr43 : Pr Try.prog := ⟨43, sig43, mkCon sig43 pre43 raw43, ok43, ⟨Try.f43, Try.func43, by kernel_rfl, by kernel_rfl⟩⟩
end Go.Proofs.Ytgdjdaoglkfjdaa
