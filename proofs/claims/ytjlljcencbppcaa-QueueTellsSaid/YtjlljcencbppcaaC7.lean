/- What the functions do, and what is left to show of each. -/
import Derived.Test.YtjlljcencbppcaaC
set_option linter.unusedVariables false
namespace Go.Proofs.Ytjlljcencbppcaa
open Go Go.RowKit Go.Proofs.Ytjlljcencbppcaa.Vc
/-! queue.Bytes -/
def sig21 : CSig := ⟨[⟨true, [.slc [.int .i64, .int .i64, .int .i64], .int .i64, .int .i64]⟩], [⟨false, [.int .i64]⟩, ⟨false, [.int .i64]⟩]⟩
def pre21 : List AV → Prop
  | [.a v0, .i v1, .i v2, .i v3] => True
  | _ => False
noncomputable def raw21 : List AV → List AV
  | [.a v0, .i v1, .i v2, .i v3] => [.i ((hidF byS) v0 v1 v2 v3), .i ((hidF ckQ) v0 v1 v2 v3)]
  | _ => []
end Go.Proofs.Ytjlljcencbppcaa
