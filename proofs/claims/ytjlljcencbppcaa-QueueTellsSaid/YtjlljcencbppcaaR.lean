/- Numbers that wrap. -/
import Derived.Test.YtjlljcencbppcaaE
namespace Go.Proofs.Ytjlljcencbppcaa
open Go Go.RowKit Go.Proofs.Ytjlljcencbppcaa.Vc
theorem wrap_neg {x : Int} (h0 : -9223372036854775808 ≤ x) (h1 : x ≤ 9223372036854775807) : IntKind.wrap .i64 (IntKind.wrap .i64 (0 - x) - 1) = -x - 1 := by
  have hw : ∀ y : Int, IntKind.wrap .i64 y = if y % 18446744073709551616 ≥ 9223372036854775808 then y % 18446744073709551616 - 18446744073709551616 else y % 18446744073709551616 := fun y => by
    simp [IntKind.wrap, IntKind.bits, IntKind.signed]
  rw [hw, hw]
  omega
end Go.Proofs.Ytjlljcencbppcaa
