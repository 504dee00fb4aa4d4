/- A clock that came in as data is two numbers of their kind. -/
import Derived.Test.YtpbpmabnmakdoaaF
import Derived.Lib.SmallJoins
namespace Go.Proofs.Ytpbpmabnmakdoaa
open Go.RowKit Go.WideShapes Go.ChangeShapes Go.ChangeAt Go.Joins
theorem cellsClock : Try.prog.cellsOf 33 = 2 := by kernel_rfl
theorem open_clock {H : Type} {enc : TypeId × Value → H} {W : World} {base : Nat} {r : Reach} {b0 : Nat} {spare : Nat → Bool} {held : Bool} {v : Value} {d : DataW H} {ps : List MemPlace}
    (hval : Value.okWide Try.prog W r b0 33 v) (hd : DataW.Trod enc Try.prog W base spare held 33 v d ps) : ∃ o p : Int, v = .agg #[.int .i64 o, .int .i64 p] := by
  obtain ⟨c0, c1, y0, y1, m, rfl, _, _, h0, h1⟩ := open_agg2 Try.underlying33 (by kernel_rfl) cellsClock hval hd
  obtain ⟨a, e0, _, _⟩ := DataW.trod_int Try.underlying3 h0
  obtain ⟨b, e1, _, _⟩ := DataW.trod_int Try.underlying3 h1
  simp at e0 e1
  subst e0 e1
  exact ⟨a, b, rfl⟩
end Go.Proofs.Ytpbpmabnmakdoaa
