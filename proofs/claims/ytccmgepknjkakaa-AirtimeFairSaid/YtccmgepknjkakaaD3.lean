/- Sums of airtimes. -/
import Derived.Test.YtccmgepknjkakaaD2
namespace Go.Proofs.Ytccmgepknjkakaa
open Go Go.RowKit Go.Proofs.Ytccmgepknjkakaa.Vc
def clm (k n : Int) : Int := if k ≤ 0 then 0 else if k ≤ n then k else n
def ttA (a : Int → Nat → Int) (n k : Int) : Int := sumI (fun j => a j 0) (clm k n)
structure ttP (a : Int → Nat → Int) (n : Int) : Prop where
  n0 : n ≤ 300
  h : ∀ j, 0 ≤ j → j < n → 0 ≤ a j 0 ∧ a j 0 ≤ 32767
end Go.Proofs.Ytccmgepknjkakaa
