/- Contests in plain words: hearing is symmetric. -/
import Derived.Test.YtkagcjibneigdaaDoorD3
namespace Go.Proofs.YtkagcjibneigdaaDoor
open Go Go.RowKit Go.Proofs.YtkagcjibneigdaaDoor.Vc
def evR (f : Int → Int → Nat → Int) (i j : Int) : Bool := decide (f i j 0 = 0 ↔ f j i 0 = 0)
def evO (l : Int → Int) (f : Int → Int → Nat → Int) (i : Int) : Bool := allI (evR f i) (l i)
def evB (b : Int → Nat → Int) (n : Int) (l : Int → Int) (f : Int → Int → Nat → Int) (m : Int) (ask : Bool) (T : Int) : Bool := decide (ccE b n l f m ask T = 0) && allI (evO l f) m
end Go.Proofs.YtkagcjibneigdaaDoor
