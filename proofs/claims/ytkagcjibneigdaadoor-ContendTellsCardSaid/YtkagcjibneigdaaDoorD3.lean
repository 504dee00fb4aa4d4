/- Contests in plain words: comparing, sizes, all hear each other. -/
import Derived.Test.YtkagcjibneigdaaDoorD2
namespace Go.Proofs.YtkagcjibneigdaaDoor
open Go Go.RowKit Go.Proofs.YtkagcjibneigdaaDoor.Vc
def sbR (a b : Int → Nat → Int) (i : Int) : Bool := decide (a i 0 = b i 0 ∧ a i 1 = b i 1 ∧ a i 2 = b i 2 ∧ (a i 3 = 0 ↔ b i 3 = 0) ∧ (a i 4 = 0 ↔ b i 4 = 0))
def sbB (a : Int → Nat → Int) (n : Int) (b : Int → Nat → Int) (m : Int) : Bool := decide (n = m) && allI (sbR a b) n
def l20 (l : Int → Int) (i : Int) : Bool := decide (l i ≤ 20)
def gcB (n : Int) (l : Int → Int) (m T s : Int) : Bool := decide ((20 < n ∨ 20 < m) ∨ (s < T ∧ T ≤ 2000)) || !(allI (l20 l) m)
def meR (f : Int → Int → Nat → Int) (i j : Int) : Bool := decide (i = j ∨ ¬ f i j 0 = 0)
def meO (l : Int → Int) (f : Int → Int → Nat → Int) (i : Int) : Bool := allI (meR f i) (l i)
def meB (l : Int → Int) (f : Int → Int → Nat → Int) (m : Int) : Bool := allI (meO l f) m
end Go.Proofs.YtkagcjibneigdaaDoor
