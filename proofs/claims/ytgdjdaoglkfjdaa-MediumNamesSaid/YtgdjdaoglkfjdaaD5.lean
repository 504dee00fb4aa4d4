/- Receiving in plain words. -/
import Derived.Test.YtgdjdaoglkfjdaaD4
namespace Go.Proofs.Ytgdjdaoglkfjdaa
open Go Go.RowKit Go.Proofs.Ytgdjdaoglkfjdaa.Vc
/-- does transmission r stop node j from receiving transmission i? -/
def cnX (a : Int → Nat → Int) (f : Int → Int → Nat → Int) (m : Int) (b : Int → Nat → Int) (i j r : Int) : Bool := decide (b r 0 = j) || (decide (a (b r 0) 3 = a j 3) && decide (lvA a f m (b i 0) j < lvA a f m (b r 0) j + 100))
def cnR (a : Int → Nat → Int) (f : Int → Int → Nat → Int) (m : Int) (b : Int → Nat → Int) (i j r : Int) : Bool := decide (r = i) || (!(ovl (b r 1) (b r 2) (b i 1) (b i 2)) || !(cnX a f m b i j r))
/-- node j can receive transmission i -/
def caB (a : Int → Nat → Int) (f : Int → Int → Nat → Int) (m : Int) (b : Int → Nat → Int) (k i j : Int) : Bool := hrA a f m j (b i 0) && (decide (b i 3 ≤ lvA a f m (b i 0) j) && allI (cnR a f m b i j) k)
/-- a draw loses nothing -/
def kpB (d : Int → Nat → Int) (h c : Int) : Bool := decide (h ≤ c ∨ d c 0 = 0)
/-- how many could receive, before row i -/
def rvC (p : Int → Int → Bool) (n : Int) : Nat → Int
  | 0 => 0
  | i + 1 => rvC p n i + cntI (p i) n
def rvQ (p : Int → Int → Bool) (n : Int) (d : Int → Nat → Int) (h i j : Int) : Bool := p i j && kpB d h (rvC p n i.toNat + cntI (p i) j)
def reL (a : Int → Nat → Int) (n : Int) (f : Int → Int → Nat → Int) (m : Int) (b : Int → Nat → Int) (k : Int) (d : Int → Nat → Int) (h i : Int) : Int := cntI (rvQ (caB a f m b k) n d h i) n
def reF (a : Int → Nat → Int) (n : Int) (f : Int → Int → Nat → Int) (m : Int) (b : Int → Nat → Int) (k : Int) (d : Int → Nat → Int) (h i : Int) : Int → Nat → Int := lstI (rvQ (caB a f m b k) n d h i) n
def reN (a : Int → Nat → Int) (n : Int) (l : Int → Int) (f : Int → Int → Nat → Int) (m : Int) (b : Int → Nat → Int) (k : Int) : Int := if mcE a n l f m b k = 0 then k else 0
def srB (l : Int → Int) (f : Int → Int → Nat → Int) (m : Int) (l' : Int → Int) (f' : Int → Int → Nat → Int) (m' : Int) : Bool := decide (m = m') && allI (smR l f l' f') m
def haN (a : Int → Nat → Int) (x i : Int) : Bool := !(decide (a i 0 = x))
def haB (a : Int → Nat → Int) (n x : Int) : Bool := !(allI (haN a x) n)
def neA : Int → Nat → Int := setA (setA (setA (setA (setA (setA (setA (setA (setA (setA (setA (setA zA 0 0 (-1000)) 0 1 0) 0 2 300) 0 3 1) 1 0 0) 1 1 0) 1 2 300) 1 3 1) 2 0 1000) 2 1 0) 2 2 300) 2 3 1
end Go.Proofs.Ytgdjdaoglkfjdaa
