/- The reference's contests in plain words: who sends, who is disturbed. -/
import Derived.Test.YtkagcjibneigdaaDoorD4
namespace Go.Proofs.YtkagcjibneigdaaDoor
open Go Go.RowKit Go.Proofs.YtkagcjibneigdaaDoor.Vc
def onR (B : Int → Nat → Int) (who t bf i : Int) : Bool := !(decide (B i 0 = who ∧ B i 1 < bf ∧ B i 1 ≤ t ∧ t < B i 2))
/-- does a station send in a slot, by transmissions that began before a slot? -/
def onB (B : Int → Nat → Int) (nb who t bf : Int) : Bool := !(allI (onR B who t bf) nb)
def diN (f : Int → Int → Nat → Int) (B : Int → Nat → Int) (nb to who t k : Int) : Bool := !(!(decide (k = who)) && (hrB f to k && onB B nb k t (t + 1)))
/-- is the transmission of a station disturbed? -/
def diB (f : Int → Int → Nat → Int) (n to : Int) (B : Int → Nat → Int) (nb who t : Int) : Bool := !(hrB f to who) || (onB B nb to t (t + 1) || !(allI (diN f B nb to who t) n))
def ssR (a b : Int → Nat → Int) (i : Int) : Bool := decide (a i 0 = b i 0 ∧ a i 1 = b i 1 ∧ a i 2 = b i 2 ∧ a i 3 = b i 3 ∧ a i 4 = b i 4 ∧ a i 5 = b i 5 ∧ a i 6 = b i 6)
def ssB (a : Int → Nat → Int) (n : Int) (b : Int → Nat → Int) (m : Int) : Bool := decide (n = m) && allI (ssR a b) n
structure dsP (xs : Int → Nat → Int) (n : Int) (l : Int → Int) (m who t : Int) : Prop where
  w0 : 0 ≤ who
  w1 : who < n
  nm : n = m
  to0 : 0 ≤ xs who 6
  to1 : xs who 6 < n
  row : ∀ i, 0 ≤ i → i < m → l i = n
  t0 : 0 ≤ t
  t1 : t ≤ 4611686018427387904
end Go.Proofs.YtkagcjibneigdaaDoor
