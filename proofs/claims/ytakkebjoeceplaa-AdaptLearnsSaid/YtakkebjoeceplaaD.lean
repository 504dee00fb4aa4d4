/- Rate control in plain words: what the functions of the program and of the reference return. -/
import Derived.Test.YtakkebjoeceplaaW
namespace Go.Proofs.Ytakkebjoeceplaa
open Go Go.RowKit Go.Proofs.Ytakkebjoeceplaa.Vc
/-- the first k all have it -/
def allB : Nat → (Int → Bool) → Bool
  | 0, _ => true
  | k + 1, p => allB k p && p k
def okZ (air tr go ch : Int) (kn : Bool) : Bool := decide (1 ≤ air ∧ air ≤ 32767 ∧ 0 ≤ tr ∧ tr ≤ 10000 ∧ 0 ≤ go ∧ go ≤ tr ∧ 0 ≤ ch ∧ ch ≤ 1000 ∧ (kn = true ∨ ch = 0))
def knB (a : Int → Nat → Int) (i : Int) : Bool := !(decide (a i 4 = 0))
def okR (a : Int → Nat → Int) (i : Int) : Bool := okZ (a i 0) (a i 1) (a i 2) (a i 3) (knB a i)
def ckA (a : Int → Nat → Int) (n r : Int) : Int := if 1 ≤ n ∧ n ≤ 16 ∧ 0 ≤ r ∧ r ≤ 1099511627776 ∧ allB n.toNat (okR a) = true then 0 else 8
/-- a fresh state -/
def nwA (b : Int → Nat → Int) : Int → Nat → Int := fun i g => if g = 0 then b i 0 else 0
def nwE (b : Int → Nat → Int) (n : Int) : Int := if ckA (nwA b) n 0 = 0 then 0 else 2
def nwN (b : Int → Nat → Int) (n : Int) : Int := if nwE b n = 0 then n else 0
/-- attempts added -/
def rpA (a : Int → Nat → Int) (rate t go : Int) : Int → Nat → Int := fun i g => if i = rate ∧ g = 2 then a i g + go else if i = rate ∧ g = 1 then a i g + t else a i g
def rpE (a : Int → Nat → Int) (n r rate t go : Int) : Int :=
  if ckA a n r = 0 then if 0 ≤ rate ∧ rate < n ∧ 0 ≤ t ∧ t ≤ 10000 ∧ 0 ≤ go ∧ go ≤ t then if a rate 1 + t ≤ 10000 then 0 else 22 else 2 else 8
def rpN (a : Int → Nat → Int) (n r rate t go : Int) : Int := if rpE a n r rate t go = 0 then n else 0
def rpR (a : Int → Nat → Int) (n r rate t go : Int) : Int := if rpE a n r rate t go = 0 then r else 0
/-- a rate after a round -/
def rdC (tr go ch : Int) (kn : Bool) : Int := if tr = 0 then ch else if kn = true then Int.tdiv (3 * ch + Int.tdiv (1000 * go) tr) 4 else Int.tdiv (1000 * go) tr
def rdK (tr : Int) (kn : Bool) : Bool := !(decide (tr = 0)) || kn
def rdP (a : Int → Nat → Int) : Int → Nat → Int := fun i g => if g = 0 then a i 0 else if g = 3 then rdC (a i 1) (a i 2) (a i 3) (knB a i) else if g = 4 then (if rdK (a i 1) (knB a i) = true then 1 else 0) else 0
def rdF (a : Int → Nat → Int) : Int → Nat → Int := fun i g => if a i 1 = 0 then a i g else rdP a i g
def rdE (a : Int → Nat → Int) (n r : Int) : Int := if ckA a n r = 0 then if r < 1099511627776 then 0 else 22 else 8
def rdN (a : Int → Nat → Int) (n r : Int) : Int := if rdE a n r = 0 then n else 0
def rdR (a : Int → Nat → Int) (n r : Int) : Int := if rdE a n r = 0 then r + 1 else 0
/-- the same -/
def smR (a b : Int → Nat → Int) (i : Int) : Bool := decide (a i 0 = b i 0 ∧ a i 1 = b i 1 ∧ a i 2 = b i 2 ∧ a i 3 = b i 3) && (knB a i == knB b i)
def smA (a : Int → Nat → Int) (n r : Int) (b : Int → Nat → Int) (m q : Int) : Bool := decide (n = m ∧ r = q) && allB n.toNat (smR a b)
end Go.Proofs.Ytakkebjoeceplaa
