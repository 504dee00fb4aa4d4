/- Clocks in plain words: what the functions of the program and of the reference return. -/
import Derived.Test.YtpbpmabnmakdoaaW
namespace Go.Proofs.Ytpbpmabnmakdoaa
open Go Go.RowKit Go.Proofs.Ytpbpmabnmakdoaa.Vc
def okC (o p : Int) : Prop := -1099511627776 ≤ o ∧ o ≤ 1099511627776 ∧ -100 ≤ p ∧ p ≤ 100
def okL (o p : Int) : Prop := -(2^46) ≤ o ∧ o ≤ 2^46 ∧ -100 ≤ p ∧ p ≤ 100
def ckZ (o p : Int) : Int := if -1099511627776 ≤ o ∧ o ≤ 1099511627776 ∧ -100 ≤ p ∧ p ≤ 100 then 0 else 8
/-- the local time -/
def tmZ (o p n : Int) : Int := n + o + Int.fdiv (n * p) 1000000
def adZ (o p n s : Int) : Int := o + max (s - tmZ o p n) 0
def adO (o p n s : Int) : Int := if ckZ (adZ o p n s) p = 0 then adZ o p n s else 0
def adP (o p n s : Int) : Int := if ckZ (adZ o p n s) p = 0 then p else 0
/-- the greatest of a number and the local times of the clocks that are heard, the first k of them -/
def best (l : Int → Nat → Int) (now : Int) (row : Int → Int) : Nat → Int → Int
  | 0, b => b
  | k + 1, b => max (best l now row k b) (tmZ (l (row k) 0) (l (row k) 1) now)
def bestOf (l : Int → Nat → Int) (m : Int → Int) (f : Int → Int → Nat → Int) (now : Int) (i : Int) : Int := best l now (fun k => f i k 0) (m i).toNat (tmZ (l i 0) (l i 1) now)
def offs (l : Int → Nat → Int) (m : Int → Int) (f : Int → Int → Nat → Int) (now : Int) (i : Int) : Int := adZ (l i 0) (l i 1) now (bestOf l m f now i)
/-- the error of a round -/
noncomputable def rdE (l : Int → Nat → Int) (n : Int) (m : Int → Int) (f : Int → Int → Nat → Int) (k now : Int) : Int :=
  open Classical in
  if ∃ i : Int, 0 ≤ i ∧ i < n ∧ ckZ (l i 0) (l i 1) ≠ 0 then 8
  else if 32 < n ∨ k ≠ n ∨ now < 0 ∨ 1099511627776 < now ∨ ∃ i j : Int, 0 ≤ i ∧ i < k ∧ 0 ≤ j ∧ j < m i ∧ (f i j 0 < 0 ∨ n ≤ f i j 0) then 2
  else if ∃ i : Int, 0 ≤ i ∧ i < n ∧ ckZ (offs l m f now i) (l i 1) ≠ 0 then 8
  else 0
noncomputable def rdN (l : Int → Nat → Int) (n : Int) (m : Int → Int) (f : Int → Int → Nat → Int) (k now : Int) : Int := if rdE l n m f k now = 0 then n else 0
noncomputable def rdA (l : Int → Nat → Int) (n : Int) (m : Int → Int) (f : Int → Int → Nat → Int) (k now : Int) : Int → Nat → Int := fun i g => if g = 0 then offs l m f now i else l i 1
/-- two lists agree, row by row -/
noncomputable def sameB (w : Nat) (a : Int → Nat → Int) (n : Int) (b : Int → Nat → Int) (m : Int) : Bool :=
  open Classical in decide (n = m ∧ ∀ (i : Int) (g : Nat), 0 ≤ i → i < n → g < w → a i g = b i g)
def asE (o p n : Int) : Int := if ckZ o p = 0 then if n < 0 ∨ 1099511627776 < n then 2 else 0 else ckZ o p
def lcV (o p n : Int) : Int := if asE o p n = 0 then tmZ o p n else 0
end Go.Proofs.Ytpbpmabnmakdoaa
