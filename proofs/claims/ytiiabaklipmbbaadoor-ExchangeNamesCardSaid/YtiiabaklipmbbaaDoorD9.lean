/- Playing a sequence, in plain words. -/
import Derived.Test.YtiiabaklipmbbaaDoorD
namespace Go.Proofs.YtiiabaklipmbbaaDoor
open Go Go.RowKit Go.Proofs.YtiiabaklipmbbaaDoor.Vc
/-- how many bits -/
def lz (x : Int) : Int := if x ≤ 0 then 0 else if x ≤ 1 then 1 else if x ≤ 3 then 2 else if x ≤ 7 then 3 else if x ≤ 15 then 4 else if x ≤ 31 then 5 else 6
/-- in order -/
structure srP (a : Int → Nat → Int) (n : Int) : Prop where
  h : ∀ i j, 0 ≤ i → i ≤ j → j < n → a i 0 ≤ a j 0
/-- does the sequence go on without part i? -/
def goB (a : Int → Nat → Int) (n i : Int) : Bool := decide (a i 0 = 3 ∨ (a i 0 = 4 ∧ (i + 1 = n ∨ ¬ a (i + 1) 0 = 5)))
def inN (a : Int → Nat → Int) (x : Int) : Nat → Bool
  | 0 => false
  | k + 1 => inN a x k || decide (a k 0 = x)
def inA (a : Int → Nat → Int) (n x : Int) : Bool := inN a x n.toNat
/-- a sequence that is being played: stopped, sent, received, known -/
structure PS where
  st : Bool
  s : Int
  g : Int → Nat → Int
  gn : Int
  k : Int → Nat → Int
  kn : Int
def gone (b : Int → Nat → Int) (m i : Int) : Prop := i < m ∧ ¬ b i 0 = 0
instance (b : Int → Nat → Int) (m i : Int) : Decidable (gone b m i) := by unfold gone; exact inferInstance
def one1 (x : Int) : Int → Nat → Int := setA zA 0 0 x
def pyT (a : Int → Nat → Int) (n : Int) (b : Int → Nat → Int) (m : Int) (p : PS) (i : Int) : PS :=
  if p.st = true then p
  else if gone b m i then (if goB a n i = true then ⟨false, i + 1, p.g, p.gn, p.k, p.kn⟩ else ⟨true, i + 1, p.g, p.gn, p.k, p.kn⟩)
  else if a i 0 = 4 then ⟨false, i + 1, appA p.g p.gn (one1 (a i 2)), p.gn + 1, p.k, p.kn⟩
  else if a i 0 = 5 then ⟨false, i + 1, p.g, p.gn, appA p.k p.kn (one1 (a i 2)), p.kn + 1⟩
  else if a i 0 = 7 then ⟨false, i + 1, p.g, p.gn, appA p.k p.kn p.g, p.kn + p.gn⟩
  else ⟨false, i + 1, p.g, p.gn, p.k, p.kn⟩
def pyF (a : Int → Nat → Int) (n : Int) (b : Int → Nat → Int) (m : Int) : Nat → PS
  | 0 => ⟨false, 0, zA, 0, zA, 0⟩
  | i + 1 => pyT a n b m (pyF a n b m i) i
def pyS (a : Int → Nat → Int) (n : Int) (b : Int → Nat → Int) (m : Int) : Int := (pyF a n b m n.toNat).s
def pyG (a : Int → Nat → Int) (n : Int) (b : Int → Nat → Int) (m : Int) : Int → Nat → Int := (pyF a n b m n.toNat).g
def pyN (a : Int → Nat → Int) (n : Int) (b : Int → Nat → Int) (m : Int) : Int := (pyF a n b m n.toNat).gn
def pyK (a : Int → Nat → Int) (n : Int) (b : Int → Nat → Int) (m : Int) : Int → Nat → Int := (pyF a n b m n.toNat).k
def pyM (a : Int → Nat → Int) (n : Int) (b : Int → Nat → Int) (m : Int) : Int := (pyF a n b m n.toNat).kn
/-- what a sequence's parts are like -/
structure pyP (a : Int → Nat → Int) (n : Int) : Prop where
  len : n ≤ 36
  dt : ∀ i j, 0 ≤ i → i < j → j < n → a i 0 = 4 → a j 0 = 4 → a i 2 < a j 2
  ak : ∀ i j, 0 ≤ i → i < j → j < n → a i 0 = 5 → a j 0 = 5 → a i 2 < a j 2
  bk : ∀ i, 0 ≤ i → i < n → a i 0 = 7 → i = n - 1 ∧ ∀ j, 0 ≤ j → j < n → ¬ a j 0 = 5
end Go.Proofs.YtiiabaklipmbbaaDoor
