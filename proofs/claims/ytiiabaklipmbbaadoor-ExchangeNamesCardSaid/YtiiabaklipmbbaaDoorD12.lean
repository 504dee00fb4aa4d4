/- A part's header, in plain words. -/
import Derived.Test.YtiiabaklipmbbaaDoorD
namespace Go.Proofs.YtiiabaklipmbbaaDoor
open Go Go.RowKit Go.Proofs.YtiiabaklipmbbaaDoor.Vc
def hdG (k d : Int) : Bool := decide ((1 ≤ k ∧ k ≤ 7) ∧ 0 ≤ d ∧ d ≤ 32767)
def hdK (k d : Int) : Int := if hdG k d = true then (if k = 4 then 2 else 1) else 0
def hdS (k d : Int) : Int := if hdG k d = true then (if k = 1 then 11 else if k = 2 ∨ k = 3 then 12 else if k = 4 ∨ k = 6 then 8 else if k = 5 then 13 else 9) else 0
def hdD (k d : Int) : Int := if hdG k d = true then d else 0
/-- a byte of the receiver's address -/
def hdO (k : Int) (pr : Bool) (d me you : Int) : Int := if hdG k d = true then (if k = 3 ∨ pr = true then me else you) else 0
/-- a byte of the sender's address -/
def hdF (k : Int) (pr : Bool) (d me you : Int) : Int := if hdG k d = true ∧ ¬ k = 2 ∧ ¬ k = 3 ∧ ¬ k = 5 then (if pr = true then you else me) else 0
def hdE (k d : Int) : Int := if hdG k d = true then 0 else 2
end Go.Proofs.YtiiabaklipmbbaaDoor
