/-
  DERIVED. GIVEN WITH THE SEED: THE CARDS: each row of YtiiabaklipmbbaaDoorRows.lean that lists a variable, with what it lists TIED to the program's text (the seventh form; the later family's looks); each row that meets fmt, with fmt's text TOLD by the authors' own Lean function (tested against real Go, not proved from fmt's source: count such statements apart). THE CARD IS WHAT COUNTS. Prove the row's statement (the work); the ties are given (YtiiabaklipmbbaaDoorTie.lean); close each card by the builder's one call (the guide's Derived/Test/ToyasCard.lean, 'card_holds'). Laid BY PROGRAM, IN A SANDBOX (cutbox-door.mjs). By AI agents, Wed Nov 11 2026. No macro, syntax, notation, axiom, sorry.
-/
import Derived.Test.YtiiabaklipmbbaaDoorRows
import GoSem.ClaimSeven
namespace Go.Proofs.YtiiabaklipmbbaaDoor
namespace Rows

/-- THE TIED CARD OF 'hotspotlaw15.ExchangeNames'. -/
def exchangeNamesCard : Claim7 := { stood := { row := exchangeNamesRow, standIns := [], harness := (true, "2728b1d47abc5e3fee7b1d18635d910aea7fd111ae9295f140eb9a6c5e4963a0"), looks := false }, kinds := [], alts := [], laidByText := true, laidKinds := [.mapped], laidTests := true, laidLooks := .later }
def ExchangeNamesCardSaid : Prop := Claim7.holds Tryd.pinned (.plain (OpenSpec.ofChange exchangeNamesSpec)) exchangeNamesCard

/-- THE TIED CARD OF 'hotspotlaw15.ExchangeReserves'. -/
def exchangeReservesCard : Claim7 := { stood := { row := exchangeReservesRow, standIns := [], harness := (true, "2728b1d47abc5e3fee7b1d18635d910aea7fd111ae9295f140eb9a6c5e4963a0"), looks := false }, kinds := [], alts := [], laidByText := true, laidKinds := [.mapped], laidTests := true, laidLooks := .later }
def ExchangeReservesCardSaid : Prop := Claim7.holds Tryd.pinned (.plain (OpenSpec.ofChange exchangeReservesSpec)) exchangeReservesCard

/-- THE SECOND FORM's CARD OF 'hotspotlaw15.ExchangeNames'. -/
def exchangeNamesUptoCard : Claim7 := { stood := { row := exchangeNamesUptoRow, standIns := [], harness := (true, "2728b1d47abc5e3fee7b1d18635d910aea7fd111ae9295f140eb9a6c5e4963a0"), looks := false }, kinds := [], alts := [], laidByText := true, laidKinds := [.mapped], laidTests := true, laidLooks := .later }
def ExchangeNamesUptoCardSaid : Prop := Claim7.holds Tryd.pinned (.plain (OpenSpec.upto exchangeNamesSpec)) exchangeNamesUptoCard

/-- THE SECOND FORM's CARD OF 'hotspotlaw15.ExchangeReserves'. -/
def exchangeReservesUptoCard : Claim7 := { stood := { row := exchangeReservesUptoRow, standIns := [], harness := (true, "2728b1d47abc5e3fee7b1d18635d910aea7fd111ae9295f140eb9a6c5e4963a0"), looks := false }, kinds := [], alts := [], laidByText := true, laidKinds := [.mapped], laidTests := true, laidLooks := .later }
def ExchangeReservesUptoCardSaid : Prop := Claim7.holds Tryd.pinned (.plain (OpenSpec.upto exchangeReservesSpec)) exchangeReservesUptoCard
end Rows
end Go.Proofs.YtiiabaklipmbbaaDoor
