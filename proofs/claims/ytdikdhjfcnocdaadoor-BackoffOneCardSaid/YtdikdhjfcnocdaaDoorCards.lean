/-
  DERIVED. GIVEN WITH THE SEED: THE CARDS: each row of YtdikdhjfcnocdaaDoorRows.lean that lists a variable, with what it lists TIED to the program's text (the seventh form; the later family's looks); each row that meets fmt, with fmt's text TOLD by the authors' own Lean function (tested against real Go, not proved from fmt's source: count such statements apart). THE CARD IS WHAT COUNTS. Prove the row's statement (the work); the ties are given (YtdikdhjfcnocdaaDoorTie.lean); close each card by the builder's one call (the guide's Derived/Test/ToyasCard.lean, 'card_holds'). Laid BY PROGRAM, IN A SANDBOX (cutbox-door.mjs). By AI agents, Wed Nov 11 2026. No macro, syntax, notation, axiom, sorry.
-/
import Derived.Test.YtdikdhjfcnocdaaDoorRows
import GoSem.ClaimSeven
namespace Go.Proofs.YtdikdhjfcnocdaaDoor
namespace Rows

/-- THE TIED CARD OF 'hotspotlaw14.BackoffTells'. -/
def backoffTellsCard : Claim7 := { stood := { row := backoffTellsRow, standIns := [], harness := (true, "923b06f471e0cbc2ffb87bc683f594e4e38e27fd5a71f589a2647f2ac0aea865"), looks := false }, kinds := [], alts := [], laidByText := true, laidKinds := [.data], laidTests := true, laidLooks := .later }
def BackoffTellsCardSaid : Prop := Claim7.holds Tryd.pinned (.plain (OpenSpec.ofChange backoffTellsSpec)) backoffTellsCard

/-- THE TIED CARD OF 'hotspotlaw14.BackoffBounds'. -/
def backoffBoundsCard : Claim7 := { stood := { row := backoffBoundsRow, standIns := [], harness := (true, "923b06f471e0cbc2ffb87bc683f594e4e38e27fd5a71f589a2647f2ac0aea865"), looks := false }, kinds := [], alts := [], laidByText := true, laidKinds := [.data], laidTests := true, laidLooks := .later }
def BackoffBoundsCardSaid : Prop := Claim7.holds Tryd.pinned (.plain (OpenSpec.ofChange backoffBoundsSpec)) backoffBoundsCard

/-- THE TIED CARD OF 'hotspotlaw14.BackoffDrops'. -/
def backoffDropsCard : Claim7 := { stood := { row := backoffDropsRow, standIns := [], harness := (true, "923b06f471e0cbc2ffb87bc683f594e4e38e27fd5a71f589a2647f2ac0aea865"), looks := false }, kinds := [], alts := [], laidByText := true, laidKinds := [.data], laidTests := true, laidLooks := .later }
def BackoffDropsCardSaid : Prop := Claim7.holds Tryd.pinned (.plain (OpenSpec.ofChange backoffDropsSpec)) backoffDropsCard

/-- THE TIED CARD OF 'hotspotlaw14.BackoffResolves'. -/
def backoffResolvesCard : Claim7 := { stood := { row := backoffResolvesRow, standIns := [], harness := (true, "923b06f471e0cbc2ffb87bc683f594e4e38e27fd5a71f589a2647f2ac0aea865"), looks := false }, kinds := [], alts := [], laidByText := true, laidKinds := [.data], laidTests := true, laidLooks := .later }
def BackoffResolvesCardSaid : Prop := Claim7.holds Tryd.pinned (.plain (OpenSpec.ofChange backoffResolvesSpec)) backoffResolvesCard

/-- THE TIED CARD OF 'hotspotlaw14.BackoffOne'. -/
def backoffOneCard : Claim7 := { stood := { row := backoffOneRow, standIns := [], harness := (true, "923b06f471e0cbc2ffb87bc683f594e4e38e27fd5a71f589a2647f2ac0aea865"), looks := false }, kinds := [], alts := [], laidByText := true, laidKinds := [.data], laidTests := true, laidLooks := .later }
def BackoffOneCardSaid : Prop := Claim7.holds Tryd.pinned (.plain (OpenSpec.ofChange backoffOneSpec)) backoffOneCard

/-- THE TIED CARD OF 'hotspotlaw14.BackoffRuns'. -/
def backoffRunsCard : Claim7 := { stood := { row := backoffRunsRow, standIns := [], harness := (true, "923b06f471e0cbc2ffb87bc683f594e4e38e27fd5a71f589a2647f2ac0aea865"), looks := false }, kinds := [], alts := [], laidByText := true, laidKinds := [.data], laidTests := true, laidLooks := .later }
def BackoffRunsCardSaid : Prop := Claim7.holds Tryd.pinned (.plain (OpenSpec.ofChange backoffRunsSpec)) backoffRunsCard

/-- THE TIED CARD OF 'hotspotlaw14.BackoffWaits'. -/
def backoffWaitsCard : Claim7 := { stood := { row := backoffWaitsRow, standIns := [], harness := (true, "923b06f471e0cbc2ffb87bc683f594e4e38e27fd5a71f589a2647f2ac0aea865"), looks := false }, kinds := [], alts := [], laidByText := true, laidKinds := [.data], laidTests := true, laidLooks := .later }
def BackoffWaitsCardSaid : Prop := Claim7.holds Tryd.pinned (.plain (OpenSpec.ofChange backoffWaitsSpec)) backoffWaitsCard

/-- THE TIED CARD OF 'hotspotlaw14.BackoffNames'. -/
def backoffNamesCard : Claim7 := { stood := { row := backoffNamesRow, standIns := [], harness := (true, "923b06f471e0cbc2ffb87bc683f594e4e38e27fd5a71f589a2647f2ac0aea865"), looks := false }, kinds := [], alts := [], laidByText := true, laidKinds := [.data], laidTests := true, laidLooks := .later }
def BackoffNamesCardSaid : Prop := Claim7.holds Tryd.pinned (.plain (OpenSpec.ofChange backoffNamesSpec)) backoffNamesCard

/-- THE SECOND FORM's CARD OF 'hotspotlaw14.BackoffTells'. -/
def backoffTellsUptoCard : Claim7 := { stood := { row := backoffTellsUptoRow, standIns := [], harness := (true, "923b06f471e0cbc2ffb87bc683f594e4e38e27fd5a71f589a2647f2ac0aea865"), looks := false }, kinds := [], alts := [], laidByText := true, laidKinds := [.data], laidTests := true, laidLooks := .later }
def BackoffTellsUptoCardSaid : Prop := Claim7.holds Tryd.pinned (.plain (OpenSpec.upto backoffTellsSpec)) backoffTellsUptoCard

/-- THE SECOND FORM's CARD OF 'hotspotlaw14.BackoffBounds'. -/
def backoffBoundsUptoCard : Claim7 := { stood := { row := backoffBoundsUptoRow, standIns := [], harness := (true, "923b06f471e0cbc2ffb87bc683f594e4e38e27fd5a71f589a2647f2ac0aea865"), looks := false }, kinds := [], alts := [], laidByText := true, laidKinds := [.data], laidTests := true, laidLooks := .later }
def BackoffBoundsUptoCardSaid : Prop := Claim7.holds Tryd.pinned (.plain (OpenSpec.upto backoffBoundsSpec)) backoffBoundsUptoCard

/-- THE SECOND FORM's CARD OF 'hotspotlaw14.BackoffDrops'. -/
def backoffDropsUptoCard : Claim7 := { stood := { row := backoffDropsUptoRow, standIns := [], harness := (true, "923b06f471e0cbc2ffb87bc683f594e4e38e27fd5a71f589a2647f2ac0aea865"), looks := false }, kinds := [], alts := [], laidByText := true, laidKinds := [.data], laidTests := true, laidLooks := .later }
def BackoffDropsUptoCardSaid : Prop := Claim7.holds Tryd.pinned (.plain (OpenSpec.upto backoffDropsSpec)) backoffDropsUptoCard

/-- THE SECOND FORM's CARD OF 'hotspotlaw14.BackoffResolves'. -/
def backoffResolvesUptoCard : Claim7 := { stood := { row := backoffResolvesUptoRow, standIns := [], harness := (true, "923b06f471e0cbc2ffb87bc683f594e4e38e27fd5a71f589a2647f2ac0aea865"), looks := false }, kinds := [], alts := [], laidByText := true, laidKinds := [.data], laidTests := true, laidLooks := .later }
def BackoffResolvesUptoCardSaid : Prop := Claim7.holds Tryd.pinned (.plain (OpenSpec.upto backoffResolvesSpec)) backoffResolvesUptoCard

/-- THE SECOND FORM's CARD OF 'hotspotlaw14.BackoffOne'. -/
def backoffOneUptoCard : Claim7 := { stood := { row := backoffOneUptoRow, standIns := [], harness := (true, "923b06f471e0cbc2ffb87bc683f594e4e38e27fd5a71f589a2647f2ac0aea865"), looks := false }, kinds := [], alts := [], laidByText := true, laidKinds := [.data], laidTests := true, laidLooks := .later }
def BackoffOneUptoCardSaid : Prop := Claim7.holds Tryd.pinned (.plain (OpenSpec.upto backoffOneSpec)) backoffOneUptoCard

/-- THE SECOND FORM's CARD OF 'hotspotlaw14.BackoffRuns'. -/
def backoffRunsUptoCard : Claim7 := { stood := { row := backoffRunsUptoRow, standIns := [], harness := (true, "923b06f471e0cbc2ffb87bc683f594e4e38e27fd5a71f589a2647f2ac0aea865"), looks := false }, kinds := [], alts := [], laidByText := true, laidKinds := [.data], laidTests := true, laidLooks := .later }
def BackoffRunsUptoCardSaid : Prop := Claim7.holds Tryd.pinned (.plain (OpenSpec.upto backoffRunsSpec)) backoffRunsUptoCard

/-- THE SECOND FORM's CARD OF 'hotspotlaw14.BackoffWaits'. -/
def backoffWaitsUptoCard : Claim7 := { stood := { row := backoffWaitsUptoRow, standIns := [], harness := (true, "923b06f471e0cbc2ffb87bc683f594e4e38e27fd5a71f589a2647f2ac0aea865"), looks := false }, kinds := [], alts := [], laidByText := true, laidKinds := [.data], laidTests := true, laidLooks := .later }
def BackoffWaitsUptoCardSaid : Prop := Claim7.holds Tryd.pinned (.plain (OpenSpec.upto backoffWaitsSpec)) backoffWaitsUptoCard

/-- THE SECOND FORM's CARD OF 'hotspotlaw14.BackoffNames'. -/
def backoffNamesUptoCard : Claim7 := { stood := { row := backoffNamesUptoRow, standIns := [], harness := (true, "923b06f471e0cbc2ffb87bc683f594e4e38e27fd5a71f589a2647f2ac0aea865"), looks := false }, kinds := [], alts := [], laidByText := true, laidKinds := [.data], laidTests := true, laidLooks := .later }
def BackoffNamesUptoCardSaid : Prop := Claim7.holds Tryd.pinned (.plain (OpenSpec.upto backoffNamesSpec)) backoffNamesUptoCard
end Rows
end Go.Proofs.YtdikdhjfcnocdaaDoor
