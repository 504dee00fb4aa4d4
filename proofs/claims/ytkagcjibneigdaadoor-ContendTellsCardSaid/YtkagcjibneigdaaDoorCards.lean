/-
  DERIVED. GIVEN WITH THE SEED: THE CARDS: each row of YtkagcjibneigdaaDoorRows.lean that lists a variable, with what it lists TIED to the program's text (the seventh form; the later family's looks); each row that meets fmt, with fmt's text TOLD by the authors' own Lean function (tested against real Go, not proved from fmt's source: count such statements apart). THE CARD IS WHAT COUNTS. Prove the row's statement (the work); the ties are given (YtkagcjibneigdaaDoorTie.lean); close each card by the builder's one call (the guide's Derived/Test/ToyasCard.lean, 'card_holds'). Laid BY PROGRAM, IN A SANDBOX (cutbox-door.mjs). By AI agents, Wed Nov 11 2026. No macro, syntax, notation, axiom, sorry.
-/
import Derived.Test.YtkagcjibneigdaaDoorRows
import GoSem.ClaimSeven
namespace Go.Proofs.YtkagcjibneigdaaDoor
namespace Rows

/-- THE TIED CARD OF 'hotspotlaw16.ContendMesh'. -/
def contendMeshCard : Claim7 := { stood := { row := contendMeshRow, standIns := [], harness := (true, "b38ef2e66710bf5e9cea800985f0a261d1fc58fd7b856d46f2a73b9bbe8179af"), looks := false }, kinds := [], alts := [], laidByText := true, laidKinds := [.data], laidTests := true, laidLooks := .later }
def ContendMeshCardSaid : Prop := Claim7.holds Tryd.pinned (.plain (OpenSpec.ofChange contendMeshSpec)) contendMeshCard

/-- THE TIED CARD OF 'hotspotlaw16.ContendLengths'. -/
def contendLengthsCard : Claim7 := { stood := { row := contendLengthsRow, standIns := [], harness := (true, "b38ef2e66710bf5e9cea800985f0a261d1fc58fd7b856d46f2a73b9bbe8179af"), looks := false }, kinds := [], alts := [], laidByText := true, laidKinds := [.data], laidTests := true, laidLooks := .later }
def ContendLengthsCardSaid : Prop := Claim7.holds Tryd.pinned (.plain (OpenSpec.ofChange contendLengthsSpec)) contendLengthsCard

/-- THE TIED CARD OF 'hotspotlaw16.ContendCounts'. -/
def contendCountsCard : Claim7 := { stood := { row := contendCountsRow, standIns := [], harness := (true, "b38ef2e66710bf5e9cea800985f0a261d1fc58fd7b856d46f2a73b9bbe8179af"), looks := false }, kinds := [], alts := [], laidByText := true, laidKinds := [.data], laidTests := true, laidLooks := .later }
def ContendCountsCardSaid : Prop := Claim7.holds Tryd.pinned (.plain (OpenSpec.ofChange contendCountsSpec)) contendCountsCard

/-- THE TIED CARD OF 'hotspotlaw16.ContendPrefix'. -/
def contendPrefixCard : Claim7 := { stood := { row := contendPrefixRow, standIns := [], harness := (true, "b38ef2e66710bf5e9cea800985f0a261d1fc58fd7b856d46f2a73b9bbe8179af"), looks := false }, kinds := [], alts := [], laidByText := true, laidKinds := [.data], laidTests := true, laidLooks := .later }
def ContendPrefixCardSaid : Prop := Claim7.holds Tryd.pinned (.plain (OpenSpec.ofChange contendPrefixSpec)) contendPrefixCard

/-- THE TIED CARD OF 'hotspotlaw16.ContendNames'. -/
def contendNamesCard : Claim7 := { stood := { row := contendNamesRow, standIns := [], harness := (true, "b38ef2e66710bf5e9cea800985f0a261d1fc58fd7b856d46f2a73b9bbe8179af"), looks := false }, kinds := [], alts := [], laidByText := true, laidKinds := [.data], laidTests := true, laidLooks := .later }
def ContendNamesCardSaid : Prop := Claim7.holds Tryd.pinned (.plain (OpenSpec.ofChange contendNamesSpec)) contendNamesCard

/-- THE TIED CARD OF 'hotspotlaw16.ContendTells'. -/
def contendTellsCard : Claim7 := { stood := { row := contendTellsRow, standIns := [], harness := (true, "b38ef2e66710bf5e9cea800985f0a261d1fc58fd7b856d46f2a73b9bbe8179af"), looks := false }, kinds := [], alts := [], laidByText := true, laidKinds := [.data], laidTests := true, laidLooks := .later }
def ContendTellsCardSaid : Prop := Claim7.holds Tryd.pinned (.plain (OpenSpec.ofChange contendTellsSpec)) contendTellsCard

/-- THE TIED CARD OF 'hotspotlaw16.ContendAsked'. -/
def contendAskedCard : Claim7 := { stood := { row := contendAskedRow, standIns := [], harness := (true, "b38ef2e66710bf5e9cea800985f0a261d1fc58fd7b856d46f2a73b9bbe8179af"), looks := false }, kinds := [], alts := [], laidByText := true, laidKinds := [.data], laidTests := true, laidLooks := .later }
def ContendAskedCardSaid : Prop := Claim7.holds Tryd.pinned (.plain (OpenSpec.ofChange contendAskedSpec)) contendAskedCard

/-- THE SECOND FORM's CARD OF 'hotspotlaw16.ContendMesh'. -/
def contendMeshUptoCard : Claim7 := { stood := { row := contendMeshUptoRow, standIns := [], harness := (true, "b38ef2e66710bf5e9cea800985f0a261d1fc58fd7b856d46f2a73b9bbe8179af"), looks := false }, kinds := [], alts := [], laidByText := true, laidKinds := [.data], laidTests := true, laidLooks := .later }
def ContendMeshUptoCardSaid : Prop := Claim7.holds Tryd.pinned (.plain (OpenSpec.upto contendMeshSpec)) contendMeshUptoCard

/-- THE SECOND FORM's CARD OF 'hotspotlaw16.ContendLengths'. -/
def contendLengthsUptoCard : Claim7 := { stood := { row := contendLengthsUptoRow, standIns := [], harness := (true, "b38ef2e66710bf5e9cea800985f0a261d1fc58fd7b856d46f2a73b9bbe8179af"), looks := false }, kinds := [], alts := [], laidByText := true, laidKinds := [.data], laidTests := true, laidLooks := .later }
def ContendLengthsUptoCardSaid : Prop := Claim7.holds Tryd.pinned (.plain (OpenSpec.upto contendLengthsSpec)) contendLengthsUptoCard

/-- THE SECOND FORM's CARD OF 'hotspotlaw16.ContendCounts'. -/
def contendCountsUptoCard : Claim7 := { stood := { row := contendCountsUptoRow, standIns := [], harness := (true, "b38ef2e66710bf5e9cea800985f0a261d1fc58fd7b856d46f2a73b9bbe8179af"), looks := false }, kinds := [], alts := [], laidByText := true, laidKinds := [.data], laidTests := true, laidLooks := .later }
def ContendCountsUptoCardSaid : Prop := Claim7.holds Tryd.pinned (.plain (OpenSpec.upto contendCountsSpec)) contendCountsUptoCard

/-- THE SECOND FORM's CARD OF 'hotspotlaw16.ContendPrefix'. -/
def contendPrefixUptoCard : Claim7 := { stood := { row := contendPrefixUptoRow, standIns := [], harness := (true, "b38ef2e66710bf5e9cea800985f0a261d1fc58fd7b856d46f2a73b9bbe8179af"), looks := false }, kinds := [], alts := [], laidByText := true, laidKinds := [.data], laidTests := true, laidLooks := .later }
def ContendPrefixUptoCardSaid : Prop := Claim7.holds Tryd.pinned (.plain (OpenSpec.upto contendPrefixSpec)) contendPrefixUptoCard

/-- THE SECOND FORM's CARD OF 'hotspotlaw16.ContendNames'. -/
def contendNamesUptoCard : Claim7 := { stood := { row := contendNamesUptoRow, standIns := [], harness := (true, "b38ef2e66710bf5e9cea800985f0a261d1fc58fd7b856d46f2a73b9bbe8179af"), looks := false }, kinds := [], alts := [], laidByText := true, laidKinds := [.data], laidTests := true, laidLooks := .later }
def ContendNamesUptoCardSaid : Prop := Claim7.holds Tryd.pinned (.plain (OpenSpec.upto contendNamesSpec)) contendNamesUptoCard

/-- THE SECOND FORM's CARD OF 'hotspotlaw16.ContendTells'. -/
def contendTellsUptoCard : Claim7 := { stood := { row := contendTellsUptoRow, standIns := [], harness := (true, "b38ef2e66710bf5e9cea800985f0a261d1fc58fd7b856d46f2a73b9bbe8179af"), looks := false }, kinds := [], alts := [], laidByText := true, laidKinds := [.data], laidTests := true, laidLooks := .later }
def ContendTellsUptoCardSaid : Prop := Claim7.holds Tryd.pinned (.plain (OpenSpec.upto contendTellsSpec)) contendTellsUptoCard

/-- THE SECOND FORM's CARD OF 'hotspotlaw16.ContendAsked'. -/
def contendAskedUptoCard : Claim7 := { stood := { row := contendAskedUptoRow, standIns := [], harness := (true, "b38ef2e66710bf5e9cea800985f0a261d1fc58fd7b856d46f2a73b9bbe8179af"), looks := false }, kinds := [], alts := [], laidByText := true, laidKinds := [.data], laidTests := true, laidLooks := .later }
def ContendAskedUptoCardSaid : Prop := Claim7.holds Tryd.pinned (.plain (OpenSpec.upto contendAskedSpec)) contendAskedUptoCard
end Rows
end Go.Proofs.YtkagcjibneigdaaDoor
