/-
  No cell of these rows narrows 'for every input' (looked for: loops, veiled, ifaces, maps, wideKeys, modest, calm, conditions, laid).
  DERIVED. THE GIVEN ROWS OF THIS SEAT. 8 by the template 'for every input the law returns true; each argument reads behind the call as it read before'; 0 by the template 'total and deterministic' (their statements: YtiiebpfifkaleaaTotals.lean).
  GIVEN WITH THE SEED: the statements are not yours to turn. If you find one false, say at which input.
  Laid BY PROGRAM, IN A SANDBOX (cutbox-rows.mjs): the forced cells as the released guide's own fill.sh prints them over the translation 4908d33c18b865f8… (all of the seat's roots in one cut). By AI agents, Wed Nov 11 2026. No macro, syntax, notation, axiom, sorry.
-/
import Derived.Test.YtiiebpfifkaleaaChecked
import GoSem.Claim
import GoSem.ClaimJoined
import GoSem.ClaimMapViews
import Derived.JoinedTies
import Derived.KernelRfl
namespace Go.Proofs.Ytiiebpfifkaleaa
/- THE CELL 'sum', in the pinned program and in every row, IS THE sha256 OF THE DUMP (.gsa) THAT YtiiebpfifkaleaaProg.lean LOADS. Nothing in Lean hashes anything: it is a label: what it is worth is what the hold of that sum in a sandbox is worth. -/
noncomputable def Try.pinned : Pinned := { name := "ytiiebpfifkaleaa", sum := "4908d33c18b865f8ab6fdbb0f1e4d481c39e785f133926cf140a828377dbfb05", checked := Try.checked }
namespace Rows
def none {H : Type} : Left H := { results := [], args := [] }

/-- 'hotspotlaw10.RadioLosses': WHATEVER THE INPUT: true; the input reads as it did. -/
def radioLossesSpec : ChangeSpec := { name := "radioLosses", fn := fun _ => fun
  | [d1, d2, d3, d4, d5] => { results := [.lit (.bool true)], args := [d1, d2, d3, d4, d5] }
  | _ => none }
def radioLossesRow : OpenClaim := { program := "ytiiebpfifkaleaa", sum := "4908d33c18b865f8ab6fdbb0f1e4d481c39e785f133926cf140a828377dbfb05", func := "hotspot/hotspotlaw10.RadioLosses", spec := "radioLosses", unfollowed := true, recurses := true, apart := false }
def RadioLossesSaid : Prop := radioLossesRow.holds Try.pinned (OpenSpec.ofChange radioLossesSpec)

/-- ITS FALSE NEIGHBOUR: 'it returns false'. Refute it at one input. -/
def radioLossesWrong : ChangeSpec := { name := "radioLosses", fn := fun _ => fun
  | [d1, d2, d3, d4, d5] => { results := [.lit (.bool false)], args := [d1, d2, d3, d4, d5] }
  | _ => none }
def RadioLossesWrongFalsely : Prop := radioLossesRow.holds Try.pinned (OpenSpec.ofChange radioLossesWrong)

/-- 'hotspotlaw10.RadioMoves': WHATEVER THE INPUT: true; the input reads as it did. -/
def radioMovesSpec : ChangeSpec := { name := "radioMoves", fn := fun _ => fun
  | [d1, d2, d3, d4, d5] => { results := [.lit (.bool true)], args := [d1, d2, d3, d4, d5] }
  | _ => none }
def radioMovesRow : OpenClaim := { program := "ytiiebpfifkaleaa", sum := "4908d33c18b865f8ab6fdbb0f1e4d481c39e785f133926cf140a828377dbfb05", func := "hotspot/hotspotlaw10.RadioMoves", spec := "radioMoves", unfollowed := true, recurses := true, apart := false }
def RadioMovesSaid : Prop := radioMovesRow.holds Try.pinned (OpenSpec.ofChange radioMovesSpec)

/-- ITS FALSE NEIGHBOUR: 'it returns false'. Refute it at one input. -/
def radioMovesWrong : ChangeSpec := { name := "radioMoves", fn := fun _ => fun
  | [d1, d2, d3, d4, d5] => { results := [.lit (.bool false)], args := [d1, d2, d3, d4, d5] }
  | _ => none }
def RadioMovesWrongFalsely : Prop := radioMovesRow.holds Try.pinned (OpenSpec.ofChange radioMovesWrong)

/-- 'hotspotlaw10.RadioRoot': WHATEVER THE INPUT: true; the input reads as it did. -/
def radioRootSpec : ChangeSpec := { name := "radioRoot", fn := fun _ => fun
  | [d1, d2, d3, d4] => { results := [.lit (.bool true)], args := [d1, d2, d3, d4] }
  | _ => none }
def radioRootRow : OpenClaim := { program := "ytiiebpfifkaleaa", sum := "4908d33c18b865f8ab6fdbb0f1e4d481c39e785f133926cf140a828377dbfb05", func := "hotspot/hotspotlaw10.RadioRoot", spec := "radioRoot", unfollowed := true, recurses := true, apart := false }
def RadioRootSaid : Prop := radioRootRow.holds Try.pinned (OpenSpec.ofChange radioRootSpec)

/-- ITS FALSE NEIGHBOUR: 'it returns false'. Refute it at one input. -/
def radioRootWrong : ChangeSpec := { name := "radioRoot", fn := fun _ => fun
  | [d1, d2, d3, d4] => { results := [.lit (.bool false)], args := [d1, d2, d3, d4] }
  | _ => none }
def RadioRootWrongFalsely : Prop := radioRootRow.holds Try.pinned (OpenSpec.ofChange radioRootWrong)

/-- 'hotspotlaw10.RadioLoss': WHATEVER THE INPUT: true; the input reads as it did. -/
def radioLossSpec : ChangeSpec := { name := "radioLoss", fn := fun _ => fun
  | [d1, d2] => { results := [.lit (.bool true)], args := [d1, d2] }
  | _ => none }
def radioLossRow : OpenClaim := { program := "ytiiebpfifkaleaa", sum := "4908d33c18b865f8ab6fdbb0f1e4d481c39e785f133926cf140a828377dbfb05", func := "hotspot/hotspotlaw10.RadioLoss", spec := "radioLoss", unfollowed := true, recurses := true, apart := false }
def RadioLossSaid : Prop := radioLossRow.holds Try.pinned (OpenSpec.ofChange radioLossSpec)

/-- ITS FALSE NEIGHBOUR: 'it returns false'. Refute it at one input. -/
def radioLossWrong : ChangeSpec := { name := "radioLoss", fn := fun _ => fun
  | [d1, d2] => { results := [.lit (.bool false)], args := [d1, d2] }
  | _ => none }
def RadioLossWrongFalsely : Prop := radioLossRow.holds Try.pinned (OpenSpec.ofChange radioLossWrong)

/-- 'hotspotlaw10.RadioSymmetry': WHATEVER THE INPUT: true; the input reads as it did. -/
def radioSymmetrySpec : ChangeSpec := { name := "radioSymmetry", fn := fun _ => fun
  | [d1, d2, d3, d4] => { results := [.lit (.bool true)], args := [d1, d2, d3, d4] }
  | _ => none }
def radioSymmetryRow : OpenClaim := { program := "ytiiebpfifkaleaa", sum := "4908d33c18b865f8ab6fdbb0f1e4d481c39e785f133926cf140a828377dbfb05", func := "hotspot/hotspotlaw10.RadioSymmetry", spec := "radioSymmetry", unfollowed := true, recurses := true, apart := false }
def RadioSymmetrySaid : Prop := radioSymmetryRow.holds Try.pinned (OpenSpec.ofChange radioSymmetrySpec)

/-- ITS FALSE NEIGHBOUR: 'it returns false'. Refute it at one input. -/
def radioSymmetryWrong : ChangeSpec := { name := "radioSymmetry", fn := fun _ => fun
  | [d1, d2, d3, d4] => { results := [.lit (.bool false)], args := [d1, d2, d3, d4] }
  | _ => none }
def RadioSymmetryWrongFalsely : Prop := radioSymmetryRow.holds Try.pinned (OpenSpec.ofChange radioSymmetryWrong)

/-- 'hotspotlaw10.RadioTells': WHATEVER THE INPUT: true; the input reads as it did. -/
def radioTellsSpec : ChangeSpec := { name := "radioTells", fn := fun _ => fun
  | [d1, d2, d3] => { results := [.lit (.bool true)], args := [d1, d2, d3] }
  | _ => none }
def radioTellsRow : OpenClaim := { program := "ytiiebpfifkaleaa", sum := "4908d33c18b865f8ab6fdbb0f1e4d481c39e785f133926cf140a828377dbfb05", func := "hotspot/hotspotlaw10.RadioTells", spec := "radioTells", unfollowed := true, recurses := true, apart := false }
def RadioTellsSaid : Prop := radioTellsRow.holds Try.pinned (OpenSpec.ofChange radioTellsSpec)

/-- ITS FALSE NEIGHBOUR: 'it returns false'. Refute it at one input. -/
def radioTellsWrong : ChangeSpec := { name := "radioTells", fn := fun _ => fun
  | [d1, d2, d3] => { results := [.lit (.bool false)], args := [d1, d2, d3] }
  | _ => none }
def RadioTellsWrongFalsely : Prop := radioTellsRow.holds Try.pinned (OpenSpec.ofChange radioTellsWrong)

/-- 'hotspotlaw10.RadioLocal': WHATEVER THE INPUT: true; the input reads as it did. -/
def radioLocalSpec : ChangeSpec := { name := "radioLocal", fn := fun _ => fun
  | [d1, d2, d3, d4, d5, d6, d7] => { results := [.lit (.bool true)], args := [d1, d2, d3, d4, d5, d6, d7] }
  | _ => none }
def radioLocalRow : OpenClaim := { program := "ytiiebpfifkaleaa", sum := "4908d33c18b865f8ab6fdbb0f1e4d481c39e785f133926cf140a828377dbfb05", func := "hotspot/hotspotlaw10.RadioLocal", spec := "radioLocal", unfollowed := true, recurses := true, apart := false }
def RadioLocalSaid : Prop := radioLocalRow.holds Try.pinned (OpenSpec.ofChange radioLocalSpec)

/-- ITS FALSE NEIGHBOUR: 'it returns false'. Refute it at one input. -/
def radioLocalWrong : ChangeSpec := { name := "radioLocal", fn := fun _ => fun
  | [d1, d2, d3, d4, d5, d6, d7] => { results := [.lit (.bool false)], args := [d1, d2, d3, d4, d5, d6, d7] }
  | _ => none }
def RadioLocalWrongFalsely : Prop := radioLocalRow.holds Try.pinned (OpenSpec.ofChange radioLocalWrong)

/-- 'hotspotlaw10.RadioNames': WHATEVER THE INPUT: true; the input reads as it did. -/
def radioNamesSpec : ChangeSpec := { name := "radioNames", fn := fun _ => fun
  | [] => { results := [.lit (.bool true)], args := [] }
  | _ => none }
def radioNamesRow : OpenClaim := { program := "ytiiebpfifkaleaa", sum := "4908d33c18b865f8ab6fdbb0f1e4d481c39e785f133926cf140a828377dbfb05", func := "hotspot/hotspotlaw10.RadioNames", spec := "radioNames", unfollowed := true, recurses := true, apart := false }
def RadioNamesSaid : Prop := radioNamesRow.holds Try.pinned (OpenSpec.ofChange radioNamesSpec)

/-- ITS FALSE NEIGHBOUR: 'it returns false'. Refute it at one input. -/
def radioNamesWrong : ChangeSpec := { name := "radioNames", fn := fun _ => fun
  | [] => { results := [.lit (.bool false)], args := [] }
  | _ => none }
def RadioNamesWrongFalsely : Prop := radioNamesRow.holds Try.pinned (OpenSpec.ofChange radioNamesWrong)

/- THE SECOND FORM. 'bulk': how many values and letters a reading holds, each counted each time it is reached (what is shared counts as often as it is met; a slice's spare places count too). A statement '..UptoSaid' is the law's where the arguments, and the package variables that the reading takes, are together of bulk at most 1048576: NARROWER than '..Said'. Prove '..Said' where nothing that the law and all that it calls make is longer than what came in: it says more and counts as full. Else prove '..UptoSaid'. A law counts once. -/
mutual
def uptoBulk {H : Type} : DataW H → Nat
  | .lit (.string bytes) => bytes.length + 1
  | .lit _ => 1
  | .nil => 1
  | .ptr d => uptoBulk d + 1
  | .slice elems spare => uptoBulkAll elems + uptoBulkAll spare + 1
  | .agg parts => uptoBulkAll parts + 1
  | .iface _ d => uptoBulk d + 1
  | .map entries => uptoBulkEntries entries + 1
  | .held _ => 1
def uptoBulkAll {H : Type} : List (DataW H) → Nat
  | [] => 0
  | d :: r => uptoBulk d + uptoBulkAll r
def uptoBulkEntries {H : Type} : List (Lit × DataW H) → Nat
  | [] => 0
  | x :: r => uptoBulkEntry x + uptoBulkEntries r
def uptoBulkEntry {H : Type} : Lit × DataW H → Nat
  | (.string bytes, d) => bytes.length + uptoBulk d + 1
  | (_, d) => uptoBulk d + 1
 end
def uptoSmall : (H : Type) → List (DataW H) → Bool := fun _ ds => decide (uptoBulkAll ds ≤ 1048576)
def OpenSpec.upto (s : _root_.Go.ChangeSpec) : _root_.Go.OpenSpec := { _root_.Go.OpenSpec.ofChange s with cond := some uptoSmall }

/-- 'hotspotlaw10.RadioLosses', WHERE WHAT IT READS IS OF BULK AT MOST 1048576: true; the input reads as it did. -/
def radioLossesUptoRow : OpenClaim := { program := "ytiiebpfifkaleaa", sum := "4908d33c18b865f8ab6fdbb0f1e4d481c39e785f133926cf140a828377dbfb05", func := "hotspot/hotspotlaw10.RadioLosses", spec := "radioLosses", unfollowed := true, recurses := true, apart := false, narrowed := true }
def RadioLossesUptoSaid : Prop := radioLossesUptoRow.holds Try.pinned (OpenSpec.upto radioLossesSpec)

/-- 'hotspotlaw10.RadioMoves', WHERE WHAT IT READS IS OF BULK AT MOST 1048576: true; the input reads as it did. -/
def radioMovesUptoRow : OpenClaim := { program := "ytiiebpfifkaleaa", sum := "4908d33c18b865f8ab6fdbb0f1e4d481c39e785f133926cf140a828377dbfb05", func := "hotspot/hotspotlaw10.RadioMoves", spec := "radioMoves", unfollowed := true, recurses := true, apart := false, narrowed := true }
def RadioMovesUptoSaid : Prop := radioMovesUptoRow.holds Try.pinned (OpenSpec.upto radioMovesSpec)

/-- 'hotspotlaw10.RadioRoot', WHERE WHAT IT READS IS OF BULK AT MOST 1048576: true; the input reads as it did. -/
def radioRootUptoRow : OpenClaim := { program := "ytiiebpfifkaleaa", sum := "4908d33c18b865f8ab6fdbb0f1e4d481c39e785f133926cf140a828377dbfb05", func := "hotspot/hotspotlaw10.RadioRoot", spec := "radioRoot", unfollowed := true, recurses := true, apart := false, narrowed := true }
def RadioRootUptoSaid : Prop := radioRootUptoRow.holds Try.pinned (OpenSpec.upto radioRootSpec)

/-- 'hotspotlaw10.RadioLoss', WHERE WHAT IT READS IS OF BULK AT MOST 1048576: true; the input reads as it did. -/
def radioLossUptoRow : OpenClaim := { program := "ytiiebpfifkaleaa", sum := "4908d33c18b865f8ab6fdbb0f1e4d481c39e785f133926cf140a828377dbfb05", func := "hotspot/hotspotlaw10.RadioLoss", spec := "radioLoss", unfollowed := true, recurses := true, apart := false, narrowed := true }
def RadioLossUptoSaid : Prop := radioLossUptoRow.holds Try.pinned (OpenSpec.upto radioLossSpec)

/-- 'hotspotlaw10.RadioSymmetry', WHERE WHAT IT READS IS OF BULK AT MOST 1048576: true; the input reads as it did. -/
def radioSymmetryUptoRow : OpenClaim := { program := "ytiiebpfifkaleaa", sum := "4908d33c18b865f8ab6fdbb0f1e4d481c39e785f133926cf140a828377dbfb05", func := "hotspot/hotspotlaw10.RadioSymmetry", spec := "radioSymmetry", unfollowed := true, recurses := true, apart := false, narrowed := true }
def RadioSymmetryUptoSaid : Prop := radioSymmetryUptoRow.holds Try.pinned (OpenSpec.upto radioSymmetrySpec)

/-- 'hotspotlaw10.RadioTells', WHERE WHAT IT READS IS OF BULK AT MOST 1048576: true; the input reads as it did. -/
def radioTellsUptoRow : OpenClaim := { program := "ytiiebpfifkaleaa", sum := "4908d33c18b865f8ab6fdbb0f1e4d481c39e785f133926cf140a828377dbfb05", func := "hotspot/hotspotlaw10.RadioTells", spec := "radioTells", unfollowed := true, recurses := true, apart := false, narrowed := true }
def RadioTellsUptoSaid : Prop := radioTellsUptoRow.holds Try.pinned (OpenSpec.upto radioTellsSpec)

/-- 'hotspotlaw10.RadioLocal', WHERE WHAT IT READS IS OF BULK AT MOST 1048576: true; the input reads as it did. -/
def radioLocalUptoRow : OpenClaim := { program := "ytiiebpfifkaleaa", sum := "4908d33c18b865f8ab6fdbb0f1e4d481c39e785f133926cf140a828377dbfb05", func := "hotspot/hotspotlaw10.RadioLocal", spec := "radioLocal", unfollowed := true, recurses := true, apart := false, narrowed := true }
def RadioLocalUptoSaid : Prop := radioLocalUptoRow.holds Try.pinned (OpenSpec.upto radioLocalSpec)

/-- 'hotspotlaw10.RadioNames', WHERE WHAT IT READS IS OF BULK AT MOST 1048576: true; the input reads as it did. -/
def radioNamesUptoRow : OpenClaim := { program := "ytiiebpfifkaleaa", sum := "4908d33c18b865f8ab6fdbb0f1e4d481c39e785f133926cf140a828377dbfb05", func := "hotspot/hotspotlaw10.RadioNames", spec := "radioNames", unfollowed := true, recurses := true, apart := false, narrowed := true }
def RadioNamesUptoSaid : Prop := radioNamesUptoRow.holds Try.pinned (OpenSpec.upto radioNamesSpec)

end Rows
end Go.Proofs.Ytiiebpfifkaleaa
