/-
  No cell of these rows narrows 'for every input' (looked for: loops, veiled, ifaces, maps, wideKeys, modest, calm, conditions, laid).
  DERIVED. THE GIVEN ROWS OF THIS SEAT. 7 by the template 'for every input the law returns true; each argument reads behind the call as it read before'; 0 by the template 'total and deterministic' (their statements: YtgdjdaoglkfjdaaTotals.lean).
  GIVEN WITH THE SEED: the statements are not yours to turn. If you find one false, say at which input.
  Laid BY PROGRAM, IN A SANDBOX (cutbox-rows.mjs): the forced cells as the released guide's own fill.sh prints them over the translation b9dfdefd7569b2cd… (all of the seat's roots in one cut). By AI agents, Wed Nov 11 2026. No macro, syntax, notation, axiom, sorry.
-/
import Derived.Test.YtgdjdaoglkfjdaaChecked
import GoSem.Claim
import GoSem.ClaimJoined
import GoSem.ClaimMapViews
import Derived.JoinedTies
import Derived.KernelRfl
namespace Go.Proofs.Ytgdjdaoglkfjdaa
/- THE CELL 'sum', in the pinned program and in every row, IS THE sha256 OF THE DUMP (.gsa) THAT YtgdjdaoglkfjdaaProg.lean LOADS. Nothing in Lean hashes anything: it is a label: what it is worth is what the hold of that sum in a sandbox is worth. -/
noncomputable def Try.pinned : Pinned := { name := "ytgdjdaoglkfjdaa", sum := "b9dfdefd7569b2cda2b64d09dce0885780137d59eaacd3462477c58d5a5aac83", checked := Try.checked }
namespace Rows
def none {H : Type} : Left H := { results := [], args := [] }

/-- 'hotspotlaw11.MediumSenses': WHATEVER THE INPUT: true; the input reads as it did. -/
def mediumSensesSpec : ChangeSpec := { name := "mediumSenses", fn := fun _ => fun
  | [d1, d2, d3, d4, d5] => { results := [.lit (.bool true)], args := [d1, d2, d3, d4, d5] }
  | _ => none }
def mediumSensesRow : OpenClaim := { program := "ytgdjdaoglkfjdaa", sum := "b9dfdefd7569b2cda2b64d09dce0885780137d59eaacd3462477c58d5a5aac83", func := "hotspot/hotspotlaw11.MediumSenses", spec := "mediumSenses", unfollowed := true, recurses := true, apart := false }
def MediumSensesSaid : Prop := mediumSensesRow.holds Try.pinned (OpenSpec.ofChange mediumSensesSpec)

/-- ITS FALSE NEIGHBOUR: 'it returns false'. Refute it at one input. -/
def mediumSensesWrong : ChangeSpec := { name := "mediumSenses", fn := fun _ => fun
  | [d1, d2, d3, d4, d5] => { results := [.lit (.bool false)], args := [d1, d2, d3, d4, d5] }
  | _ => none }
def MediumSensesWrongFalsely : Prop := mediumSensesRow.holds Try.pinned (OpenSpec.ofChange mediumSensesWrong)

/-- 'hotspotlaw11.MediumTells': WHATEVER THE INPUT: true; the input reads as it did. -/
def mediumTellsSpec : ChangeSpec := { name := "mediumTells", fn := fun _ => fun
  | [d1, d2, d3] => { results := [.lit (.bool true)], args := [d1, d2, d3] }
  | _ => none }
def mediumTellsRow : OpenClaim := { program := "ytgdjdaoglkfjdaa", sum := "b9dfdefd7569b2cda2b64d09dce0885780137d59eaacd3462477c58d5a5aac83", func := "hotspot/hotspotlaw11.MediumTells", spec := "mediumTells", unfollowed := true, recurses := true, apart := false }
def MediumTellsSaid : Prop := mediumTellsRow.holds Try.pinned (OpenSpec.ofChange mediumTellsSpec)

/-- ITS FALSE NEIGHBOUR: 'it returns false'. Refute it at one input. -/
def mediumTellsWrong : ChangeSpec := { name := "mediumTells", fn := fun _ => fun
  | [d1, d2, d3] => { results := [.lit (.bool false)], args := [d1, d2, d3] }
  | _ => none }
def MediumTellsWrongFalsely : Prop := mediumTellsRow.holds Try.pinned (OpenSpec.ofChange mediumTellsWrong)

/-- 'hotspotlaw11.MediumOnce': WHATEVER THE INPUT: true; the input reads as it did. -/
def mediumOnceSpec : ChangeSpec := { name := "mediumOnce", fn := fun _ => fun
  | [d1, d2, d3] => { results := [.lit (.bool true)], args := [d1, d2, d3] }
  | _ => none }
def mediumOnceRow : OpenClaim := { program := "ytgdjdaoglkfjdaa", sum := "b9dfdefd7569b2cda2b64d09dce0885780137d59eaacd3462477c58d5a5aac83", func := "hotspot/hotspotlaw11.MediumOnce", spec := "mediumOnce", unfollowed := true, recurses := true, apart := false }
def MediumOnceSaid : Prop := mediumOnceRow.holds Try.pinned (OpenSpec.ofChange mediumOnceSpec)

/-- ITS FALSE NEIGHBOUR: 'it returns false'. Refute it at one input. -/
def mediumOnceWrong : ChangeSpec := { name := "mediumOnce", fn := fun _ => fun
  | [d1, d2, d3] => { results := [.lit (.bool false)], args := [d1, d2, d3] }
  | _ => none }
def MediumOnceWrongFalsely : Prop := mediumOnceRow.holds Try.pinned (OpenSpec.ofChange mediumOnceWrong)

/-- 'hotspotlaw11.MediumMore': WHATEVER THE INPUT: true; the input reads as it did. -/
def mediumMoreSpec : ChangeSpec := { name := "mediumMore", fn := fun _ => fun
  | [d1, d2, d3] => { results := [.lit (.bool true)], args := [d1, d2, d3] }
  | _ => none }
def mediumMoreRow : OpenClaim := { program := "ytgdjdaoglkfjdaa", sum := "b9dfdefd7569b2cda2b64d09dce0885780137d59eaacd3462477c58d5a5aac83", func := "hotspot/hotspotlaw11.MediumMore", spec := "mediumMore", unfollowed := true, recurses := true, apart := false }
def MediumMoreSaid : Prop := mediumMoreRow.holds Try.pinned (OpenSpec.ofChange mediumMoreSpec)

/-- ITS FALSE NEIGHBOUR: 'it returns false'. Refute it at one input. -/
def mediumMoreWrong : ChangeSpec := { name := "mediumMore", fn := fun _ => fun
  | [d1, d2, d3] => { results := [.lit (.bool false)], args := [d1, d2, d3] }
  | _ => none }
def MediumMoreWrongFalsely : Prop := mediumMoreRow.holds Try.pinned (OpenSpec.ofChange mediumMoreWrong)

/-- 'hotspotlaw11.MediumLone': WHATEVER THE INPUT: true; the input reads as it did. -/
def mediumLoneSpec : ChangeSpec := { name := "mediumLone", fn := fun _ => fun
  | [d1, d2] => { results := [.lit (.bool true)], args := [d1, d2] }
  | _ => none }
def mediumLoneRow : OpenClaim := { program := "ytgdjdaoglkfjdaa", sum := "b9dfdefd7569b2cda2b64d09dce0885780137d59eaacd3462477c58d5a5aac83", func := "hotspot/hotspotlaw11.MediumLone", spec := "mediumLone", unfollowed := true, recurses := true, apart := false }
def MediumLoneSaid : Prop := mediumLoneRow.holds Try.pinned (OpenSpec.ofChange mediumLoneSpec)

/-- ITS FALSE NEIGHBOUR: 'it returns false'. Refute it at one input. -/
def mediumLoneWrong : ChangeSpec := { name := "mediumLone", fn := fun _ => fun
  | [d1, d2] => { results := [.lit (.bool false)], args := [d1, d2] }
  | _ => none }
def MediumLoneWrongFalsely : Prop := mediumLoneRow.holds Try.pinned (OpenSpec.ofChange mediumLoneWrong)

/-- 'hotspotlaw11.MediumIdle': WHATEVER THE INPUT: true; the input reads as it did. -/
def mediumIdleSpec : ChangeSpec := { name := "mediumIdle", fn := fun _ => fun
  | [d1, d2, d3, d4, d5] => { results := [.lit (.bool true)], args := [d1, d2, d3, d4, d5] }
  | _ => none }
def mediumIdleRow : OpenClaim := { program := "ytgdjdaoglkfjdaa", sum := "b9dfdefd7569b2cda2b64d09dce0885780137d59eaacd3462477c58d5a5aac83", func := "hotspot/hotspotlaw11.MediumIdle", spec := "mediumIdle", unfollowed := true, recurses := true, apart := false }
def MediumIdleSaid : Prop := mediumIdleRow.holds Try.pinned (OpenSpec.ofChange mediumIdleSpec)

/-- ITS FALSE NEIGHBOUR: 'it returns false'. Refute it at one input. -/
def mediumIdleWrong : ChangeSpec := { name := "mediumIdle", fn := fun _ => fun
  | [d1, d2, d3, d4, d5] => { results := [.lit (.bool false)], args := [d1, d2, d3, d4, d5] }
  | _ => none }
def MediumIdleWrongFalsely : Prop := mediumIdleRow.holds Try.pinned (OpenSpec.ofChange mediumIdleWrong)

/-- 'hotspotlaw11.MediumNames': WHATEVER THE INPUT: true; the input reads as it did. -/
def mediumNamesSpec : ChangeSpec := { name := "mediumNames", fn := fun _ => fun
  | [] => { results := [.lit (.bool true)], args := [] }
  | _ => none }
def mediumNamesRow : OpenClaim := { program := "ytgdjdaoglkfjdaa", sum := "b9dfdefd7569b2cda2b64d09dce0885780137d59eaacd3462477c58d5a5aac83", func := "hotspot/hotspotlaw11.MediumNames", spec := "mediumNames", unfollowed := true, recurses := true, apart := false }
def MediumNamesSaid : Prop := mediumNamesRow.holds Try.pinned (OpenSpec.ofChange mediumNamesSpec)

/-- ITS FALSE NEIGHBOUR: 'it returns false'. Refute it at one input. -/
def mediumNamesWrong : ChangeSpec := { name := "mediumNames", fn := fun _ => fun
  | [] => { results := [.lit (.bool false)], args := [] }
  | _ => none }
def MediumNamesWrongFalsely : Prop := mediumNamesRow.holds Try.pinned (OpenSpec.ofChange mediumNamesWrong)

/- THE SECOND FORM. 'bulk': how many values and letters a reading holds, each counted each time it is reached (what is shared counts as often as it is met; a slice's spare places count too). A statement '..UptoSaid' is the law's where the arguments, and the package variables that the reading takes, are together of bulk at most 1048576: NARROWER than '..Said'. Prove '..Said' where nothing that the law and all that it calls make is longer than what came in: it says more and counts as full. Else prove '..UptoSaid'. A law counts once. -/
mutual
def uptoBulk {H : Type} : DataW H → Nat
  | .lit (.string bytes) => bytes.length + 1
  | .lit _ => 1
  | .nil => 1
  | .ptr d => uptoBulk d + 1
  | .slice elems spare => uptoBulkAll elems + uptoBulkAll spare + 1
  | .agg parts => uptoBulkAll parts + 1
  | .iface _ d => uptoBulk d + 1
  | .map entries => uptoBulkEntries entries + 1
  | .held _ => 1
def uptoBulkAll {H : Type} : List (DataW H) → Nat
  | [] => 0
  | d :: r => uptoBulk d + uptoBulkAll r
def uptoBulkEntries {H : Type} : List (Lit × DataW H) → Nat
  | [] => 0
  | x :: r => uptoBulkEntry x + uptoBulkEntries r
def uptoBulkEntry {H : Type} : Lit × DataW H → Nat
  | (.string bytes, d) => bytes.length + uptoBulk d + 1
  | (_, d) => uptoBulk d + 1
 end
def uptoSmall : (H : Type) → List (DataW H) → Bool := fun _ ds => decide (uptoBulkAll ds ≤ 1048576)
def OpenSpec.upto (s : _root_.Go.ChangeSpec) : _root_.Go.OpenSpec := { _root_.Go.OpenSpec.ofChange s with cond := some uptoSmall }

/-- 'hotspotlaw11.MediumSenses', WHERE WHAT IT READS IS OF BULK AT MOST 1048576: true; the input reads as it did. -/
def mediumSensesUptoRow : OpenClaim := { program := "ytgdjdaoglkfjdaa", sum := "b9dfdefd7569b2cda2b64d09dce0885780137d59eaacd3462477c58d5a5aac83", func := "hotspot/hotspotlaw11.MediumSenses", spec := "mediumSenses", unfollowed := true, recurses := true, apart := false, narrowed := true }
def MediumSensesUptoSaid : Prop := mediumSensesUptoRow.holds Try.pinned (OpenSpec.upto mediumSensesSpec)

/-- 'hotspotlaw11.MediumTells', WHERE WHAT IT READS IS OF BULK AT MOST 1048576: true; the input reads as it did. -/
def mediumTellsUptoRow : OpenClaim := { program := "ytgdjdaoglkfjdaa", sum := "b9dfdefd7569b2cda2b64d09dce0885780137d59eaacd3462477c58d5a5aac83", func := "hotspot/hotspotlaw11.MediumTells", spec := "mediumTells", unfollowed := true, recurses := true, apart := false, narrowed := true }
def MediumTellsUptoSaid : Prop := mediumTellsUptoRow.holds Try.pinned (OpenSpec.upto mediumTellsSpec)

/-- 'hotspotlaw11.MediumOnce', WHERE WHAT IT READS IS OF BULK AT MOST 1048576: true; the input reads as it did. -/
def mediumOnceUptoRow : OpenClaim := { program := "ytgdjdaoglkfjdaa", sum := "b9dfdefd7569b2cda2b64d09dce0885780137d59eaacd3462477c58d5a5aac83", func := "hotspot/hotspotlaw11.MediumOnce", spec := "mediumOnce", unfollowed := true, recurses := true, apart := false, narrowed := true }
def MediumOnceUptoSaid : Prop := mediumOnceUptoRow.holds Try.pinned (OpenSpec.upto mediumOnceSpec)

/-- 'hotspotlaw11.MediumMore', WHERE WHAT IT READS IS OF BULK AT MOST 1048576: true; the input reads as it did. -/
def mediumMoreUptoRow : OpenClaim := { program := "ytgdjdaoglkfjdaa", sum := "b9dfdefd7569b2cda2b64d09dce0885780137d59eaacd3462477c58d5a5aac83", func := "hotspot/hotspotlaw11.MediumMore", spec := "mediumMore", unfollowed := true, recurses := true, apart := false, narrowed := true }
def MediumMoreUptoSaid : Prop := mediumMoreUptoRow.holds Try.pinned (OpenSpec.upto mediumMoreSpec)

/-- 'hotspotlaw11.MediumLone', WHERE WHAT IT READS IS OF BULK AT MOST 1048576: true; the input reads as it did. -/
def mediumLoneUptoRow : OpenClaim := { program := "ytgdjdaoglkfjdaa", sum := "b9dfdefd7569b2cda2b64d09dce0885780137d59eaacd3462477c58d5a5aac83", func := "hotspot/hotspotlaw11.MediumLone", spec := "mediumLone", unfollowed := true, recurses := true, apart := false, narrowed := true }
def MediumLoneUptoSaid : Prop := mediumLoneUptoRow.holds Try.pinned (OpenSpec.upto mediumLoneSpec)

/-- 'hotspotlaw11.MediumIdle', WHERE WHAT IT READS IS OF BULK AT MOST 1048576: true; the input reads as it did. -/
def mediumIdleUptoRow : OpenClaim := { program := "ytgdjdaoglkfjdaa", sum := "b9dfdefd7569b2cda2b64d09dce0885780137d59eaacd3462477c58d5a5aac83", func := "hotspot/hotspotlaw11.MediumIdle", spec := "mediumIdle", unfollowed := true, recurses := true, apart := false, narrowed := true }
def MediumIdleUptoSaid : Prop := mediumIdleUptoRow.holds Try.pinned (OpenSpec.upto mediumIdleSpec)

/-- 'hotspotlaw11.MediumNames', WHERE WHAT IT READS IS OF BULK AT MOST 1048576: true; the input reads as it did. -/
def mediumNamesUptoRow : OpenClaim := { program := "ytgdjdaoglkfjdaa", sum := "b9dfdefd7569b2cda2b64d09dce0885780137d59eaacd3462477c58d5a5aac83", func := "hotspot/hotspotlaw11.MediumNames", spec := "mediumNames", unfollowed := true, recurses := true, apart := false, narrowed := true }
def MediumNamesUptoSaid : Prop := mediumNamesUptoRow.holds Try.pinned (OpenSpec.upto mediumNamesSpec)

end Rows
end Go.Proofs.Ytgdjdaoglkfjdaa
