/-
  No cell of these rows narrows 'for every input' (looked for: loops, veiled, ifaces, maps, wideKeys, modest, calm, conditions, laid).
  DERIVED. THE GIVEN ROWS OF THIS SEAT. 7 by the template 'for every input the law returns true; each argument reads behind the call as it read before'; 0 by the template 'total and deterministic' (their statements: YtccmgepknjkakaaTotals.lean).
  GIVEN WITH THE SEED: the statements are not yours to turn. If you find one false, say at which input.
  Laid BY PROGRAM, IN A SANDBOX (cutbox-rows.mjs): the forced cells as the released guide's own fill.sh prints them over the translation eea3a580c4284af3… (all of the seat's roots in one cut). By AI agents, Wed Nov 11 2026. No macro, syntax, notation, axiom, sorry.
-/
import Derived.Test.YtccmgepknjkakaaChecked
import GoSem.Claim
import GoSem.ClaimJoined
import GoSem.ClaimMapViews
import Derived.JoinedTies
import Derived.KernelRfl
namespace Go.Proofs.Ytccmgepknjkakaa
/- THE CELL 'sum', in the pinned program and in every row, IS THE sha256 OF THE DUMP (.gsa) THAT YtccmgepknjkakaaProg.lean LOADS. Nothing in Lean hashes anything: it is a label: what it is worth is what the hold of that sum in a sandbox is worth. -/
noncomputable def Try.pinned : Pinned := { name := "ytccmgepknjkakaa", sum := "eea3a580c4284af33028c3dbcab64ee6d30ddb14bbb434f1c997fda52ce4000f", checked := Try.checked }
namespace Rows
def none {H : Type} : Left H := { results := [], args := [] }

/-- 'hotspotlaw44.AirtimeRuns': WHATEVER THE INPUT: true; the input reads as it did. -/
def airtimeRunsSpec : ChangeSpec := { name := "airtimeRuns", fn := fun _ => fun
  | [d1, d2] => { results := [.lit (.bool true)], args := [d1, d2] }
  | _ => none }
def airtimeRunsRow : OpenClaim := { program := "ytccmgepknjkakaa", sum := "eea3a580c4284af33028c3dbcab64ee6d30ddb14bbb434f1c997fda52ce4000f", func := "hotspot/hotspotlaw44.AirtimeRuns", spec := "airtimeRuns", unfollowed := true, recurses := true, apart := false }
def AirtimeRunsSaid : Prop := airtimeRunsRow.holds Try.pinned (OpenSpec.ofChange airtimeRunsSpec)

/-- ITS FALSE NEIGHBOUR: 'it returns false'. Refute it at one input. -/
def airtimeRunsWrong : ChangeSpec := { name := "airtimeRuns", fn := fun _ => fun
  | [d1, d2] => { results := [.lit (.bool false)], args := [d1, d2] }
  | _ => none }
def AirtimeRunsWrongFalsely : Prop := airtimeRunsRow.holds Try.pinned (OpenSpec.ofChange airtimeRunsWrong)

/-- 'hotspotlaw44.AirtimeFair': WHATEVER THE INPUT: true; the input reads as it did. -/
def airtimeFairSpec : ChangeSpec := { name := "airtimeFair", fn := fun _ => fun
  | [d1, d2] => { results := [.lit (.bool true)], args := [d1, d2] }
  | _ => none }
def airtimeFairRow : OpenClaim := { program := "ytccmgepknjkakaa", sum := "eea3a580c4284af33028c3dbcab64ee6d30ddb14bbb434f1c997fda52ce4000f", func := "hotspot/hotspotlaw44.AirtimeFair", spec := "airtimeFair", unfollowed := true, recurses := true, apart := false }
def AirtimeFairSaid : Prop := airtimeFairRow.holds Try.pinned (OpenSpec.ofChange airtimeFairSpec)

/-- ITS FALSE NEIGHBOUR: 'it returns false'. Refute it at one input. -/
def airtimeFairWrong : ChangeSpec := { name := "airtimeFair", fn := fun _ => fun
  | [d1, d2] => { results := [.lit (.bool false)], args := [d1, d2] }
  | _ => none }
def AirtimeFairWrongFalsely : Prop := airtimeFairRow.holds Try.pinned (OpenSpec.ofChange airtimeFairWrong)

/-- 'hotspotlaw44.AirtimeAlone': WHATEVER THE INPUT: true; the input reads as it did. -/
def airtimeAloneSpec : ChangeSpec := { name := "airtimeAlone", fn := fun _ => fun
  | [d1, d2, d3] => { results := [.lit (.bool true)], args := [d1, d2, d3] }
  | _ => none }
def airtimeAloneRow : OpenClaim := { program := "ytccmgepknjkakaa", sum := "eea3a580c4284af33028c3dbcab64ee6d30ddb14bbb434f1c997fda52ce4000f", func := "hotspot/hotspotlaw44.AirtimeAlone", spec := "airtimeAlone", unfollowed := true, recurses := true, apart := false }
def AirtimeAloneSaid : Prop := airtimeAloneRow.holds Try.pinned (OpenSpec.ofChange airtimeAloneSpec)

/-- ITS FALSE NEIGHBOUR: 'it returns false'. Refute it at one input. -/
def airtimeAloneWrong : ChangeSpec := { name := "airtimeAlone", fn := fun _ => fun
  | [d1, d2, d3] => { results := [.lit (.bool false)], args := [d1, d2, d3] }
  | _ => none }
def AirtimeAloneWrongFalsely : Prop := airtimeAloneRow.holds Try.pinned (OpenSpec.ofChange airtimeAloneWrong)

/-- 'hotspotlaw44.AirtimeTells': WHATEVER THE INPUT: true; the input reads as it did. -/
def airtimeTellsSpec : ChangeSpec := { name := "airtimeTells", fn := fun _ => fun
  | [d1, d2, d3, d4, d5] => { results := [.lit (.bool true)], args := [d1, d2, d3, d4, d5] }
  | _ => none }
def airtimeTellsRow : OpenClaim := { program := "ytccmgepknjkakaa", sum := "eea3a580c4284af33028c3dbcab64ee6d30ddb14bbb434f1c997fda52ce4000f", func := "hotspot/hotspotlaw44.AirtimeTells", spec := "airtimeTells", unfollowed := true, recurses := true, apart := false }
def AirtimeTellsSaid : Prop := airtimeTellsRow.holds Try.pinned (OpenSpec.ofChange airtimeTellsSpec)

/-- ITS FALSE NEIGHBOUR: 'it returns false'. Refute it at one input. -/
def airtimeTellsWrong : ChangeSpec := { name := "airtimeTells", fn := fun _ => fun
  | [d1, d2, d3, d4, d5] => { results := [.lit (.bool false)], args := [d1, d2, d3, d4, d5] }
  | _ => none }
def AirtimeTellsWrongFalsely : Prop := airtimeTellsRow.holds Try.pinned (OpenSpec.ofChange airtimeTellsWrong)

/-- 'hotspotlaw44.AirtimePicks': WHATEVER THE INPUT: true; the input reads as it did. -/
def airtimePicksSpec : ChangeSpec := { name := "airtimePicks", fn := fun _ => fun
  | [d1, d2] => { results := [.lit (.bool true)], args := [d1, d2] }
  | _ => none }
def airtimePicksRow : OpenClaim := { program := "ytccmgepknjkakaa", sum := "eea3a580c4284af33028c3dbcab64ee6d30ddb14bbb434f1c997fda52ce4000f", func := "hotspot/hotspotlaw44.AirtimePicks", spec := "airtimePicks", unfollowed := true, recurses := true, apart := false }
def AirtimePicksSaid : Prop := airtimePicksRow.holds Try.pinned (OpenSpec.ofChange airtimePicksSpec)

/-- ITS FALSE NEIGHBOUR: 'it returns false'. Refute it at one input. -/
def airtimePicksWrong : ChangeSpec := { name := "airtimePicks", fn := fun _ => fun
  | [d1, d2] => { results := [.lit (.bool false)], args := [d1, d2] }
  | _ => none }
def AirtimePicksWrongFalsely : Prop := airtimePicksRow.holds Try.pinned (OpenSpec.ofChange airtimePicksWrong)

/-- 'hotspotlaw44.AirtimeNames': WHATEVER THE INPUT: true; the input reads as it did. -/
def airtimeNamesSpec : ChangeSpec := { name := "airtimeNames", fn := fun _ => fun
  | [] => { results := [.lit (.bool true)], args := [] }
  | _ => none }
def airtimeNamesRow : OpenClaim := { program := "ytccmgepknjkakaa", sum := "eea3a580c4284af33028c3dbcab64ee6d30ddb14bbb434f1c997fda52ce4000f", func := "hotspot/hotspotlaw44.AirtimeNames", spec := "airtimeNames", unfollowed := true, recurses := true, apart := false }
def AirtimeNamesSaid : Prop := airtimeNamesRow.holds Try.pinned (OpenSpec.ofChange airtimeNamesSpec)

/-- ITS FALSE NEIGHBOUR: 'it returns false'. Refute it at one input. -/
def airtimeNamesWrong : ChangeSpec := { name := "airtimeNames", fn := fun _ => fun
  | [] => { results := [.lit (.bool false)], args := [] }
  | _ => none }
def AirtimeNamesWrongFalsely : Prop := airtimeNamesRow.holds Try.pinned (OpenSpec.ofChange airtimeNamesWrong)

/-- 'hotspotlaw44.AirtimeSteps': WHATEVER THE INPUT: true; the input reads as it did. -/
def airtimeStepsSpec : ChangeSpec := { name := "airtimeSteps", fn := fun _ => fun
  | [d1, d2] => { results := [.lit (.bool true)], args := [d1, d2] }
  | _ => none }
def airtimeStepsRow : OpenClaim := { program := "ytccmgepknjkakaa", sum := "eea3a580c4284af33028c3dbcab64ee6d30ddb14bbb434f1c997fda52ce4000f", func := "hotspot/hotspotlaw44.AirtimeSteps", spec := "airtimeSteps", unfollowed := true, recurses := true, apart := false }
def AirtimeStepsSaid : Prop := airtimeStepsRow.holds Try.pinned (OpenSpec.ofChange airtimeStepsSpec)

/-- ITS FALSE NEIGHBOUR: 'it returns false'. Refute it at one input. -/
def airtimeStepsWrong : ChangeSpec := { name := "airtimeSteps", fn := fun _ => fun
  | [d1, d2] => { results := [.lit (.bool false)], args := [d1, d2] }
  | _ => none }
def AirtimeStepsWrongFalsely : Prop := airtimeStepsRow.holds Try.pinned (OpenSpec.ofChange airtimeStepsWrong)

/- THE SECOND FORM. 'bulk': how many values and letters a reading holds, each counted each time it is reached (what is shared counts as often as it is met; a slice's spare places count too). A statement '..UptoSaid' is the law's where the arguments, and the package variables that the reading takes, are together of bulk at most 1048576: NARROWER than '..Said'. Prove '..Said' where nothing that the law and all that it calls make is longer than what came in: it says more and counts as full. Else prove '..UptoSaid'. A law counts once. -/
mutual
def uptoBulk {H : Type} : DataW H → Nat
  | .lit (.string bytes) => bytes.length + 1
  | .lit _ => 1
  | .nil => 1
  | .ptr d => uptoBulk d + 1
  | .slice elems spare => uptoBulkAll elems + uptoBulkAll spare + 1
  | .agg parts => uptoBulkAll parts + 1
  | .iface _ d => uptoBulk d + 1
  | .map entries => uptoBulkEntries entries + 1
  | .held _ => 1
def uptoBulkAll {H : Type} : List (DataW H) → Nat
  | [] => 0
  | d :: r => uptoBulk d + uptoBulkAll r
def uptoBulkEntries {H : Type} : List (Lit × DataW H) → Nat
  | [] => 0
  | x :: r => uptoBulkEntry x + uptoBulkEntries r
def uptoBulkEntry {H : Type} : Lit × DataW H → Nat
  | (.string bytes, d) => bytes.length + uptoBulk d + 1
  | (_, d) => uptoBulk d + 1
 end
def uptoSmall : (H : Type) → List (DataW H) → Bool := fun _ ds => decide (uptoBulkAll ds ≤ 1048576)
def OpenSpec.upto (s : _root_.Go.ChangeSpec) : _root_.Go.OpenSpec := { _root_.Go.OpenSpec.ofChange s with cond := some uptoSmall }

/-- 'hotspotlaw44.AirtimeRuns', WHERE WHAT IT READS IS OF BULK AT MOST 1048576: true; the input reads as it did. -/
def airtimeRunsUptoRow : OpenClaim := { program := "ytccmgepknjkakaa", sum := "eea3a580c4284af33028c3dbcab64ee6d30ddb14bbb434f1c997fda52ce4000f", func := "hotspot/hotspotlaw44.AirtimeRuns", spec := "airtimeRuns", unfollowed := true, recurses := true, apart := false, narrowed := true }
def AirtimeRunsUptoSaid : Prop := airtimeRunsUptoRow.holds Try.pinned (OpenSpec.upto airtimeRunsSpec)

/-- 'hotspotlaw44.AirtimeFair', WHERE WHAT IT READS IS OF BULK AT MOST 1048576: true; the input reads as it did. -/
def airtimeFairUptoRow : OpenClaim := { program := "ytccmgepknjkakaa", sum := "eea3a580c4284af33028c3dbcab64ee6d30ddb14bbb434f1c997fda52ce4000f", func := "hotspot/hotspotlaw44.AirtimeFair", spec := "airtimeFair", unfollowed := true, recurses := true, apart := false, narrowed := true }
def AirtimeFairUptoSaid : Prop := airtimeFairUptoRow.holds Try.pinned (OpenSpec.upto airtimeFairSpec)

/-- 'hotspotlaw44.AirtimeAlone', WHERE WHAT IT READS IS OF BULK AT MOST 1048576: true; the input reads as it did. -/
def airtimeAloneUptoRow : OpenClaim := { program := "ytccmgepknjkakaa", sum := "eea3a580c4284af33028c3dbcab64ee6d30ddb14bbb434f1c997fda52ce4000f", func := "hotspot/hotspotlaw44.AirtimeAlone", spec := "airtimeAlone", unfollowed := true, recurses := true, apart := false, narrowed := true }
def AirtimeAloneUptoSaid : Prop := airtimeAloneUptoRow.holds Try.pinned (OpenSpec.upto airtimeAloneSpec)

/-- 'hotspotlaw44.AirtimeTells', WHERE WHAT IT READS IS OF BULK AT MOST 1048576: true; the input reads as it did. -/
def airtimeTellsUptoRow : OpenClaim := { program := "ytccmgepknjkakaa", sum := "eea3a580c4284af33028c3dbcab64ee6d30ddb14bbb434f1c997fda52ce4000f", func := "hotspot/hotspotlaw44.AirtimeTells", spec := "airtimeTells", unfollowed := true, recurses := true, apart := false, narrowed := true }
def AirtimeTellsUptoSaid : Prop := airtimeTellsUptoRow.holds Try.pinned (OpenSpec.upto airtimeTellsSpec)

/-- 'hotspotlaw44.AirtimePicks', WHERE WHAT IT READS IS OF BULK AT MOST 1048576: true; the input reads as it did. -/
def airtimePicksUptoRow : OpenClaim := { program := "ytccmgepknjkakaa", sum := "eea3a580c4284af33028c3dbcab64ee6d30ddb14bbb434f1c997fda52ce4000f", func := "hotspot/hotspotlaw44.AirtimePicks", spec := "airtimePicks", unfollowed := true, recurses := true, apart := false, narrowed := true }
def AirtimePicksUptoSaid : Prop := airtimePicksUptoRow.holds Try.pinned (OpenSpec.upto airtimePicksSpec)

/-- 'hotspotlaw44.AirtimeNames', WHERE WHAT IT READS IS OF BULK AT MOST 1048576: true; the input reads as it did. -/
def airtimeNamesUptoRow : OpenClaim := { program := "ytccmgepknjkakaa", sum := "eea3a580c4284af33028c3dbcab64ee6d30ddb14bbb434f1c997fda52ce4000f", func := "hotspot/hotspotlaw44.AirtimeNames", spec := "airtimeNames", unfollowed := true, recurses := true, apart := false, narrowed := true }
def AirtimeNamesUptoSaid : Prop := airtimeNamesUptoRow.holds Try.pinned (OpenSpec.upto airtimeNamesSpec)

/-- 'hotspotlaw44.AirtimeSteps', WHERE WHAT IT READS IS OF BULK AT MOST 1048576: true; the input reads as it did. -/
def airtimeStepsUptoRow : OpenClaim := { program := "ytccmgepknjkakaa", sum := "eea3a580c4284af33028c3dbcab64ee6d30ddb14bbb434f1c997fda52ce4000f", func := "hotspot/hotspotlaw44.AirtimeSteps", spec := "airtimeSteps", unfollowed := true, recurses := true, apart := false, narrowed := true }
def AirtimeStepsUptoSaid : Prop := airtimeStepsUptoRow.holds Try.pinned (OpenSpec.upto airtimeStepsSpec)

end Rows
end Go.Proofs.Ytccmgepknjkakaa
