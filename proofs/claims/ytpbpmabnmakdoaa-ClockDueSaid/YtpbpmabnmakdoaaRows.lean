/-
  No cell of these rows narrows 'for every input' (looked for: loops, veiled, ifaces, maps, wideKeys, modest, calm, conditions, laid).
  DERIVED. THE GIVEN ROWS OF THIS SEAT. 7 by the template 'for every input the law returns true; each argument reads behind the call as it read before'; 0 by the template 'total and deterministic' (their statements: YtpbpmabnmakdoaaTotals.lean).
  GIVEN WITH THE SEED: the statements are not yours to turn. If you find one false, say at which input.
  Laid BY PROGRAM, IN A SANDBOX (cutbox-rows.mjs): the forced cells as the released guide's own fill.sh prints them over the translation 81c93efc38d407c1… (all of the seat's roots in one cut). By AI agents, Wed Nov 11 2026. No macro, syntax, notation, axiom, sorry.
-/
import Derived.Test.YtpbpmabnmakdoaaChecked
import GoSem.Claim
import GoSem.ClaimJoined
import GoSem.ClaimMapViews
import Derived.JoinedTies
import Derived.KernelRfl
namespace Go.Proofs.Ytpbpmabnmakdoaa
/- THE CELL 'sum', in the pinned program and in every row, IS THE sha256 OF THE DUMP (.gsa) THAT YtpbpmabnmakdoaaProg.lean LOADS. Nothing in Lean hashes anything: it is a label: what it is worth is what the hold of that sum in a sandbox is worth. -/
noncomputable def Try.pinned : Pinned := { name := "ytpbpmabnmakdoaa", sum := "81c93efc38d407c156e7eb60fb8df2c8b40454de50ad4b184c17728540c156fc", checked := Try.checked }
namespace Rows
def none {H : Type} : Left H := { results := [], args := [] }

/-- 'hotspotlaw12.ClockRounds': WHATEVER THE INPUT: true; the input reads as it did. -/
def clockRoundsSpec : ChangeSpec := { name := "clockRounds", fn := fun _ => fun
  | [d1, d2, d3] => { results := [.lit (.bool true)], args := [d1, d2, d3] }
  | _ => none }
def clockRoundsRow : OpenClaim := { program := "ytpbpmabnmakdoaa", sum := "81c93efc38d407c156e7eb60fb8df2c8b40454de50ad4b184c17728540c156fc", func := "hotspot/hotspotlaw12.ClockRounds", spec := "clockRounds", unfollowed := true, recurses := true, apart := false }
def ClockRoundsSaid : Prop := clockRoundsRow.holds Try.pinned (OpenSpec.ofChange clockRoundsSpec)

/-- ITS FALSE NEIGHBOUR: 'it returns false'. Refute it at one input. -/
def clockRoundsWrong : ChangeSpec := { name := "clockRounds", fn := fun _ => fun
  | [d1, d2, d3] => { results := [.lit (.bool false)], args := [d1, d2, d3] }
  | _ => none }
def ClockRoundsWrongFalsely : Prop := clockRoundsRow.holds Try.pinned (OpenSpec.ofChange clockRoundsWrong)

/-- 'hotspotlaw12.ClockTells': WHATEVER THE INPUT: true; the input reads as it did. -/
def clockTellsSpec : ChangeSpec := { name := "clockTells", fn := fun _ => fun
  | [d1, d2, d3, d4] => { results := [.lit (.bool true)], args := [d1, d2, d3, d4] }
  | _ => none }
def clockTellsRow : OpenClaim := { program := "ytpbpmabnmakdoaa", sum := "81c93efc38d407c156e7eb60fb8df2c8b40454de50ad4b184c17728540c156fc", func := "hotspot/hotspotlaw12.ClockTells", spec := "clockTells", unfollowed := true, recurses := true, apart := false }
def ClockTellsSaid : Prop := clockTellsRow.holds Try.pinned (OpenSpec.ofChange clockTellsSpec)

/-- ITS FALSE NEIGHBOUR: 'it returns false'. Refute it at one input. -/
def clockTellsWrong : ChangeSpec := { name := "clockTells", fn := fun _ => fun
  | [d1, d2, d3, d4] => { results := [.lit (.bool false)], args := [d1, d2, d3, d4] }
  | _ => none }
def ClockTellsWrongFalsely : Prop := clockTellsRow.holds Try.pinned (OpenSpec.ofChange clockTellsWrong)

/-- 'hotspotlaw12.ClockMonotone': WHATEVER THE INPUT: true; the input reads as it did. -/
def clockMonotoneSpec : ChangeSpec := { name := "clockMonotone", fn := fun _ => fun
  | [d1, d2, d3] => { results := [.lit (.bool true)], args := [d1, d2, d3] }
  | _ => none }
def clockMonotoneRow : OpenClaim := { program := "ytpbpmabnmakdoaa", sum := "81c93efc38d407c156e7eb60fb8df2c8b40454de50ad4b184c17728540c156fc", func := "hotspot/hotspotlaw12.ClockMonotone", spec := "clockMonotone", unfollowed := true, recurses := true, apart := false }
def ClockMonotoneSaid : Prop := clockMonotoneRow.holds Try.pinned (OpenSpec.ofChange clockMonotoneSpec)

/-- ITS FALSE NEIGHBOUR: 'it returns false'. Refute it at one input. -/
def clockMonotoneWrong : ChangeSpec := { name := "clockMonotone", fn := fun _ => fun
  | [d1, d2, d3] => { results := [.lit (.bool false)], args := [d1, d2, d3] }
  | _ => none }
def ClockMonotoneWrongFalsely : Prop := clockMonotoneRow.holds Try.pinned (OpenSpec.ofChange clockMonotoneWrong)

/-- 'hotspotlaw12.ClockAdopts': WHATEVER THE INPUT: true; the input reads as it did. -/
def clockAdoptsSpec : ChangeSpec := { name := "clockAdopts", fn := fun _ => fun
  | [d1, d2, d3] => { results := [.lit (.bool true)], args := [d1, d2, d3] }
  | _ => none }
def clockAdoptsRow : OpenClaim := { program := "ytpbpmabnmakdoaa", sum := "81c93efc38d407c156e7eb60fb8df2c8b40454de50ad4b184c17728540c156fc", func := "hotspot/hotspotlaw12.ClockAdopts", spec := "clockAdopts", unfollowed := true, recurses := true, apart := false }
def ClockAdoptsSaid : Prop := clockAdoptsRow.holds Try.pinned (OpenSpec.ofChange clockAdoptsSpec)

/-- ITS FALSE NEIGHBOUR: 'it returns false'. Refute it at one input. -/
def clockAdoptsWrong : ChangeSpec := { name := "clockAdopts", fn := fun _ => fun
  | [d1, d2, d3] => { results := [.lit (.bool false)], args := [d1, d2, d3] }
  | _ => none }
def ClockAdoptsWrongFalsely : Prop := clockAdoptsRow.holds Try.pinned (OpenSpec.ofChange clockAdoptsWrong)

/-- 'hotspotlaw12.ClockTarget': WHATEVER THE INPUT: true; the input reads as it did. -/
def clockTargetSpec : ChangeSpec := { name := "clockTarget", fn := fun _ => fun
  | [d1, d2, d3] => { results := [.lit (.bool true)], args := [d1, d2, d3] }
  | _ => none }
def clockTargetRow : OpenClaim := { program := "ytpbpmabnmakdoaa", sum := "81c93efc38d407c156e7eb60fb8df2c8b40454de50ad4b184c17728540c156fc", func := "hotspot/hotspotlaw12.ClockTarget", spec := "clockTarget", unfollowed := true, recurses := true, apart := false }
def ClockTargetSaid : Prop := clockTargetRow.holds Try.pinned (OpenSpec.ofChange clockTargetSpec)

/-- ITS FALSE NEIGHBOUR: 'it returns false'. Refute it at one input. -/
def clockTargetWrong : ChangeSpec := { name := "clockTarget", fn := fun _ => fun
  | [d1, d2, d3] => { results := [.lit (.bool false)], args := [d1, d2, d3] }
  | _ => none }
def ClockTargetWrongFalsely : Prop := clockTargetRow.holds Try.pinned (OpenSpec.ofChange clockTargetWrong)

/-- 'hotspotlaw12.ClockRound': WHATEVER THE INPUT: true; the input reads as it did. -/
def clockRoundSpec : ChangeSpec := { name := "clockRound", fn := fun _ => fun
  | [d1, d2, d3, d4] => { results := [.lit (.bool true)], args := [d1, d2, d3, d4] }
  | _ => none }
def clockRoundRow : OpenClaim := { program := "ytpbpmabnmakdoaa", sum := "81c93efc38d407c156e7eb60fb8df2c8b40454de50ad4b184c17728540c156fc", func := "hotspot/hotspotlaw12.ClockRound", spec := "clockRound", unfollowed := true, recurses := true, apart := false }
def ClockRoundSaid : Prop := clockRoundRow.holds Try.pinned (OpenSpec.ofChange clockRoundSpec)

/-- ITS FALSE NEIGHBOUR: 'it returns false'. Refute it at one input. -/
def clockRoundWrong : ChangeSpec := { name := "clockRound", fn := fun _ => fun
  | [d1, d2, d3, d4] => { results := [.lit (.bool false)], args := [d1, d2, d3, d4] }
  | _ => none }
def ClockRoundWrongFalsely : Prop := clockRoundRow.holds Try.pinned (OpenSpec.ofChange clockRoundWrong)

/-- 'hotspotlaw12.ClockDue': WHATEVER THE INPUT: true; the input reads as it did. -/
def clockDueSpec : ChangeSpec := { name := "clockDue", fn := fun _ => fun
  | [d1, d2] => { results := [.lit (.bool true)], args := [d1, d2] }
  | _ => none }
def clockDueRow : OpenClaim := { program := "ytpbpmabnmakdoaa", sum := "81c93efc38d407c156e7eb60fb8df2c8b40454de50ad4b184c17728540c156fc", func := "hotspot/hotspotlaw12.ClockDue", spec := "clockDue", unfollowed := true, recurses := true, apart := false }
def ClockDueSaid : Prop := clockDueRow.holds Try.pinned (OpenSpec.ofChange clockDueSpec)

/-- ITS FALSE NEIGHBOUR: 'it returns false'. Refute it at one input. -/
def clockDueWrong : ChangeSpec := { name := "clockDue", fn := fun _ => fun
  | [d1, d2] => { results := [.lit (.bool false)], args := [d1, d2] }
  | _ => none }
def ClockDueWrongFalsely : Prop := clockDueRow.holds Try.pinned (OpenSpec.ofChange clockDueWrong)

/- THE SECOND FORM. 'bulk': how many values and letters a reading holds, each counted each time it is reached (what is shared counts as often as it is met; a slice's spare places count too). A statement '..UptoSaid' is the law's where the arguments, and the package variables that the reading takes, are together of bulk at most 1048576: NARROWER than '..Said'. Prove '..Said' where nothing that the law and all that it calls make is longer than what came in: it says more and counts as full. Else prove '..UptoSaid'. A law counts once. -/
mutual
def uptoBulk {H : Type} : DataW H → Nat
  | .lit (.string bytes) => bytes.length + 1
  | .lit _ => 1
  | .nil => 1
  | .ptr d => uptoBulk d + 1
  | .slice elems spare => uptoBulkAll elems + uptoBulkAll spare + 1
  | .agg parts => uptoBulkAll parts + 1
  | .iface _ d => uptoBulk d + 1
  | .map entries => uptoBulkEntries entries + 1
  | .held _ => 1
def uptoBulkAll {H : Type} : List (DataW H) → Nat
  | [] => 0
  | d :: r => uptoBulk d + uptoBulkAll r
def uptoBulkEntries {H : Type} : List (Lit × DataW H) → Nat
  | [] => 0
  | x :: r => uptoBulkEntry x + uptoBulkEntries r
def uptoBulkEntry {H : Type} : Lit × DataW H → Nat
  | (.string bytes, d) => bytes.length + uptoBulk d + 1
  | (_, d) => uptoBulk d + 1
 end
def uptoSmall : (H : Type) → List (DataW H) → Bool := fun _ ds => decide (uptoBulkAll ds ≤ 1048576)
def OpenSpec.upto (s : _root_.Go.ChangeSpec) : _root_.Go.OpenSpec := { _root_.Go.OpenSpec.ofChange s with cond := some uptoSmall }

/-- 'hotspotlaw12.ClockRounds', WHERE WHAT IT READS IS OF BULK AT MOST 1048576: true; the input reads as it did. -/
def clockRoundsUptoRow : OpenClaim := { program := "ytpbpmabnmakdoaa", sum := "81c93efc38d407c156e7eb60fb8df2c8b40454de50ad4b184c17728540c156fc", func := "hotspot/hotspotlaw12.ClockRounds", spec := "clockRounds", unfollowed := true, recurses := true, apart := false, narrowed := true }
def ClockRoundsUptoSaid : Prop := clockRoundsUptoRow.holds Try.pinned (OpenSpec.upto clockRoundsSpec)

/-- 'hotspotlaw12.ClockTells', WHERE WHAT IT READS IS OF BULK AT MOST 1048576: true; the input reads as it did. -/
def clockTellsUptoRow : OpenClaim := { program := "ytpbpmabnmakdoaa", sum := "81c93efc38d407c156e7eb60fb8df2c8b40454de50ad4b184c17728540c156fc", func := "hotspot/hotspotlaw12.ClockTells", spec := "clockTells", unfollowed := true, recurses := true, apart := false, narrowed := true }
def ClockTellsUptoSaid : Prop := clockTellsUptoRow.holds Try.pinned (OpenSpec.upto clockTellsSpec)

/-- 'hotspotlaw12.ClockMonotone', WHERE WHAT IT READS IS OF BULK AT MOST 1048576: true; the input reads as it did. -/
def clockMonotoneUptoRow : OpenClaim := { program := "ytpbpmabnmakdoaa", sum := "81c93efc38d407c156e7eb60fb8df2c8b40454de50ad4b184c17728540c156fc", func := "hotspot/hotspotlaw12.ClockMonotone", spec := "clockMonotone", unfollowed := true, recurses := true, apart := false, narrowed := true }
def ClockMonotoneUptoSaid : Prop := clockMonotoneUptoRow.holds Try.pinned (OpenSpec.upto clockMonotoneSpec)

/-- 'hotspotlaw12.ClockAdopts', WHERE WHAT IT READS IS OF BULK AT MOST 1048576: true; the input reads as it did. -/
def clockAdoptsUptoRow : OpenClaim := { program := "ytpbpmabnmakdoaa", sum := "81c93efc38d407c156e7eb60fb8df2c8b40454de50ad4b184c17728540c156fc", func := "hotspot/hotspotlaw12.ClockAdopts", spec := "clockAdopts", unfollowed := true, recurses := true, apart := false, narrowed := true }
def ClockAdoptsUptoSaid : Prop := clockAdoptsUptoRow.holds Try.pinned (OpenSpec.upto clockAdoptsSpec)

/-- 'hotspotlaw12.ClockTarget', WHERE WHAT IT READS IS OF BULK AT MOST 1048576: true; the input reads as it did. -/
def clockTargetUptoRow : OpenClaim := { program := "ytpbpmabnmakdoaa", sum := "81c93efc38d407c156e7eb60fb8df2c8b40454de50ad4b184c17728540c156fc", func := "hotspot/hotspotlaw12.ClockTarget", spec := "clockTarget", unfollowed := true, recurses := true, apart := false, narrowed := true }
def ClockTargetUptoSaid : Prop := clockTargetUptoRow.holds Try.pinned (OpenSpec.upto clockTargetSpec)

/-- 'hotspotlaw12.ClockRound', WHERE WHAT IT READS IS OF BULK AT MOST 1048576: true; the input reads as it did. -/
def clockRoundUptoRow : OpenClaim := { program := "ytpbpmabnmakdoaa", sum := "81c93efc38d407c156e7eb60fb8df2c8b40454de50ad4b184c17728540c156fc", func := "hotspot/hotspotlaw12.ClockRound", spec := "clockRound", unfollowed := true, recurses := true, apart := false, narrowed := true }
def ClockRoundUptoSaid : Prop := clockRoundUptoRow.holds Try.pinned (OpenSpec.upto clockRoundSpec)

/-- 'hotspotlaw12.ClockDue', WHERE WHAT IT READS IS OF BULK AT MOST 1048576: true; the input reads as it did. -/
def clockDueUptoRow : OpenClaim := { program := "ytpbpmabnmakdoaa", sum := "81c93efc38d407c156e7eb60fb8df2c8b40454de50ad4b184c17728540c156fc", func := "hotspot/hotspotlaw12.ClockDue", spec := "clockDue", unfollowed := true, recurses := true, apart := false, narrowed := true }
def ClockDueUptoSaid : Prop := clockDueUptoRow.holds Try.pinned (OpenSpec.upto clockDueSpec)

end Rows
end Go.Proofs.Ytpbpmabnmakdoaa
