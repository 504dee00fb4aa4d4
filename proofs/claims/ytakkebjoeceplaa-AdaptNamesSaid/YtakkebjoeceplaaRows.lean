/-
  No cell of these rows narrows 'for every input' (looked for: loops, veiled, ifaces, maps, wideKeys, modest, calm, conditions, laid).
  DERIVED. THE GIVEN ROWS OF THIS SEAT. 7 by the template 'for every input the law returns true; each argument reads behind the call as it read before'; 0 by the template 'total and deterministic' (their statements: YtakkebjoeceplaaTotals.lean).
  GIVEN WITH THE SEED: the statements are not yours to turn. If you find one false, say at which input.
  Laid BY PROGRAM, IN A SANDBOX (cutbox-rows.mjs): the forced cells as the released guide's own fill.sh prints them over the translation f05b0cb7f5c2ad3f… (all of the seat's roots in one cut). By AI agents, Wed Nov 11 2026. No macro, syntax, notation, axiom, sorry.
-/
import Derived.Test.YtakkebjoeceplaaChecked
import GoSem.Claim
import GoSem.ClaimJoined
import GoSem.ClaimMapViews
import Derived.JoinedTies
import Derived.KernelRfl
namespace Go.Proofs.Ytakkebjoeceplaa
/- THE CELL 'sum', in the pinned program and in every row, IS THE sha256 OF THE DUMP (.gsa) THAT YtakkebjoeceplaaProg.lean LOADS. Nothing in Lean hashes anything: it is a label: what it is worth is what the hold of that sum in a sandbox is worth. -/
noncomputable def Try.pinned : Pinned := { name := "ytakkebjoeceplaa", sum := "f05b0cb7f5c2ad3f92090a5e971d97801a16b849ee896b31c6fdc2a770d50db8", checked := Try.checked }
namespace Rows
def none {H : Type} : Left H := { results := [], args := [] }

/-- 'hotspotlaw42.AdaptTurns': WHATEVER THE INPUT: true; the input reads as it did. -/
def adaptTurnsSpec : ChangeSpec := { name := "adaptTurns", fn := fun _ => fun
  | [d1, d2, d3, d4, d5] => { results := [.lit (.bool true)], args := [d1, d2, d3, d4, d5] }
  | _ => none }
def adaptTurnsRow : OpenClaim := { program := "ytakkebjoeceplaa", sum := "f05b0cb7f5c2ad3f92090a5e971d97801a16b849ee896b31c6fdc2a770d50db8", func := "hotspot/hotspotlaw42.AdaptTurns", spec := "adaptTurns", apart := false }
def AdaptTurnsSaid : Prop := adaptTurnsRow.holds Try.pinned (OpenSpec.ofChange adaptTurnsSpec)

/-- ITS FALSE NEIGHBOUR: 'it returns false'. Refute it at one input. -/
def adaptTurnsWrong : ChangeSpec := { name := "adaptTurns", fn := fun _ => fun
  | [d1, d2, d3, d4, d5] => { results := [.lit (.bool false)], args := [d1, d2, d3, d4, d5] }
  | _ => none }
def AdaptTurnsWrongFalsely : Prop := adaptTurnsRow.holds Try.pinned (OpenSpec.ofChange adaptTurnsWrong)

/-- 'hotspotlaw42.AdaptTells': WHATEVER THE INPUT: true; the input reads as it did. -/
def adaptTellsSpec : ChangeSpec := { name := "adaptTells", fn := fun _ => fun
  | [d1, d2, d3] => { results := [.lit (.bool true)], args := [d1, d2, d3] }
  | _ => none }
def adaptTellsRow : OpenClaim := { program := "ytakkebjoeceplaa", sum := "f05b0cb7f5c2ad3f92090a5e971d97801a16b849ee896b31c6fdc2a770d50db8", func := "hotspot/hotspotlaw42.AdaptTells", spec := "adaptTells", unfollowed := true, recurses := true, apart := false }
def AdaptTellsSaid : Prop := adaptTellsRow.holds Try.pinned (OpenSpec.ofChange adaptTellsSpec)

/-- ITS FALSE NEIGHBOUR: 'it returns false'. Refute it at one input. -/
def adaptTellsWrong : ChangeSpec := { name := "adaptTells", fn := fun _ => fun
  | [d1, d2, d3] => { results := [.lit (.bool false)], args := [d1, d2, d3] }
  | _ => none }
def AdaptTellsWrongFalsely : Prop := adaptTellsRow.holds Try.pinned (OpenSpec.ofChange adaptTellsWrong)

/-- 'hotspotlaw42.AdaptBest': WHATEVER THE INPUT: true; the input reads as it did. -/
def adaptBestSpec : ChangeSpec := { name := "adaptBest", fn := fun _ => fun
  | [d] => { results := [.lit (.bool true)], args := [d] }
  | _ => none }
def adaptBestRow : OpenClaim := { program := "ytakkebjoeceplaa", sum := "f05b0cb7f5c2ad3f92090a5e971d97801a16b849ee896b31c6fdc2a770d50db8", func := "hotspot/hotspotlaw42.AdaptBest", spec := "adaptBest", unfollowed := true, recurses := true, apart := false }
def AdaptBestSaid : Prop := adaptBestRow.holds Try.pinned (OpenSpec.ofChange adaptBestSpec)

/-- ITS FALSE NEIGHBOUR: 'it returns false'. Refute it at one input. -/
def adaptBestWrong : ChangeSpec := { name := "adaptBest", fn := fun _ => fun
  | [d] => { results := [.lit (.bool false)], args := [d] }
  | _ => none }
def AdaptBestWrongFalsely : Prop := adaptBestRow.holds Try.pinned (OpenSpec.ofChange adaptBestWrong)

/-- 'hotspotlaw42.AdaptLearns': WHATEVER THE INPUT: true; the input reads as it did. -/
def adaptLearnsSpec : ChangeSpec := { name := "adaptLearns", fn := fun _ => fun
  | [d1, d2, d3, d4] => { results := [.lit (.bool true)], args := [d1, d2, d3, d4] }
  | _ => none }
def adaptLearnsRow : OpenClaim := { program := "ytakkebjoeceplaa", sum := "f05b0cb7f5c2ad3f92090a5e971d97801a16b849ee896b31c6fdc2a770d50db8", func := "hotspot/hotspotlaw42.AdaptLearns", spec := "adaptLearns", unfollowed := true, recurses := true, apart := false }
def AdaptLearnsSaid : Prop := adaptLearnsRow.holds Try.pinned (OpenSpec.ofChange adaptLearnsSpec)

/-- ITS FALSE NEIGHBOUR: 'it returns false'. Refute it at one input. -/
def adaptLearnsWrong : ChangeSpec := { name := "adaptLearns", fn := fun _ => fun
  | [d1, d2, d3, d4] => { results := [.lit (.bool false)], args := [d1, d2, d3, d4] }
  | _ => none }
def AdaptLearnsWrongFalsely : Prop := adaptLearnsRow.holds Try.pinned (OpenSpec.ofChange adaptLearnsWrong)

/-- 'hotspotlaw42.AdaptRounds': WHATEVER THE INPUT: true; the input reads as it did. -/
def adaptRoundsSpec : ChangeSpec := { name := "adaptRounds", fn := fun _ => fun
  | [d] => { results := [.lit (.bool true)], args := [d] }
  | _ => none }
def adaptRoundsRow : OpenClaim := { program := "ytakkebjoeceplaa", sum := "f05b0cb7f5c2ad3f92090a5e971d97801a16b849ee896b31c6fdc2a770d50db8", func := "hotspot/hotspotlaw42.AdaptRounds", spec := "adaptRounds", unfollowed := true, recurses := true, apart := false }
def AdaptRoundsSaid : Prop := adaptRoundsRow.holds Try.pinned (OpenSpec.ofChange adaptRoundsSpec)

/-- ITS FALSE NEIGHBOUR: 'it returns false'. Refute it at one input. -/
def adaptRoundsWrong : ChangeSpec := { name := "adaptRounds", fn := fun _ => fun
  | [d] => { results := [.lit (.bool false)], args := [d] }
  | _ => none }
def AdaptRoundsWrongFalsely : Prop := adaptRoundsRow.holds Try.pinned (OpenSpec.ofChange adaptRoundsWrong)

/-- 'hotspotlaw42.AdaptNames': WHATEVER THE INPUT: true; the input reads as it did. -/
def adaptNamesSpec : ChangeSpec := { name := "adaptNames", fn := fun _ => fun
  | [] => { results := [.lit (.bool true)], args := [] }
  | _ => none }
def adaptNamesRow : OpenClaim := { program := "ytakkebjoeceplaa", sum := "f05b0cb7f5c2ad3f92090a5e971d97801a16b849ee896b31c6fdc2a770d50db8", func := "hotspot/hotspotlaw42.AdaptNames", spec := "adaptNames", unfollowed := true, recurses := true, apart := false }
def AdaptNamesSaid : Prop := adaptNamesRow.holds Try.pinned (OpenSpec.ofChange adaptNamesSpec)

/-- ITS FALSE NEIGHBOUR: 'it returns false'. Refute it at one input. -/
def adaptNamesWrong : ChangeSpec := { name := "adaptNames", fn := fun _ => fun
  | [] => { results := [.lit (.bool false)], args := [] }
  | _ => none }
def AdaptNamesWrongFalsely : Prop := adaptNamesRow.holds Try.pinned (OpenSpec.ofChange adaptNamesWrong)

/-- 'hotspotlaw42.AdaptSamples': WHATEVER THE INPUT: true; the input reads as it did. -/
def adaptSamplesSpec : ChangeSpec := { name := "adaptSamples", fn := fun _ => fun
  | [d1, d2] => { results := [.lit (.bool true)], args := [d1, d2] }
  | _ => none }
def adaptSamplesRow : OpenClaim := { program := "ytakkebjoeceplaa", sum := "f05b0cb7f5c2ad3f92090a5e971d97801a16b849ee896b31c6fdc2a770d50db8", func := "hotspot/hotspotlaw42.AdaptSamples", spec := "adaptSamples", unfollowed := true, recurses := true, apart := false }
def AdaptSamplesSaid : Prop := adaptSamplesRow.holds Try.pinned (OpenSpec.ofChange adaptSamplesSpec)

/-- ITS FALSE NEIGHBOUR: 'it returns false'. Refute it at one input. -/
def adaptSamplesWrong : ChangeSpec := { name := "adaptSamples", fn := fun _ => fun
  | [d1, d2] => { results := [.lit (.bool false)], args := [d1, d2] }
  | _ => none }
def AdaptSamplesWrongFalsely : Prop := adaptSamplesRow.holds Try.pinned (OpenSpec.ofChange adaptSamplesWrong)

/- THE SECOND FORM. 'bulk': how many values and letters a reading holds, each counted each time it is reached (what is shared counts as often as it is met; a slice's spare places count too). A statement '..UptoSaid' is the law's where the arguments, and the package variables that the reading takes, are together of bulk at most 1048576: NARROWER than '..Said'. Prove '..Said' where nothing that the law and all that it calls make is longer than what came in: it says more and counts as full. Else prove '..UptoSaid'. A law counts once. -/
mutual
def uptoBulk {H : Type} : DataW H → Nat
  | .lit (.string bytes) => bytes.length + 1
  | .lit _ => 1
  | .nil => 1
  | .ptr d => uptoBulk d + 1
  | .slice elems spare => uptoBulkAll elems + uptoBulkAll spare + 1
  | .agg parts => uptoBulkAll parts + 1
  | .iface _ d => uptoBulk d + 1
  | .map entries => uptoBulkEntries entries + 1
  | .held _ => 1
def uptoBulkAll {H : Type} : List (DataW H) → Nat
  | [] => 0
  | d :: r => uptoBulk d + uptoBulkAll r
def uptoBulkEntries {H : Type} : List (Lit × DataW H) → Nat
  | [] => 0
  | x :: r => uptoBulkEntry x + uptoBulkEntries r
def uptoBulkEntry {H : Type} : Lit × DataW H → Nat
  | (.string bytes, d) => bytes.length + uptoBulk d + 1
  | (_, d) => uptoBulk d + 1
 end
def uptoSmall : (H : Type) → List (DataW H) → Bool := fun _ ds => decide (uptoBulkAll ds ≤ 1048576)
def OpenSpec.upto (s : _root_.Go.ChangeSpec) : _root_.Go.OpenSpec := { _root_.Go.OpenSpec.ofChange s with cond := some uptoSmall }

/-- 'hotspotlaw42.AdaptTurns', WHERE WHAT IT READS IS OF BULK AT MOST 1048576: true; the input reads as it did. -/
def adaptTurnsUptoRow : OpenClaim := { program := "ytakkebjoeceplaa", sum := "f05b0cb7f5c2ad3f92090a5e971d97801a16b849ee896b31c6fdc2a770d50db8", func := "hotspot/hotspotlaw42.AdaptTurns", spec := "adaptTurns", apart := false, narrowed := true }
def AdaptTurnsUptoSaid : Prop := adaptTurnsUptoRow.holds Try.pinned (OpenSpec.upto adaptTurnsSpec)

/-- 'hotspotlaw42.AdaptTells', WHERE WHAT IT READS IS OF BULK AT MOST 1048576: true; the input reads as it did. -/
def adaptTellsUptoRow : OpenClaim := { program := "ytakkebjoeceplaa", sum := "f05b0cb7f5c2ad3f92090a5e971d97801a16b849ee896b31c6fdc2a770d50db8", func := "hotspot/hotspotlaw42.AdaptTells", spec := "adaptTells", unfollowed := true, recurses := true, apart := false, narrowed := true }
def AdaptTellsUptoSaid : Prop := adaptTellsUptoRow.holds Try.pinned (OpenSpec.upto adaptTellsSpec)

/-- 'hotspotlaw42.AdaptBest', WHERE WHAT IT READS IS OF BULK AT MOST 1048576: true; the input reads as it did. -/
def adaptBestUptoRow : OpenClaim := { program := "ytakkebjoeceplaa", sum := "f05b0cb7f5c2ad3f92090a5e971d97801a16b849ee896b31c6fdc2a770d50db8", func := "hotspot/hotspotlaw42.AdaptBest", spec := "adaptBest", unfollowed := true, recurses := true, apart := false, narrowed := true }
def AdaptBestUptoSaid : Prop := adaptBestUptoRow.holds Try.pinned (OpenSpec.upto adaptBestSpec)

/-- 'hotspotlaw42.AdaptLearns', WHERE WHAT IT READS IS OF BULK AT MOST 1048576: true; the input reads as it did. -/
def adaptLearnsUptoRow : OpenClaim := { program := "ytakkebjoeceplaa", sum := "f05b0cb7f5c2ad3f92090a5e971d97801a16b849ee896b31c6fdc2a770d50db8", func := "hotspot/hotspotlaw42.AdaptLearns", spec := "adaptLearns", unfollowed := true, recurses := true, apart := false, narrowed := true }
def AdaptLearnsUptoSaid : Prop := adaptLearnsUptoRow.holds Try.pinned (OpenSpec.upto adaptLearnsSpec)

/-- 'hotspotlaw42.AdaptRounds', WHERE WHAT IT READS IS OF BULK AT MOST 1048576: true; the input reads as it did. -/
def adaptRoundsUptoRow : OpenClaim := { program := "ytakkebjoeceplaa", sum := "f05b0cb7f5c2ad3f92090a5e971d97801a16b849ee896b31c6fdc2a770d50db8", func := "hotspot/hotspotlaw42.AdaptRounds", spec := "adaptRounds", unfollowed := true, recurses := true, apart := false, narrowed := true }
def AdaptRoundsUptoSaid : Prop := adaptRoundsUptoRow.holds Try.pinned (OpenSpec.upto adaptRoundsSpec)

/-- 'hotspotlaw42.AdaptNames', WHERE WHAT IT READS IS OF BULK AT MOST 1048576: true; the input reads as it did. -/
def adaptNamesUptoRow : OpenClaim := { program := "ytakkebjoeceplaa", sum := "f05b0cb7f5c2ad3f92090a5e971d97801a16b849ee896b31c6fdc2a770d50db8", func := "hotspot/hotspotlaw42.AdaptNames", spec := "adaptNames", unfollowed := true, recurses := true, apart := false, narrowed := true }
def AdaptNamesUptoSaid : Prop := adaptNamesUptoRow.holds Try.pinned (OpenSpec.upto adaptNamesSpec)

/-- 'hotspotlaw42.AdaptSamples', WHERE WHAT IT READS IS OF BULK AT MOST 1048576: true; the input reads as it did. -/
def adaptSamplesUptoRow : OpenClaim := { program := "ytakkebjoeceplaa", sum := "f05b0cb7f5c2ad3f92090a5e971d97801a16b849ee896b31c6fdc2a770d50db8", func := "hotspot/hotspotlaw42.AdaptSamples", spec := "adaptSamples", unfollowed := true, recurses := true, apart := false, narrowed := true }
def AdaptSamplesUptoSaid : Prop := adaptSamplesUptoRow.holds Try.pinned (OpenSpec.upto adaptSamplesSpec)

end Rows
end Go.Proofs.Ytakkebjoeceplaa
