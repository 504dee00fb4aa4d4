/-
  NARROWER THAN 'FOR EVERY INPUT', by the rows' own cells (each row's printed sentence says how): BackoffTells: laid · BackoffBounds: laid · BackoffDrops: laid · BackoffResolves: laid · BackoffOne: laid · BackoffRuns: laid · BackoffWaits: laid · BackoffNames: laid.
  DERIVED. THE GIVEN ROWS OF THIS SEAT. 8 by the template 'for every input the law returns true; each argument reads behind the call as it read before'; 0 by the template 'total and deterministic' (their statements: YtdikdhjfcnocdaaDoorTotals.lean).
  GIVEN WITH THE SEED: the statements are not yours to turn. If you find one false, say at which input.
  Laid BY PROGRAM, IN A SANDBOX (cutbox-rows.mjs): the forced cells as the released guide's own fill.sh prints them over the translation a4c9b3f0ee95c8bc… (all of the seat's roots in one cut). By AI agents, Wed Nov 11 2026. No macro, syntax, notation, axiom, sorry.
-/
import Derived.Test.YtdikdhjfcnocdaaDoorChecked
import GoSem.Claim
import GoSem.ClaimJoined
import GoSem.ClaimMapViews
import Derived.JoinedTies
import Derived.KernelRfl
namespace Go.Proofs.YtdikdhjfcnocdaaDoor
/- THE CELL 'sum', in the pinned program and in every row, IS THE sha256 OF THE DUMP (.gsa) THAT YtdikdhjfcnocdaaDoorProg.lean LOADS. Nothing in Lean hashes anything: it is a label: what it is worth is what the hold of that sum in a sandbox is worth. -/
noncomputable def Tryd.pinned : Pinned := { name := "ytdikdhjfcnocdaadoor", sum := "a4c9b3f0ee95c8bcc0dc1b06b0630fab9815b9351aa79f1c39ac497cfe49e98a", checked := Tryd.checked }
namespace Rows
def none {H : Type} : Left H := { results := [], args := [] }

/- WHAT THE LISTED PACKAGE-LEVEL VARIABLES READ AS WHEN THE CALL BEGINS. Each datum BY PROGRAM (the guide's laid-datum.mjs) off the statement by which the dump's own 'gosem.cut.vars' lays the variable. In a bare row this is a premise. The card (YtdikdhjfcnocdaaDoorCards.lean) ties it to the program's text. -/
def laid_hotspot_backoff_windows {H : Type} : DataW H := .agg [.agg [.lit (.int .i64 15), .lit (.int .i64 1023)], .agg [.lit (.int .i64 15), .lit (.int .i64 1023)], .agg [.lit (.int .i64 7), .lit (.int .i64 15)], .agg [.lit (.int .i64 3), .lit (.int .i64 7)]]

/-- 'hotspotlaw14.BackoffTells': WHATEVER THE INPUT: true; the input reads as it did. -/
def backoffTellsSpec : ChangeSpec := { name := "backoffTells", fn := fun _ => fun
  | [d1, d2, d3, d4, d5] => { results := [.lit (.bool true)], args := [d1, d2, d3, d4, d5] }
  | _ => none }
def backoffTellsRow : OpenClaim := { program := "ytdikdhjfcnocdaadoor", sum := "a4c9b3f0ee95c8bcc0dc1b06b0630fab9815b9351aa79f1c39ac497cfe49e98a", func := "hotspot/hotspotlaw14.BackoffTells", spec := "backoffTells", named := ["hotspot/backoff.windows"], apart := false, laid := [("hotspot/backoff.windows", laid_hotspot_backoff_windows)] }
def BackoffTellsSaid : Prop := backoffTellsRow.holds Tryd.pinned (OpenSpec.ofChange backoffTellsSpec)

/-- ITS FALSE NEIGHBOUR: 'it returns false'. Refute it at one input. -/
def backoffTellsWrong : ChangeSpec := { name := "backoffTells", fn := fun _ => fun
  | [d1, d2, d3, d4, d5] => { results := [.lit (.bool false)], args := [d1, d2, d3, d4, d5] }
  | _ => none }
def BackoffTellsWrongFalsely : Prop := backoffTellsRow.holds Tryd.pinned (OpenSpec.ofChange backoffTellsWrong)

/-- 'hotspotlaw14.BackoffBounds': WHATEVER THE INPUT: true; the input reads as it did. -/
def backoffBoundsSpec : ChangeSpec := { name := "backoffBounds", fn := fun _ => fun
  | [d1, d2, d3] => { results := [.lit (.bool true)], args := [d1, d2, d3] }
  | _ => none }
def backoffBoundsRow : OpenClaim := { program := "ytdikdhjfcnocdaadoor", sum := "a4c9b3f0ee95c8bcc0dc1b06b0630fab9815b9351aa79f1c39ac497cfe49e98a", func := "hotspot/hotspotlaw14.BackoffBounds", spec := "backoffBounds", named := ["hotspot/backoff.windows"], apart := false, laid := [("hotspot/backoff.windows", laid_hotspot_backoff_windows)] }
def BackoffBoundsSaid : Prop := backoffBoundsRow.holds Tryd.pinned (OpenSpec.ofChange backoffBoundsSpec)

/-- ITS FALSE NEIGHBOUR: 'it returns false'. Refute it at one input. -/
def backoffBoundsWrong : ChangeSpec := { name := "backoffBounds", fn := fun _ => fun
  | [d1, d2, d3] => { results := [.lit (.bool false)], args := [d1, d2, d3] }
  | _ => none }
def BackoffBoundsWrongFalsely : Prop := backoffBoundsRow.holds Tryd.pinned (OpenSpec.ofChange backoffBoundsWrong)

/-- 'hotspotlaw14.BackoffDrops': WHATEVER THE INPUT: true; the input reads as it did. -/
def backoffDropsSpec : ChangeSpec := { name := "backoffDrops", fn := fun _ => fun
  | [d1, d2, d3] => { results := [.lit (.bool true)], args := [d1, d2, d3] }
  | _ => none }
def backoffDropsRow : OpenClaim := { program := "ytdikdhjfcnocdaadoor", sum := "a4c9b3f0ee95c8bcc0dc1b06b0630fab9815b9351aa79f1c39ac497cfe49e98a", func := "hotspot/hotspotlaw14.BackoffDrops", spec := "backoffDrops", named := ["hotspot/backoff.windows"], apart := false, laid := [("hotspot/backoff.windows", laid_hotspot_backoff_windows)] }
def BackoffDropsSaid : Prop := backoffDropsRow.holds Tryd.pinned (OpenSpec.ofChange backoffDropsSpec)

/-- ITS FALSE NEIGHBOUR: 'it returns false'. Refute it at one input. -/
def backoffDropsWrong : ChangeSpec := { name := "backoffDrops", fn := fun _ => fun
  | [d1, d2, d3] => { results := [.lit (.bool false)], args := [d1, d2, d3] }
  | _ => none }
def BackoffDropsWrongFalsely : Prop := backoffDropsRow.holds Tryd.pinned (OpenSpec.ofChange backoffDropsWrong)

/-- 'hotspotlaw14.BackoffResolves': WHATEVER THE INPUT: true; the input reads as it did. -/
def backoffResolvesSpec : ChangeSpec := { name := "backoffResolves", fn := fun _ => fun
  | [d1, d2, d3] => { results := [.lit (.bool true)], args := [d1, d2, d3] }
  | _ => none }
def backoffResolvesRow : OpenClaim := { program := "ytdikdhjfcnocdaadoor", sum := "a4c9b3f0ee95c8bcc0dc1b06b0630fab9815b9351aa79f1c39ac497cfe49e98a", func := "hotspot/hotspotlaw14.BackoffResolves", spec := "backoffResolves", named := ["hotspot/backoff.windows"], apart := false, laid := [("hotspot/backoff.windows", laid_hotspot_backoff_windows)] }
def BackoffResolvesSaid : Prop := backoffResolvesRow.holds Tryd.pinned (OpenSpec.ofChange backoffResolvesSpec)

/-- ITS FALSE NEIGHBOUR: 'it returns false'. Refute it at one input. -/
def backoffResolvesWrong : ChangeSpec := { name := "backoffResolves", fn := fun _ => fun
  | [d1, d2, d3] => { results := [.lit (.bool false)], args := [d1, d2, d3] }
  | _ => none }
def BackoffResolvesWrongFalsely : Prop := backoffResolvesRow.holds Tryd.pinned (OpenSpec.ofChange backoffResolvesWrong)

/-- 'hotspotlaw14.BackoffOne': WHATEVER THE INPUT: true; the input reads as it did. -/
def backoffOneSpec : ChangeSpec := { name := "backoffOne", fn := fun _ => fun
  | [d1, d2, d3] => { results := [.lit (.bool true)], args := [d1, d2, d3] }
  | _ => none }
def backoffOneRow : OpenClaim := { program := "ytdikdhjfcnocdaadoor", sum := "a4c9b3f0ee95c8bcc0dc1b06b0630fab9815b9351aa79f1c39ac497cfe49e98a", func := "hotspot/hotspotlaw14.BackoffOne", spec := "backoffOne", named := ["hotspot/backoff.windows"], apart := false, laid := [("hotspot/backoff.windows", laid_hotspot_backoff_windows)] }
def BackoffOneSaid : Prop := backoffOneRow.holds Tryd.pinned (OpenSpec.ofChange backoffOneSpec)

/-- ITS FALSE NEIGHBOUR: 'it returns false'. Refute it at one input. -/
def backoffOneWrong : ChangeSpec := { name := "backoffOne", fn := fun _ => fun
  | [d1, d2, d3] => { results := [.lit (.bool false)], args := [d1, d2, d3] }
  | _ => none }
def BackoffOneWrongFalsely : Prop := backoffOneRow.holds Tryd.pinned (OpenSpec.ofChange backoffOneWrong)

/-- 'hotspotlaw14.BackoffRuns': WHATEVER THE INPUT: true; the input reads as it did. -/
def backoffRunsSpec : ChangeSpec := { name := "backoffRuns", fn := fun _ => fun
  | [d1, d2, d3] => { results := [.lit (.bool true)], args := [d1, d2, d3] }
  | _ => none }
def backoffRunsRow : OpenClaim := { program := "ytdikdhjfcnocdaadoor", sum := "a4c9b3f0ee95c8bcc0dc1b06b0630fab9815b9351aa79f1c39ac497cfe49e98a", func := "hotspot/hotspotlaw14.BackoffRuns", spec := "backoffRuns", named := ["hotspot/backoff.windows"], apart := false, laid := [("hotspot/backoff.windows", laid_hotspot_backoff_windows)] }
def BackoffRunsSaid : Prop := backoffRunsRow.holds Tryd.pinned (OpenSpec.ofChange backoffRunsSpec)

/-- ITS FALSE NEIGHBOUR: 'it returns false'. Refute it at one input. -/
def backoffRunsWrong : ChangeSpec := { name := "backoffRuns", fn := fun _ => fun
  | [d1, d2, d3] => { results := [.lit (.bool false)], args := [d1, d2, d3] }
  | _ => none }
def BackoffRunsWrongFalsely : Prop := backoffRunsRow.holds Tryd.pinned (OpenSpec.ofChange backoffRunsWrong)

/-- 'hotspotlaw14.BackoffWaits': WHATEVER THE INPUT: true; the input reads as it did. -/
def backoffWaitsSpec : ChangeSpec := { name := "backoffWaits", fn := fun _ => fun
  | [d1, d2] => { results := [.lit (.bool true)], args := [d1, d2] }
  | _ => none }
def backoffWaitsRow : OpenClaim := { program := "ytdikdhjfcnocdaadoor", sum := "a4c9b3f0ee95c8bcc0dc1b06b0630fab9815b9351aa79f1c39ac497cfe49e98a", func := "hotspot/hotspotlaw14.BackoffWaits", spec := "backoffWaits", named := ["hotspot/backoff.windows"], apart := false, laid := [("hotspot/backoff.windows", laid_hotspot_backoff_windows)] }
def BackoffWaitsSaid : Prop := backoffWaitsRow.holds Tryd.pinned (OpenSpec.ofChange backoffWaitsSpec)

/-- ITS FALSE NEIGHBOUR: 'it returns false'. Refute it at one input. -/
def backoffWaitsWrong : ChangeSpec := { name := "backoffWaits", fn := fun _ => fun
  | [d1, d2] => { results := [.lit (.bool false)], args := [d1, d2] }
  | _ => none }
def BackoffWaitsWrongFalsely : Prop := backoffWaitsRow.holds Tryd.pinned (OpenSpec.ofChange backoffWaitsWrong)

/-- 'hotspotlaw14.BackoffNames': WHATEVER THE INPUT: true; the input reads as it did. -/
def backoffNamesSpec : ChangeSpec := { name := "backoffNames", fn := fun _ => fun
  | [] => { results := [.lit (.bool true)], args := [] }
  | _ => none }
def backoffNamesRow : OpenClaim := { program := "ytdikdhjfcnocdaadoor", sum := "a4c9b3f0ee95c8bcc0dc1b06b0630fab9815b9351aa79f1c39ac497cfe49e98a", func := "hotspot/hotspotlaw14.BackoffNames", spec := "backoffNames", named := ["hotspot/backoff.windows"], apart := false, laid := [("hotspot/backoff.windows", laid_hotspot_backoff_windows)] }
def BackoffNamesSaid : Prop := backoffNamesRow.holds Tryd.pinned (OpenSpec.ofChange backoffNamesSpec)

/-- ITS FALSE NEIGHBOUR: 'it returns false'. Refute it at one input. -/
def backoffNamesWrong : ChangeSpec := { name := "backoffNames", fn := fun _ => fun
  | [] => { results := [.lit (.bool false)], args := [] }
  | _ => none }
def BackoffNamesWrongFalsely : Prop := backoffNamesRow.holds Tryd.pinned (OpenSpec.ofChange backoffNamesWrong)

/- THE SECOND FORM. 'bulk': how many values and letters a reading holds, each counted each time it is reached (what is shared counts as often as it is met; a slice's spare places count too). A statement '..UptoSaid' is the law's where the arguments, and the package variables that the reading takes, are together of bulk at most 1048576: NARROWER than '..Said'. Prove '..Said' where nothing that the law and all that it calls make is longer than what came in: it says more and counts as full. Else prove '..UptoSaid'. A law counts once. -/
mutual
def uptoBulk {H : Type} : DataW H → Nat
  | .lit (.string bytes) => bytes.length + 1
  | .lit _ => 1
  | .nil => 1
  | .ptr d => uptoBulk d + 1
  | .slice elems spare => uptoBulkAll elems + uptoBulkAll spare + 1
  | .agg parts => uptoBulkAll parts + 1
  | .iface _ d => uptoBulk d + 1
  | .map entries => uptoBulkEntries entries + 1
  | .held _ => 1
def uptoBulkAll {H : Type} : List (DataW H) → Nat
  | [] => 0
  | d :: r => uptoBulk d + uptoBulkAll r
def uptoBulkEntries {H : Type} : List (Lit × DataW H) → Nat
  | [] => 0
  | x :: r => uptoBulkEntry x + uptoBulkEntries r
def uptoBulkEntry {H : Type} : Lit × DataW H → Nat
  | (.string bytes, d) => bytes.length + uptoBulk d + 1
  | (_, d) => uptoBulk d + 1
 end
def uptoSmall : (H : Type) → List (DataW H) → Bool := fun _ ds => decide (uptoBulkAll ds ≤ 1048576)
def OpenSpec.upto (s : _root_.Go.ChangeSpec) : _root_.Go.OpenSpec := { _root_.Go.OpenSpec.ofChange s with cond := some uptoSmall }

/-- 'hotspotlaw14.BackoffTells', WHERE WHAT IT READS IS OF BULK AT MOST 1048576: true; the input reads as it did. -/
def backoffTellsUptoRow : OpenClaim := { program := "ytdikdhjfcnocdaadoor", sum := "a4c9b3f0ee95c8bcc0dc1b06b0630fab9815b9351aa79f1c39ac497cfe49e98a", func := "hotspot/hotspotlaw14.BackoffTells", spec := "backoffTells", named := ["hotspot/backoff.windows"], apart := false, laid := [("hotspot/backoff.windows", laid_hotspot_backoff_windows)], narrowed := true }
def BackoffTellsUptoSaid : Prop := backoffTellsUptoRow.holds Tryd.pinned (OpenSpec.upto backoffTellsSpec)

/-- 'hotspotlaw14.BackoffBounds', WHERE WHAT IT READS IS OF BULK AT MOST 1048576: true; the input reads as it did. -/
def backoffBoundsUptoRow : OpenClaim := { program := "ytdikdhjfcnocdaadoor", sum := "a4c9b3f0ee95c8bcc0dc1b06b0630fab9815b9351aa79f1c39ac497cfe49e98a", func := "hotspot/hotspotlaw14.BackoffBounds", spec := "backoffBounds", named := ["hotspot/backoff.windows"], apart := false, laid := [("hotspot/backoff.windows", laid_hotspot_backoff_windows)], narrowed := true }
def BackoffBoundsUptoSaid : Prop := backoffBoundsUptoRow.holds Tryd.pinned (OpenSpec.upto backoffBoundsSpec)

/-- 'hotspotlaw14.BackoffDrops', WHERE WHAT IT READS IS OF BULK AT MOST 1048576: true; the input reads as it did. -/
def backoffDropsUptoRow : OpenClaim := { program := "ytdikdhjfcnocdaadoor", sum := "a4c9b3f0ee95c8bcc0dc1b06b0630fab9815b9351aa79f1c39ac497cfe49e98a", func := "hotspot/hotspotlaw14.BackoffDrops", spec := "backoffDrops", named := ["hotspot/backoff.windows"], apart := false, laid := [("hotspot/backoff.windows", laid_hotspot_backoff_windows)], narrowed := true }
def BackoffDropsUptoSaid : Prop := backoffDropsUptoRow.holds Tryd.pinned (OpenSpec.upto backoffDropsSpec)

/-- 'hotspotlaw14.BackoffResolves', WHERE WHAT IT READS IS OF BULK AT MOST 1048576: true; the input reads as it did. -/
def backoffResolvesUptoRow : OpenClaim := { program := "ytdikdhjfcnocdaadoor", sum := "a4c9b3f0ee95c8bcc0dc1b06b0630fab9815b9351aa79f1c39ac497cfe49e98a", func := "hotspot/hotspotlaw14.BackoffResolves", spec := "backoffResolves", named := ["hotspot/backoff.windows"], apart := false, laid := [("hotspot/backoff.windows", laid_hotspot_backoff_windows)], narrowed := true }
def BackoffResolvesUptoSaid : Prop := backoffResolvesUptoRow.holds Tryd.pinned (OpenSpec.upto backoffResolvesSpec)

/-- 'hotspotlaw14.BackoffOne', WHERE WHAT IT READS IS OF BULK AT MOST 1048576: true; the input reads as it did. -/
def backoffOneUptoRow : OpenClaim := { program := "ytdikdhjfcnocdaadoor", sum := "a4c9b3f0ee95c8bcc0dc1b06b0630fab9815b9351aa79f1c39ac497cfe49e98a", func := "hotspot/hotspotlaw14.BackoffOne", spec := "backoffOne", named := ["hotspot/backoff.windows"], apart := false, laid := [("hotspot/backoff.windows", laid_hotspot_backoff_windows)], narrowed := true }
def BackoffOneUptoSaid : Prop := backoffOneUptoRow.holds Tryd.pinned (OpenSpec.upto backoffOneSpec)

/-- 'hotspotlaw14.BackoffRuns', WHERE WHAT IT READS IS OF BULK AT MOST 1048576: true; the input reads as it did. -/
def backoffRunsUptoRow : OpenClaim := { program := "ytdikdhjfcnocdaadoor", sum := "a4c9b3f0ee95c8bcc0dc1b06b0630fab9815b9351aa79f1c39ac497cfe49e98a", func := "hotspot/hotspotlaw14.BackoffRuns", spec := "backoffRuns", named := ["hotspot/backoff.windows"], apart := false, laid := [("hotspot/backoff.windows", laid_hotspot_backoff_windows)], narrowed := true }
def BackoffRunsUptoSaid : Prop := backoffRunsUptoRow.holds Tryd.pinned (OpenSpec.upto backoffRunsSpec)

/-- 'hotspotlaw14.BackoffWaits', WHERE WHAT IT READS IS OF BULK AT MOST 1048576: true; the input reads as it did. -/
def backoffWaitsUptoRow : OpenClaim := { program := "ytdikdhjfcnocdaadoor", sum := "a4c9b3f0ee95c8bcc0dc1b06b0630fab9815b9351aa79f1c39ac497cfe49e98a", func := "hotspot/hotspotlaw14.BackoffWaits", spec := "backoffWaits", named := ["hotspot/backoff.windows"], apart := false, laid := [("hotspot/backoff.windows", laid_hotspot_backoff_windows)], narrowed := true }
def BackoffWaitsUptoSaid : Prop := backoffWaitsUptoRow.holds Tryd.pinned (OpenSpec.upto backoffWaitsSpec)

/-- 'hotspotlaw14.BackoffNames', WHERE WHAT IT READS IS OF BULK AT MOST 1048576: true; the input reads as it did. -/
def backoffNamesUptoRow : OpenClaim := { program := "ytdikdhjfcnocdaadoor", sum := "a4c9b3f0ee95c8bcc0dc1b06b0630fab9815b9351aa79f1c39ac497cfe49e98a", func := "hotspot/hotspotlaw14.BackoffNames", spec := "backoffNames", named := ["hotspot/backoff.windows"], apart := false, laid := [("hotspot/backoff.windows", laid_hotspot_backoff_windows)], narrowed := true }
def BackoffNamesUptoSaid : Prop := backoffNamesUptoRow.holds Tryd.pinned (OpenSpec.upto backoffNamesSpec)

end Rows
end Go.Proofs.YtdikdhjfcnocdaaDoor
