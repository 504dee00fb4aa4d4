/-
  NARROWER THAN 'FOR EVERY INPUT', by the rows' own cells (each row's printed sentence says how): ContendMesh: laid · ContendLengths: laid · ContendCounts: laid · ContendPrefix: laid · ContendNames: laid · ContendTells: laid · ContendAsked: laid.
  DERIVED. THE GIVEN ROWS OF THIS SEAT. 7 by the template 'for every input the law returns true; each argument reads behind the call as it read before'; 0 by the template 'total and deterministic' (their statements: YtkagcjibneigdaaDoorTotals.lean).
  GIVEN WITH THE SEED: the statements are not yours to turn. If you find one false, say at which input.
  Laid BY PROGRAM, IN A SANDBOX (cutbox-rows.mjs): the forced cells as the released guide's own fill.sh prints them over the translation c6061a42ed57a85c… (all of the seat's roots in one cut). By AI agents, Wed Nov 11 2026. No macro, syntax, notation, axiom, sorry.
-/
import Derived.Test.YtkagcjibneigdaaDoorChecked
import GoSem.Claim
import GoSem.ClaimJoined
import GoSem.ClaimMapViews
import Derived.JoinedTies
import Derived.KernelRfl
namespace Go.Proofs.YtkagcjibneigdaaDoor
/- THE CELL 'sum', in the pinned program and in every row, IS THE sha256 OF THE DUMP (.gsa) THAT YtkagcjibneigdaaDoorProg.lean LOADS. Nothing in Lean hashes anything: it is a label: what it is worth is what the hold of that sum in a sandbox is worth. -/
noncomputable def Tryd.pinned : Pinned := { name := "ytkagcjibneigdaadoor", sum := "c6061a42ed57a85c7c84a78ab05535a751757205362e3b2dee1807b4c5f4586f", checked := Tryd.checked }
namespace Rows
def none {H : Type} : Left H := { results := [], args := [] }

/- WHAT THE LISTED PACKAGE-LEVEL VARIABLES READ AS WHEN THE CALL BEGINS. Each datum BY PROGRAM (the guide's laid-datum.mjs) off the statement by which the dump's own 'gosem.cut.vars' lays the variable. In a bare row this is a premise. The card (YtkagcjibneigdaaDoorCards.lean) ties it to the program's text. -/
def laid_hotspot_backoff_windows {H : Type} : DataW H := .agg [.agg [.lit (.int .i64 15), .lit (.int .i64 1023)], .agg [.lit (.int .i64 15), .lit (.int .i64 1023)], .agg [.lit (.int .i64 7), .lit (.int .i64 15)], .agg [.lit (.int .i64 3), .lit (.int .i64 7)]]

/-- 'hotspotlaw16.ContendMesh': WHATEVER THE INPUT: true; the input reads as it did. -/
def contendMeshSpec : ChangeSpec := { name := "contendMesh", fn := fun _ => fun
  | [d1, d2] => { results := [.lit (.bool true)], args := [d1, d2] }
  | _ => none }
def contendMeshRow : OpenClaim := { program := "ytkagcjibneigdaadoor", sum := "c6061a42ed57a85c7c84a78ab05535a751757205362e3b2dee1807b4c5f4586f", func := "hotspot/hotspotlaw16.ContendMesh", spec := "contendMesh", unfollowed := true, recurses := true, named := ["hotspot/backoff.windows"], apart := false, laid := [("hotspot/backoff.windows", laid_hotspot_backoff_windows)] }
def ContendMeshSaid : Prop := contendMeshRow.holds Tryd.pinned (OpenSpec.ofChange contendMeshSpec)

/-- ITS FALSE NEIGHBOUR: 'it returns false'. Refute it at one input. -/
def contendMeshWrong : ChangeSpec := { name := "contendMesh", fn := fun _ => fun
  | [d1, d2] => { results := [.lit (.bool false)], args := [d1, d2] }
  | _ => none }
def ContendMeshWrongFalsely : Prop := contendMeshRow.holds Tryd.pinned (OpenSpec.ofChange contendMeshWrong)

/-- 'hotspotlaw16.ContendLengths': WHATEVER THE INPUT: true; the input reads as it did. -/
def contendLengthsSpec : ChangeSpec := { name := "contendLengths", fn := fun _ => fun
  | [d1, d2] => { results := [.lit (.bool true)], args := [d1, d2] }
  | _ => none }
def contendLengthsRow : OpenClaim := { program := "ytkagcjibneigdaadoor", sum := "c6061a42ed57a85c7c84a78ab05535a751757205362e3b2dee1807b4c5f4586f", func := "hotspot/hotspotlaw16.ContendLengths", spec := "contendLengths", unfollowed := true, recurses := true, named := ["hotspot/backoff.windows"], apart := false, laid := [("hotspot/backoff.windows", laid_hotspot_backoff_windows)] }
def ContendLengthsSaid : Prop := contendLengthsRow.holds Tryd.pinned (OpenSpec.ofChange contendLengthsSpec)

/-- ITS FALSE NEIGHBOUR: 'it returns false'. Refute it at one input. -/
def contendLengthsWrong : ChangeSpec := { name := "contendLengths", fn := fun _ => fun
  | [d1, d2] => { results := [.lit (.bool false)], args := [d1, d2] }
  | _ => none }
def ContendLengthsWrongFalsely : Prop := contendLengthsRow.holds Tryd.pinned (OpenSpec.ofChange contendLengthsWrong)

/-- 'hotspotlaw16.ContendCounts': WHATEVER THE INPUT: true; the input reads as it did. -/
def contendCountsSpec : ChangeSpec := { name := "contendCounts", fn := fun _ => fun
  | [d1, d2] => { results := [.lit (.bool true)], args := [d1, d2] }
  | _ => none }
def contendCountsRow : OpenClaim := { program := "ytkagcjibneigdaadoor", sum := "c6061a42ed57a85c7c84a78ab05535a751757205362e3b2dee1807b4c5f4586f", func := "hotspot/hotspotlaw16.ContendCounts", spec := "contendCounts", unfollowed := true, recurses := true, named := ["hotspot/backoff.windows"], apart := false, laid := [("hotspot/backoff.windows", laid_hotspot_backoff_windows)] }
def ContendCountsSaid : Prop := contendCountsRow.holds Tryd.pinned (OpenSpec.ofChange contendCountsSpec)

/-- ITS FALSE NEIGHBOUR: 'it returns false'. Refute it at one input. -/
def contendCountsWrong : ChangeSpec := { name := "contendCounts", fn := fun _ => fun
  | [d1, d2] => { results := [.lit (.bool false)], args := [d1, d2] }
  | _ => none }
def ContendCountsWrongFalsely : Prop := contendCountsRow.holds Tryd.pinned (OpenSpec.ofChange contendCountsWrong)

/-- 'hotspotlaw16.ContendPrefix': WHATEVER THE INPUT: true; the input reads as it did. -/
def contendPrefixSpec : ChangeSpec := { name := "contendPrefix", fn := fun _ => fun
  | [d1, d2, d3] => { results := [.lit (.bool true)], args := [d1, d2, d3] }
  | _ => none }
def contendPrefixRow : OpenClaim := { program := "ytkagcjibneigdaadoor", sum := "c6061a42ed57a85c7c84a78ab05535a751757205362e3b2dee1807b4c5f4586f", func := "hotspot/hotspotlaw16.ContendPrefix", spec := "contendPrefix", unfollowed := true, recurses := true, named := ["hotspot/backoff.windows"], apart := false, laid := [("hotspot/backoff.windows", laid_hotspot_backoff_windows)] }
def ContendPrefixSaid : Prop := contendPrefixRow.holds Tryd.pinned (OpenSpec.ofChange contendPrefixSpec)

/-- ITS FALSE NEIGHBOUR: 'it returns false'. Refute it at one input. -/
def contendPrefixWrong : ChangeSpec := { name := "contendPrefix", fn := fun _ => fun
  | [d1, d2, d3] => { results := [.lit (.bool false)], args := [d1, d2, d3] }
  | _ => none }
def ContendPrefixWrongFalsely : Prop := contendPrefixRow.holds Tryd.pinned (OpenSpec.ofChange contendPrefixWrong)

/-- 'hotspotlaw16.ContendNames': WHATEVER THE INPUT: true; the input reads as it did. -/
def contendNamesSpec : ChangeSpec := { name := "contendNames", fn := fun _ => fun
  | [] => { results := [.lit (.bool true)], args := [] }
  | _ => none }
def contendNamesRow : OpenClaim := { program := "ytkagcjibneigdaadoor", sum := "c6061a42ed57a85c7c84a78ab05535a751757205362e3b2dee1807b4c5f4586f", func := "hotspot/hotspotlaw16.ContendNames", spec := "contendNames", unfollowed := true, recurses := true, named := ["hotspot/backoff.windows"], apart := false, laid := [("hotspot/backoff.windows", laid_hotspot_backoff_windows)] }
def ContendNamesSaid : Prop := contendNamesRow.holds Tryd.pinned (OpenSpec.ofChange contendNamesSpec)

/-- ITS FALSE NEIGHBOUR: 'it returns false'. Refute it at one input. -/
def contendNamesWrong : ChangeSpec := { name := "contendNames", fn := fun _ => fun
  | [] => { results := [.lit (.bool false)], args := [] }
  | _ => none }
def ContendNamesWrongFalsely : Prop := contendNamesRow.holds Tryd.pinned (OpenSpec.ofChange contendNamesWrong)

/-- 'hotspotlaw16.ContendTells': WHATEVER THE INPUT: true; the input reads as it did. -/
def contendTellsSpec : ChangeSpec := { name := "contendTells", fn := fun _ => fun
  | [d1, d2] => { results := [.lit (.bool true)], args := [d1, d2] }
  | _ => none }
def contendTellsRow : OpenClaim := { program := "ytkagcjibneigdaadoor", sum := "c6061a42ed57a85c7c84a78ab05535a751757205362e3b2dee1807b4c5f4586f", func := "hotspot/hotspotlaw16.ContendTells", spec := "contendTells", unfollowed := true, recurses := true, named := ["hotspot/backoff.windows"], apart := false, laid := [("hotspot/backoff.windows", laid_hotspot_backoff_windows)] }
def ContendTellsSaid : Prop := contendTellsRow.holds Tryd.pinned (OpenSpec.ofChange contendTellsSpec)

/-- ITS FALSE NEIGHBOUR: 'it returns false'. Refute it at one input. -/
def contendTellsWrong : ChangeSpec := { name := "contendTells", fn := fun _ => fun
  | [d1, d2] => { results := [.lit (.bool false)], args := [d1, d2] }
  | _ => none }
def ContendTellsWrongFalsely : Prop := contendTellsRow.holds Tryd.pinned (OpenSpec.ofChange contendTellsWrong)

/-- 'hotspotlaw16.ContendAsked': WHATEVER THE INPUT: true; the input reads as it did. -/
def contendAskedSpec : ChangeSpec := { name := "contendAsked", fn := fun _ => fun
  | [d1, d2] => { results := [.lit (.bool true)], args := [d1, d2] }
  | _ => none }
def contendAskedRow : OpenClaim := { program := "ytkagcjibneigdaadoor", sum := "c6061a42ed57a85c7c84a78ab05535a751757205362e3b2dee1807b4c5f4586f", func := "hotspot/hotspotlaw16.ContendAsked", spec := "contendAsked", unfollowed := true, recurses := true, named := ["hotspot/backoff.windows"], apart := false, laid := [("hotspot/backoff.windows", laid_hotspot_backoff_windows)] }
def ContendAskedSaid : Prop := contendAskedRow.holds Tryd.pinned (OpenSpec.ofChange contendAskedSpec)

/-- ITS FALSE NEIGHBOUR: 'it returns false'. Refute it at one input. -/
def contendAskedWrong : ChangeSpec := { name := "contendAsked", fn := fun _ => fun
  | [d1, d2] => { results := [.lit (.bool false)], args := [d1, d2] }
  | _ => none }
def ContendAskedWrongFalsely : Prop := contendAskedRow.holds Tryd.pinned (OpenSpec.ofChange contendAskedWrong)

/- THE SECOND FORM. 'bulk': how many values and letters a reading holds, each counted each time it is reached (what is shared counts as often as it is met; a slice's spare places count too). A statement '..UptoSaid' is the law's where the arguments, and the package variables that the reading takes, are together of bulk at most 1048576: NARROWER than '..Said'. Prove '..Said' where nothing that the law and all that it calls make is longer than what came in: it says more and counts as full. Else prove '..UptoSaid'. A law counts once. -/
mutual
def uptoBulk {H : Type} : DataW H → Nat
  | .lit (.string bytes) => bytes.length + 1
  | .lit _ => 1
  | .nil => 1
  | .ptr d => uptoBulk d + 1
  | .slice elems spare => uptoBulkAll elems + uptoBulkAll spare + 1
  | .agg parts => uptoBulkAll parts + 1
  | .iface _ d => uptoBulk d + 1
  | .map entries => uptoBulkEntries entries + 1
  | .held _ => 1
def uptoBulkAll {H : Type} : List (DataW H) → Nat
  | [] => 0
  | d :: r => uptoBulk d + uptoBulkAll r
def uptoBulkEntries {H : Type} : List (Lit × DataW H) → Nat
  | [] => 0
  | x :: r => uptoBulkEntry x + uptoBulkEntries r
def uptoBulkEntry {H : Type} : Lit × DataW H → Nat
  | (.string bytes, d) => bytes.length + uptoBulk d + 1
  | (_, d) => uptoBulk d + 1
 end
def uptoSmall : (H : Type) → List (DataW H) → Bool := fun _ ds => decide (uptoBulkAll ds ≤ 1048576)
def OpenSpec.upto (s : _root_.Go.ChangeSpec) : _root_.Go.OpenSpec := { _root_.Go.OpenSpec.ofChange s with cond := some uptoSmall }

/-- 'hotspotlaw16.ContendMesh', WHERE WHAT IT READS IS OF BULK AT MOST 1048576: true; the input reads as it did. -/
def contendMeshUptoRow : OpenClaim := { program := "ytkagcjibneigdaadoor", sum := "c6061a42ed57a85c7c84a78ab05535a751757205362e3b2dee1807b4c5f4586f", func := "hotspot/hotspotlaw16.ContendMesh", spec := "contendMesh", unfollowed := true, recurses := true, named := ["hotspot/backoff.windows"], apart := false, laid := [("hotspot/backoff.windows", laid_hotspot_backoff_windows)], narrowed := true }
def ContendMeshUptoSaid : Prop := contendMeshUptoRow.holds Tryd.pinned (OpenSpec.upto contendMeshSpec)

/-- 'hotspotlaw16.ContendLengths', WHERE WHAT IT READS IS OF BULK AT MOST 1048576: true; the input reads as it did. -/
def contendLengthsUptoRow : OpenClaim := { program := "ytkagcjibneigdaadoor", sum := "c6061a42ed57a85c7c84a78ab05535a751757205362e3b2dee1807b4c5f4586f", func := "hotspot/hotspotlaw16.ContendLengths", spec := "contendLengths", unfollowed := true, recurses := true, named := ["hotspot/backoff.windows"], apart := false, laid := [("hotspot/backoff.windows", laid_hotspot_backoff_windows)], narrowed := true }
def ContendLengthsUptoSaid : Prop := contendLengthsUptoRow.holds Tryd.pinned (OpenSpec.upto contendLengthsSpec)

/-- 'hotspotlaw16.ContendCounts', WHERE WHAT IT READS IS OF BULK AT MOST 1048576: true; the input reads as it did. -/
def contendCountsUptoRow : OpenClaim := { program := "ytkagcjibneigdaadoor", sum := "c6061a42ed57a85c7c84a78ab05535a751757205362e3b2dee1807b4c5f4586f", func := "hotspot/hotspotlaw16.ContendCounts", spec := "contendCounts", unfollowed := true, recurses := true, named := ["hotspot/backoff.windows"], apart := false, laid := [("hotspot/backoff.windows", laid_hotspot_backoff_windows)], narrowed := true }
def ContendCountsUptoSaid : Prop := contendCountsUptoRow.holds Tryd.pinned (OpenSpec.upto contendCountsSpec)

/-- 'hotspotlaw16.ContendPrefix', WHERE WHAT IT READS IS OF BULK AT MOST 1048576: true; the input reads as it did. -/
def contendPrefixUptoRow : OpenClaim := { program := "ytkagcjibneigdaadoor", sum := "c6061a42ed57a85c7c84a78ab05535a751757205362e3b2dee1807b4c5f4586f", func := "hotspot/hotspotlaw16.ContendPrefix", spec := "contendPrefix", unfollowed := true, recurses := true, named := ["hotspot/backoff.windows"], apart := false, laid := [("hotspot/backoff.windows", laid_hotspot_backoff_windows)], narrowed := true }
def ContendPrefixUptoSaid : Prop := contendPrefixUptoRow.holds Tryd.pinned (OpenSpec.upto contendPrefixSpec)

/-- 'hotspotlaw16.ContendNames', WHERE WHAT IT READS IS OF BULK AT MOST 1048576: true; the input reads as it did. -/
def contendNamesUptoRow : OpenClaim := { program := "ytkagcjibneigdaadoor", sum := "c6061a42ed57a85c7c84a78ab05535a751757205362e3b2dee1807b4c5f4586f", func := "hotspot/hotspotlaw16.ContendNames", spec := "contendNames", unfollowed := true, recurses := true, named := ["hotspot/backoff.windows"], apart := false, laid := [("hotspot/backoff.windows", laid_hotspot_backoff_windows)], narrowed := true }
def ContendNamesUptoSaid : Prop := contendNamesUptoRow.holds Tryd.pinned (OpenSpec.upto contendNamesSpec)

/-- 'hotspotlaw16.ContendTells', WHERE WHAT IT READS IS OF BULK AT MOST 1048576: true; the input reads as it did. -/
def contendTellsUptoRow : OpenClaim := { program := "ytkagcjibneigdaadoor", sum := "c6061a42ed57a85c7c84a78ab05535a751757205362e3b2dee1807b4c5f4586f", func := "hotspot/hotspotlaw16.ContendTells", spec := "contendTells", unfollowed := true, recurses := true, named := ["hotspot/backoff.windows"], apart := false, laid := [("hotspot/backoff.windows", laid_hotspot_backoff_windows)], narrowed := true }
def ContendTellsUptoSaid : Prop := contendTellsUptoRow.holds Tryd.pinned (OpenSpec.upto contendTellsSpec)

/-- 'hotspotlaw16.ContendAsked', WHERE WHAT IT READS IS OF BULK AT MOST 1048576: true; the input reads as it did. -/
def contendAskedUptoRow : OpenClaim := { program := "ytkagcjibneigdaadoor", sum := "c6061a42ed57a85c7c84a78ab05535a751757205362e3b2dee1807b4c5f4586f", func := "hotspot/hotspotlaw16.ContendAsked", spec := "contendAsked", unfollowed := true, recurses := true, named := ["hotspot/backoff.windows"], apart := false, laid := [("hotspot/backoff.windows", laid_hotspot_backoff_windows)], narrowed := true }
def ContendAskedUptoSaid : Prop := contendAskedUptoRow.holds Tryd.pinned (OpenSpec.upto contendAskedSpec)

end Rows
end Go.Proofs.YtkagcjibneigdaaDoor
