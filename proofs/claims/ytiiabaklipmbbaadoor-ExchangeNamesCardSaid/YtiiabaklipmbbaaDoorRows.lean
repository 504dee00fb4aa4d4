/-
  NARROWER THAN 'FOR EVERY INPUT', by the rows' own cells (each row's printed sentence says how): ExchangeNames: laid · ExchangeReserves: laid.
  DERIVED. THE GIVEN ROWS OF THIS SEAT. 2 by the template 'for every input the law returns true; each argument reads behind the call as it read before'; 0 by the template 'total and deterministic' (their statements: YtiiabaklipmbbaaDoorTotals.lean).
  GIVEN WITH THE SEED: the statements are not yours to turn. If you find one false, say at which input.
  Laid BY PROGRAM, IN A SANDBOX (cutbox-rows.mjs): the forced cells as the released guide's own fill.sh prints them over the translation 18ef5d3853e4c46c… (all of the seat's roots in one cut). By AI agents, Wed Nov 11 2026. No macro, syntax, notation, axiom, sorry.
-/
import Derived.Test.YtiiabaklipmbbaaDoorChecked
import GoSem.Claim
import GoSem.ClaimJoined
import GoSem.ClaimMapViews
import Derived.JoinedTies
import Derived.KernelRfl
namespace Go.Proofs.YtiiabaklipmbbaaDoor
/- THE CELL 'sum', in the pinned program and in every row, IS THE sha256 OF THE DUMP (.gsa) THAT YtiiabaklipmbbaaDoorProg.lean LOADS. Nothing in Lean hashes anything: it is a label: what it is worth is what the hold of that sum in a sandbox is worth. -/
noncomputable def Tryd.pinned : Pinned := { name := "ytiiabaklipmbbaadoor", sum := "18ef5d3853e4c46c0275dadd6ab2e2eccbea3c3d705c2067b8036e31133b5758", checked := Tryd.checked }
namespace Rows
def none {H : Type} : Left H := { results := [], args := [] }

/- WHAT THE LISTED PACKAGE-LEVEL VARIABLES READ AS WHEN THE CALL BEGINS. Each datum BY PROGRAM (the guide's laid-datum.mjs) off the statement by which the dump's own 'gosem.cut.vars' lays the variable. In a bare row this is a premise. The card (YtiiabaklipmbbaaDoorCards.lean) ties it to the program's text. -/
def laid_hotspot_exchange_subs {H : Type} : DataW H := .map [(.int .u8 1, .agg [.lit (.int .u8 1), .lit (.int .u8 11)]), (.int .u8 2, .agg [.lit (.int .u8 1), .lit (.int .u8 12)]), (.int .u8 3, .agg [.lit (.int .u8 1), .lit (.int .u8 12)]), (.int .u8 4, .agg [.lit (.int .u8 2), .lit (.int .u8 8)]), (.int .u8 5, .agg [.lit (.int .u8 1), .lit (.int .u8 13)]), (.int .u8 6, .agg [.lit (.int .u8 1), .lit (.int .u8 8)]), (.int .u8 7, .agg [.lit (.int .u8 1), .lit (.int .u8 9)])]

/-- 'hotspotlaw15.ExchangeNames': WHATEVER THE INPUT: true; the input reads as it did. -/
def exchangeNamesSpec : ChangeSpec := { name := "exchangeNames", fn := fun _ => fun
  | [] => { results := [.lit (.bool true)], args := [] }
  | _ => none }
def exchangeNamesRow : OpenClaim := { program := "ytiiabaklipmbbaadoor", sum := "18ef5d3853e4c46c0275dadd6ab2e2eccbea3c3d705c2067b8036e31133b5758", func := "hotspot/hotspotlaw15.ExchangeNames", spec := "exchangeNames", unfollowed := true, recurses := true, named := ["hotspot/exchange.subs"], apart := false, laid := [("hotspot/exchange.subs", laid_hotspot_exchange_subs)] }
def ExchangeNamesSaid : Prop := exchangeNamesRow.holds Tryd.pinned (OpenSpec.ofChange exchangeNamesSpec)

/-- ITS FALSE NEIGHBOUR: 'it returns false'. Refute it at one input. -/
def exchangeNamesWrong : ChangeSpec := { name := "exchangeNames", fn := fun _ => fun
  | [] => { results := [.lit (.bool false)], args := [] }
  | _ => none }
def ExchangeNamesWrongFalsely : Prop := exchangeNamesRow.holds Tryd.pinned (OpenSpec.ofChange exchangeNamesWrong)

/-- 'hotspotlaw15.ExchangeReserves': WHATEVER THE INPUT: true; the input reads as it did. -/
def exchangeReservesSpec : ChangeSpec := { name := "exchangeReserves", fn := fun _ => fun
  | [d1, d2, d3] => { results := [.lit (.bool true)], args := [d1, d2, d3] }
  | _ => none }
def exchangeReservesRow : OpenClaim := { program := "ytiiabaklipmbbaadoor", sum := "18ef5d3853e4c46c0275dadd6ab2e2eccbea3c3d705c2067b8036e31133b5758", func := "hotspot/hotspotlaw15.ExchangeReserves", spec := "exchangeReserves", unfollowed := true, recurses := true, named := ["hotspot/exchange.subs"], apart := false, laid := [("hotspot/exchange.subs", laid_hotspot_exchange_subs)] }
def ExchangeReservesSaid : Prop := exchangeReservesRow.holds Tryd.pinned (OpenSpec.ofChange exchangeReservesSpec)

/-- ITS FALSE NEIGHBOUR: 'it returns false'. Refute it at one input. -/
def exchangeReservesWrong : ChangeSpec := { name := "exchangeReserves", fn := fun _ => fun
  | [d1, d2, d3] => { results := [.lit (.bool false)], args := [d1, d2, d3] }
  | _ => none }
def ExchangeReservesWrongFalsely : Prop := exchangeReservesRow.holds Tryd.pinned (OpenSpec.ofChange exchangeReservesWrong)

/- THE SECOND FORM. 'bulk': how many values and letters a reading holds, each counted each time it is reached (what is shared counts as often as it is met; a slice's spare places count too). A statement '..UptoSaid' is the law's where the arguments, and the package variables that the reading takes, are together of bulk at most 1048576: NARROWER than '..Said'. Prove '..Said' where nothing that the law and all that it calls make is longer than what came in: it says more and counts as full. Else prove '..UptoSaid'. A law counts once. -/
mutual
def uptoBulk {H : Type} : DataW H → Nat
  | .lit (.string bytes) => bytes.length + 1
  | .lit _ => 1
  | .nil => 1
  | .ptr d => uptoBulk d + 1
  | .slice elems spare => uptoBulkAll elems + uptoBulkAll spare + 1
  | .agg parts => uptoBulkAll parts + 1
  | .iface _ d => uptoBulk d + 1
  | .map entries => uptoBulkEntries entries + 1
  | .held _ => 1
def uptoBulkAll {H : Type} : List (DataW H) → Nat
  | [] => 0
  | d :: r => uptoBulk d + uptoBulkAll r
def uptoBulkEntries {H : Type} : List (Lit × DataW H) → Nat
  | [] => 0
  | x :: r => uptoBulkEntry x + uptoBulkEntries r
def uptoBulkEntry {H : Type} : Lit × DataW H → Nat
  | (.string bytes, d) => bytes.length + uptoBulk d + 1
  | (_, d) => uptoBulk d + 1
 end
def uptoSmall : (H : Type) → List (DataW H) → Bool := fun _ ds => decide (uptoBulkAll ds ≤ 1048576)
def OpenSpec.upto (s : _root_.Go.ChangeSpec) : _root_.Go.OpenSpec := { _root_.Go.OpenSpec.ofChange s with cond := some uptoSmall }

/-- 'hotspotlaw15.ExchangeNames', WHERE WHAT IT READS IS OF BULK AT MOST 1048576: true; the input reads as it did. -/
def exchangeNamesUptoRow : OpenClaim := { program := "ytiiabaklipmbbaadoor", sum := "18ef5d3853e4c46c0275dadd6ab2e2eccbea3c3d705c2067b8036e31133b5758", func := "hotspot/hotspotlaw15.ExchangeNames", spec := "exchangeNames", unfollowed := true, recurses := true, named := ["hotspot/exchange.subs"], apart := false, laid := [("hotspot/exchange.subs", laid_hotspot_exchange_subs)], narrowed := true }
def ExchangeNamesUptoSaid : Prop := exchangeNamesUptoRow.holds Tryd.pinned (OpenSpec.upto exchangeNamesSpec)

/-- 'hotspotlaw15.ExchangeReserves', WHERE WHAT IT READS IS OF BULK AT MOST 1048576: true; the input reads as it did. -/
def exchangeReservesUptoRow : OpenClaim := { program := "ytiiabaklipmbbaadoor", sum := "18ef5d3853e4c46c0275dadd6ab2e2eccbea3c3d705c2067b8036e31133b5758", func := "hotspot/hotspotlaw15.ExchangeReserves", spec := "exchangeReserves", unfollowed := true, recurses := true, named := ["hotspot/exchange.subs"], apart := false, laid := [("hotspot/exchange.subs", laid_hotspot_exchange_subs)], narrowed := true }
def ExchangeReservesUptoSaid : Prop := exchangeReservesUptoRow.holds Tryd.pinned (OpenSpec.upto exchangeReservesSpec)

end Rows
end Go.Proofs.YtiiabaklipmbbaaDoor
