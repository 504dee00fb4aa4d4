/-
  No cell of these rows narrows 'for every input' (looked for: loops, veiled, ifaces, maps, wideKeys, modest, calm, conditions, laid).
  DERIVED. THE GIVEN ROWS OF THIS SEAT. 4 by the template 'for every input the law returns true; each argument reads behind the call as it read before'; 0 by the template 'total and deterministic' (their statements: YtiiabaklipmbbaaTotals.lean).
  GIVEN WITH THE SEED: the statements are not yours to turn. If you find one false, say at which input.
  Laid BY PROGRAM, IN A SANDBOX (cutbox-rows.mjs): the forced cells as the released guide's own fill.sh prints them over the translation e488b51b66167cbd… (all of the seat's roots in one cut). By AI agents, Wed Nov 11 2026. No macro, syntax, notation, axiom, sorry.
-/
import Derived.Test.YtiiabaklipmbbaaChecked
import GoSem.Claim
import GoSem.ClaimJoined
import GoSem.ClaimMapViews
import Derived.JoinedTies
import Derived.KernelRfl
namespace Go.Proofs.Ytiiabaklipmbbaa
/- THE CELL 'sum', in the pinned program and in every row, IS THE sha256 OF THE DUMP (.gsa) THAT YtiiabaklipmbbaaProg.lean LOADS. Nothing in Lean hashes anything: it is a label: what it is worth is what the hold of that sum in a sandbox is worth. -/
noncomputable def Try.pinned : Pinned := { name := "ytiiabaklipmbbaa", sum := "e488b51b66167cbdd034b83026c4ef23548d6c32aec38e546d267b65d5aa05ae", checked := Try.checked }
namespace Rows
def none {H : Type} : Left H := { results := [], args := [] }

/-- 'hotspotlaw15.ExchangePlans': WHATEVER THE INPUT: true; the input reads as it did. -/
def exchangePlansSpec : ChangeSpec := { name := "exchangePlans", fn := fun _ => fun
  | [d] => { results := [.lit (.bool true)], args := [d] }
  | _ => none }
def exchangePlansRow : OpenClaim := { program := "ytiiabaklipmbbaa", sum := "e488b51b66167cbdd034b83026c4ef23548d6c32aec38e546d267b65d5aa05ae", func := "hotspot/hotspotlaw15.ExchangePlans", spec := "exchangePlans", unfollowed := true, recurses := true, apart := false }
def ExchangePlansSaid : Prop := exchangePlansRow.holds Try.pinned (OpenSpec.ofChange exchangePlansSpec)

/-- ITS FALSE NEIGHBOUR: 'it returns false'. Refute it at one input. -/
def exchangePlansWrong : ChangeSpec := { name := "exchangePlans", fn := fun _ => fun
  | [d] => { results := [.lit (.bool false)], args := [d] }
  | _ => none }
def ExchangePlansWrongFalsely : Prop := exchangePlansRow.holds Try.pinned (OpenSpec.ofChange exchangePlansWrong)

/-- 'hotspotlaw15.ExchangeCovers': WHATEVER THE INPUT: true; the input reads as it did. -/
def exchangeCoversSpec : ChangeSpec := { name := "exchangeCovers", fn := fun _ => fun
  | [d] => { results := [.lit (.bool true)], args := [d] }
  | _ => none }
def exchangeCoversRow : OpenClaim := { program := "ytiiabaklipmbbaa", sum := "e488b51b66167cbdd034b83026c4ef23548d6c32aec38e546d267b65d5aa05ae", func := "hotspot/hotspotlaw15.ExchangeCovers", spec := "exchangeCovers", unfollowed := true, recurses := true, apart := false }
def ExchangeCoversSaid : Prop := exchangeCoversRow.holds Try.pinned (OpenSpec.ofChange exchangeCoversSpec)

/-- ITS FALSE NEIGHBOUR: 'it returns false'. Refute it at one input. -/
def exchangeCoversWrong : ChangeSpec := { name := "exchangeCovers", fn := fun _ => fun
  | [d] => { results := [.lit (.bool false)], args := [d] }
  | _ => none }
def ExchangeCoversWrongFalsely : Prop := exchangeCoversRow.holds Try.pinned (OpenSpec.ofChange exchangeCoversWrong)

/-- 'hotspotlaw15.ExchangeLimits': WHATEVER THE INPUT: true; the input reads as it did. -/
def exchangeLimitsSpec : ChangeSpec := { name := "exchangeLimits", fn := fun _ => fun
  | [d] => { results := [.lit (.bool true)], args := [d] }
  | _ => none }
def exchangeLimitsRow : OpenClaim := { program := "ytiiabaklipmbbaa", sum := "e488b51b66167cbdd034b83026c4ef23548d6c32aec38e546d267b65d5aa05ae", func := "hotspot/hotspotlaw15.ExchangeLimits", spec := "exchangeLimits", unfollowed := true, recurses := true, apart := false }
def ExchangeLimitsSaid : Prop := exchangeLimitsRow.holds Try.pinned (OpenSpec.ofChange exchangeLimitsSpec)

/-- ITS FALSE NEIGHBOUR: 'it returns false'. Refute it at one input. -/
def exchangeLimitsWrong : ChangeSpec := { name := "exchangeLimits", fn := fun _ => fun
  | [d] => { results := [.lit (.bool false)], args := [d] }
  | _ => none }
def ExchangeLimitsWrongFalsely : Prop := exchangeLimitsRow.holds Try.pinned (OpenSpec.ofChange exchangeLimitsWrong)

/-- 'hotspotlaw15.ExchangeKnows': WHATEVER THE INPUT: true; the input reads as it did. -/
def exchangeKnowsSpec : ChangeSpec := { name := "exchangeKnows", fn := fun _ => fun
  | [d1, d2] => { results := [.lit (.bool true)], args := [d1, d2] }
  | _ => none }
def exchangeKnowsRow : OpenClaim := { program := "ytiiabaklipmbbaa", sum := "e488b51b66167cbdd034b83026c4ef23548d6c32aec38e546d267b65d5aa05ae", func := "hotspot/hotspotlaw15.ExchangeKnows", spec := "exchangeKnows", unfollowed := true, recurses := true, apart := false }
def ExchangeKnowsSaid : Prop := exchangeKnowsRow.holds Try.pinned (OpenSpec.ofChange exchangeKnowsSpec)

/-- ITS FALSE NEIGHBOUR: 'it returns false'. Refute it at one input. -/
def exchangeKnowsWrong : ChangeSpec := { name := "exchangeKnows", fn := fun _ => fun
  | [d1, d2] => { results := [.lit (.bool false)], args := [d1, d2] }
  | _ => none }
def ExchangeKnowsWrongFalsely : Prop := exchangeKnowsRow.holds Try.pinned (OpenSpec.ofChange exchangeKnowsWrong)

/- THE SECOND FORM. 'bulk': how many values and letters a reading holds, each counted each time it is reached (what is shared counts as often as it is met; a slice's spare places count too). A statement '..UptoSaid' is the law's where the arguments, and the package variables that the reading takes, are together of bulk at most 1048576: NARROWER than '..Said'. Prove '..Said' where nothing that the law and all that it calls make is longer than what came in: it says more and counts as full. Else prove '..UptoSaid'. A law counts once. -/
mutual
def uptoBulk {H : Type} : DataW H → Nat
  | .lit (.string bytes) => bytes.length + 1
  | .lit _ => 1
  | .nil => 1
  | .ptr d => uptoBulk d + 1
  | .slice elems spare => uptoBulkAll elems + uptoBulkAll spare + 1
  | .agg parts => uptoBulkAll parts + 1
  | .iface _ d => uptoBulk d + 1
  | .map entries => uptoBulkEntries entries + 1
  | .held _ => 1
def uptoBulkAll {H : Type} : List (DataW H) → Nat
  | [] => 0
  | d :: r => uptoBulk d + uptoBulkAll r
def uptoBulkEntries {H : Type} : List (Lit × DataW H) → Nat
  | [] => 0
  | x :: r => uptoBulkEntry x + uptoBulkEntries r
def uptoBulkEntry {H : Type} : Lit × DataW H → Nat
  | (.string bytes, d) => bytes.length + uptoBulk d + 1
  | (_, d) => uptoBulk d + 1
 end
def uptoSmall : (H : Type) → List (DataW H) → Bool := fun _ ds => decide (uptoBulkAll ds ≤ 1048576)
def OpenSpec.upto (s : _root_.Go.ChangeSpec) : _root_.Go.OpenSpec := { _root_.Go.OpenSpec.ofChange s with cond := some uptoSmall }

/-- 'hotspotlaw15.ExchangePlans', WHERE WHAT IT READS IS OF BULK AT MOST 1048576: true; the input reads as it did. -/
def exchangePlansUptoRow : OpenClaim := { program := "ytiiabaklipmbbaa", sum := "e488b51b66167cbdd034b83026c4ef23548d6c32aec38e546d267b65d5aa05ae", func := "hotspot/hotspotlaw15.ExchangePlans", spec := "exchangePlans", unfollowed := true, recurses := true, apart := false, narrowed := true }
def ExchangePlansUptoSaid : Prop := exchangePlansUptoRow.holds Try.pinned (OpenSpec.upto exchangePlansSpec)

/-- 'hotspotlaw15.ExchangeCovers', WHERE WHAT IT READS IS OF BULK AT MOST 1048576: true; the input reads as it did. -/
def exchangeCoversUptoRow : OpenClaim := { program := "ytiiabaklipmbbaa", sum := "e488b51b66167cbdd034b83026c4ef23548d6c32aec38e546d267b65d5aa05ae", func := "hotspot/hotspotlaw15.ExchangeCovers", spec := "exchangeCovers", unfollowed := true, recurses := true, apart := false, narrowed := true }
def ExchangeCoversUptoSaid : Prop := exchangeCoversUptoRow.holds Try.pinned (OpenSpec.upto exchangeCoversSpec)

/-- 'hotspotlaw15.ExchangeLimits', WHERE WHAT IT READS IS OF BULK AT MOST 1048576: true; the input reads as it did. -/
def exchangeLimitsUptoRow : OpenClaim := { program := "ytiiabaklipmbbaa", sum := "e488b51b66167cbdd034b83026c4ef23548d6c32aec38e546d267b65d5aa05ae", func := "hotspot/hotspotlaw15.ExchangeLimits", spec := "exchangeLimits", unfollowed := true, recurses := true, apart := false, narrowed := true }
def ExchangeLimitsUptoSaid : Prop := exchangeLimitsUptoRow.holds Try.pinned (OpenSpec.upto exchangeLimitsSpec)

/-- 'hotspotlaw15.ExchangeKnows', WHERE WHAT IT READS IS OF BULK AT MOST 1048576: true; the input reads as it did. -/
def exchangeKnowsUptoRow : OpenClaim := { program := "ytiiabaklipmbbaa", sum := "e488b51b66167cbdd034b83026c4ef23548d6c32aec38e546d267b65d5aa05ae", func := "hotspot/hotspotlaw15.ExchangeKnows", spec := "exchangeKnows", unfollowed := true, recurses := true, apart := false, narrowed := true }
def ExchangeKnowsUptoSaid : Prop := exchangeKnowsUptoRow.holds Try.pinned (OpenSpec.upto exchangeKnowsSpec)

end Rows
end Go.Proofs.Ytiiabaklipmbbaa
