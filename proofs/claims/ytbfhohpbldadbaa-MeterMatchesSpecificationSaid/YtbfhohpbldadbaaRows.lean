/-
  No cell of these rows narrows 'for every input' (looked for: loops, veiled, ifaces, maps, wideKeys, modest, calm, conditions, laid).
  DERIVED. THE GIVEN ROWS OF THIS SEAT. 14 by the template 'for every input the law returns true; each argument reads behind the call as it read before'; 0 by the template 'total and deterministic' (their statements: YtbfhohpbldadbaaTotals.lean).
  GIVEN WITH THE SEED: the statements are not yours to turn. If you find one false, say at which input.
  Laid BY PROGRAM, IN A SANDBOX (cutbox-rows.mjs): the forced cells as the released guide's own fill.sh prints them over the translation 2dd2392a8739452d… (all of the seat's roots in one cut). By AI agents, Wed Nov 11 2026. No macro, syntax, notation, axiom, sorry.
-/
import Derived.Test.YtbfhohpbldadbaaChecked
import GoSem.Claim
import GoSem.ClaimJoined
import GoSem.ClaimMapViews
import Derived.JoinedTies
import Derived.KernelRfl
namespace Go.Proofs.Ytbfhohpbldadbaa
/- THE CELL 'sum', in the pinned program and in every row, IS THE sha256 OF THE DUMP (.gsa) THAT YtbfhohpbldadbaaProg.lean LOADS. Nothing in Lean hashes anything: it is a label: what it is worth is what the hold of that sum in a sandbox is worth. -/
noncomputable def Try.pinned : Pinned := { name := "ytbfhohpbldadbaa", sum := "2dd2392a8739452de951b10f87027020c712a5ecb69ddb5ddaa77d69ee0d32e5", checked := Try.checked }
namespace Rows
def none {H : Type} : Left H := { results := [], args := [] }

/-- 'crossbarlaw27.MeterStopsOneCall': WHATEVER THE INPUT: true; the input reads as it did. -/
def meterStopsOneCallSpec : ChangeSpec := { name := "meterStopsOneCall", fn := fun _ => fun
  | [d1, d2, d3, d4] => { results := [.lit (.bool true)], args := [d1, d2, d3, d4] }
  | _ => none }
def meterStopsOneCallRow : OpenClaim := { program := "ytbfhohpbldadbaa", sum := "2dd2392a8739452de951b10f87027020c712a5ecb69ddb5ddaa77d69ee0d32e5", func := "crossbar/crossbarlaw27.MeterStopsOneCall", spec := "meterStopsOneCall", unfollowed := true, recurses := true, plainKeys := false, apart := false }
def MeterStopsOneCallSaid : Prop := meterStopsOneCallRow.holds Try.pinned (OpenSpec.ofChange meterStopsOneCallSpec)

/-- ITS FALSE NEIGHBOUR: 'it returns false'. Refute it at one input. -/
def meterStopsOneCallWrong : ChangeSpec := { name := "meterStopsOneCall", fn := fun _ => fun
  | [d1, d2, d3, d4] => { results := [.lit (.bool false)], args := [d1, d2, d3, d4] }
  | _ => none }
def MeterStopsOneCallWrongFalsely : Prop := meterStopsOneCallRow.holds Try.pinned (OpenSpec.ofChange meterStopsOneCallWrong)

/-- 'crossbarlaw27.MeterMatchesSpecification': WHATEVER THE INPUT: true; the input reads as it did. -/
def meterMatchesSpecificationSpec : ChangeSpec := { name := "meterMatchesSpecification", fn := fun _ => fun
  | [d1, d2, d3, d4, d5] => { results := [.lit (.bool true)], args := [d1, d2, d3, d4, d5] }
  | _ => none }
def meterMatchesSpecificationRow : OpenClaim := { program := "ytbfhohpbldadbaa", sum := "2dd2392a8739452de951b10f87027020c712a5ecb69ddb5ddaa77d69ee0d32e5", func := "crossbar/crossbarlaw27.MeterMatchesSpecification", spec := "meterMatchesSpecification", unfollowed := true, recurses := true, plainKeys := false, apart := false }
def MeterMatchesSpecificationSaid : Prop := meterMatchesSpecificationRow.holds Try.pinned (OpenSpec.ofChange meterMatchesSpecificationSpec)

/-- ITS FALSE NEIGHBOUR: 'it returns false'. Refute it at one input. -/
def meterMatchesSpecificationWrong : ChangeSpec := { name := "meterMatchesSpecification", fn := fun _ => fun
  | [d1, d2, d3, d4, d5] => { results := [.lit (.bool false)], args := [d1, d2, d3, d4, d5] }
  | _ => none }
def MeterMatchesSpecificationWrongFalsely : Prop := meterMatchesSpecificationRow.holds Try.pinned (OpenSpec.ofChange meterMatchesSpecificationWrong)

/-- 'crossbarlaw27.MeterTotalsMatchSpecification': WHATEVER THE INPUT: true; the input reads as it did. -/
def meterTotalsMatchSpecificationSpec : ChangeSpec := { name := "meterTotalsMatchSpecification", fn := fun _ => fun
  | [d1, d2, d3, d4] => { results := [.lit (.bool true)], args := [d1, d2, d3, d4] }
  | _ => none }
def meterTotalsMatchSpecificationRow : OpenClaim := { program := "ytbfhohpbldadbaa", sum := "2dd2392a8739452de951b10f87027020c712a5ecb69ddb5ddaa77d69ee0d32e5", func := "crossbar/crossbarlaw27.MeterTotalsMatchSpecification", spec := "meterTotalsMatchSpecification", unfollowed := true, recurses := true, plainKeys := false, apart := false }
def MeterTotalsMatchSpecificationSaid : Prop := meterTotalsMatchSpecificationRow.holds Try.pinned (OpenSpec.ofChange meterTotalsMatchSpecificationSpec)

/-- ITS FALSE NEIGHBOUR: 'it returns false'. Refute it at one input. -/
def meterTotalsMatchSpecificationWrong : ChangeSpec := { name := "meterTotalsMatchSpecification", fn := fun _ => fun
  | [d1, d2, d3, d4] => { results := [.lit (.bool false)], args := [d1, d2, d3, d4] }
  | _ => none }
def MeterTotalsMatchSpecificationWrongFalsely : Prop := meterTotalsMatchSpecificationRow.holds Try.pinned (OpenSpec.ofChange meterTotalsMatchSpecificationWrong)

/-- 'crossbarlaw27.MeterAdvancesCompose': WHATEVER THE INPUT: true; the input reads as it did. -/
def meterAdvancesComposeSpec : ChangeSpec := { name := "meterAdvancesCompose", fn := fun _ => fun
  | [d1, d2, d3, d4] => { results := [.lit (.bool true)], args := [d1, d2, d3, d4] }
  | _ => none }
def meterAdvancesComposeRow : OpenClaim := { program := "ytbfhohpbldadbaa", sum := "2dd2392a8739452de951b10f87027020c712a5ecb69ddb5ddaa77d69ee0d32e5", func := "crossbar/crossbarlaw27.MeterAdvancesCompose", spec := "meterAdvancesCompose", unfollowed := true, recurses := true, plainKeys := false, apart := false }
def MeterAdvancesComposeSaid : Prop := meterAdvancesComposeRow.holds Try.pinned (OpenSpec.ofChange meterAdvancesComposeSpec)

/-- ITS FALSE NEIGHBOUR: 'it returns false'. Refute it at one input. -/
def meterAdvancesComposeWrong : ChangeSpec := { name := "meterAdvancesCompose", fn := fun _ => fun
  | [d1, d2, d3, d4] => { results := [.lit (.bool false)], args := [d1, d2, d3, d4] }
  | _ => none }
def MeterAdvancesComposeWrongFalsely : Prop := meterAdvancesComposeRow.holds Try.pinned (OpenSpec.ofChange meterAdvancesComposeWrong)

/-- 'crossbarlaw27.MeterStopAfterAdvance': WHATEVER THE INPUT: true; the input reads as it did. -/
def meterStopAfterAdvanceSpec : ChangeSpec := { name := "meterStopAfterAdvance", fn := fun _ => fun
  | [d1, d2, d3, d4, d5] => { results := [.lit (.bool true)], args := [d1, d2, d3, d4, d5] }
  | _ => none }
def meterStopAfterAdvanceRow : OpenClaim := { program := "ytbfhohpbldadbaa", sum := "2dd2392a8739452de951b10f87027020c712a5ecb69ddb5ddaa77d69ee0d32e5", func := "crossbar/crossbarlaw27.MeterStopAfterAdvance", spec := "meterStopAfterAdvance", unfollowed := true, recurses := true, plainKeys := false, apart := false }
def MeterStopAfterAdvanceSaid : Prop := meterStopAfterAdvanceRow.holds Try.pinned (OpenSpec.ofChange meterStopAfterAdvanceSpec)

/-- ITS FALSE NEIGHBOUR: 'it returns false'. Refute it at one input. -/
def meterStopAfterAdvanceWrong : ChangeSpec := { name := "meterStopAfterAdvance", fn := fun _ => fun
  | [d1, d2, d3, d4, d5] => { results := [.lit (.bool false)], args := [d1, d2, d3, d4, d5] }
  | _ => none }
def MeterStopAfterAdvanceWrongFalsely : Prop := meterStopAfterAdvanceRow.holds Try.pinned (OpenSpec.ofChange meterStopAfterAdvanceWrong)

/-- 'crossbarlaw27.MeterStartsOnce': WHATEVER THE INPUT: true; the input reads as it did. -/
def meterStartsOnceSpec : ChangeSpec := { name := "meterStartsOnce", fn := fun _ => fun
  | [d1, d2] => { results := [.lit (.bool true)], args := [d1, d2] }
  | _ => none }
def meterStartsOnceRow : OpenClaim := { program := "ytbfhohpbldadbaa", sum := "2dd2392a8739452de951b10f87027020c712a5ecb69ddb5ddaa77d69ee0d32e5", func := "crossbar/crossbarlaw27.MeterStartsOnce", spec := "meterStartsOnce", unfollowed := true, recurses := true, plainKeys := false, apart := false }
def MeterStartsOnceSaid : Prop := meterStartsOnceRow.holds Try.pinned (OpenSpec.ofChange meterStartsOnceSpec)

/-- ITS FALSE NEIGHBOUR: 'it returns false'. Refute it at one input. -/
def meterStartsOnceWrong : ChangeSpec := { name := "meterStartsOnce", fn := fun _ => fun
  | [d1, d2] => { results := [.lit (.bool false)], args := [d1, d2] }
  | _ => none }
def MeterStartsOnceWrongFalsely : Prop := meterStartsOnceRow.holds Try.pinned (OpenSpec.ofChange meterStartsOnceWrong)

/-- 'crossbarlaw27.MeterChargesEverySecondOnce': WHATEVER THE INPUT: true; the input reads as it did. -/
def meterChargesEverySecondOnceSpec : ChangeSpec := { name := "meterChargesEverySecondOnce", fn := fun _ => fun
  | [d1, d2, d3] => { results := [.lit (.bool true)], args := [d1, d2, d3] }
  | _ => none }
def meterChargesEverySecondOnceRow : OpenClaim := { program := "ytbfhohpbldadbaa", sum := "2dd2392a8739452de951b10f87027020c712a5ecb69ddb5ddaa77d69ee0d32e5", func := "crossbar/crossbarlaw27.MeterChargesEverySecondOnce", spec := "meterChargesEverySecondOnce", unfollowed := true, recurses := true, plainKeys := false, apart := false }
def MeterChargesEverySecondOnceSaid : Prop := meterChargesEverySecondOnceRow.holds Try.pinned (OpenSpec.ofChange meterChargesEverySecondOnceSpec)

/-- ITS FALSE NEIGHBOUR: 'it returns false'. Refute it at one input. -/
def meterChargesEverySecondOnceWrong : ChangeSpec := { name := "meterChargesEverySecondOnce", fn := fun _ => fun
  | [d1, d2, d3] => { results := [.lit (.bool false)], args := [d1, d2, d3] }
  | _ => none }
def MeterChargesEverySecondOnceWrongFalsely : Prop := meterChargesEverySecondOnceRow.holds Try.pinned (OpenSpec.ofChange meterChargesEverySecondOnceWrong)

/-- 'crossbarlaw27.MeterRecordsHaveConstantRate': WHATEVER THE INPUT: true; the input reads as it did. -/
def meterRecordsHaveConstantRateSpec : ChangeSpec := { name := "meterRecordsHaveConstantRate", fn := fun _ => fun
  | [d1, d2, d3] => { results := [.lit (.bool true)], args := [d1, d2, d3] }
  | _ => none }
def meterRecordsHaveConstantRateRow : OpenClaim := { program := "ytbfhohpbldadbaa", sum := "2dd2392a8739452de951b10f87027020c712a5ecb69ddb5ddaa77d69ee0d32e5", func := "crossbar/crossbarlaw27.MeterRecordsHaveConstantRate", spec := "meterRecordsHaveConstantRate", unfollowed := true, recurses := true, plainKeys := false, apart := false }
def MeterRecordsHaveConstantRateSaid : Prop := meterRecordsHaveConstantRateRow.holds Try.pinned (OpenSpec.ofChange meterRecordsHaveConstantRateSpec)

/-- ITS FALSE NEIGHBOUR: 'it returns false'. Refute it at one input. -/
def meterRecordsHaveConstantRateWrong : ChangeSpec := { name := "meterRecordsHaveConstantRate", fn := fun _ => fun
  | [d1, d2, d3] => { results := [.lit (.bool false)], args := [d1, d2, d3] }
  | _ => none }
def MeterRecordsHaveConstantRateWrongFalsely : Prop := meterRecordsHaveConstantRateRow.holds Try.pinned (OpenSpec.ofChange meterRecordsHaveConstantRateWrong)

/-- 'crossbarlaw30.ClearingPreservesTotals': WHATEVER THE INPUT: true; the input reads as it did. -/
def clearingPreservesTotalsSpec : ChangeSpec := { name := "clearingPreservesTotals", fn := fun _ => fun
  | [d1, d2, d3, d4] => { results := [.lit (.bool true)], args := [d1, d2, d3, d4] }
  | _ => none }
def clearingPreservesTotalsRow : OpenClaim := { program := "ytbfhohpbldadbaa", sum := "2dd2392a8739452de951b10f87027020c712a5ecb69ddb5ddaa77d69ee0d32e5", func := "crossbar/crossbarlaw30.ClearingPreservesTotals", spec := "clearingPreservesTotals", unfollowed := true, recurses := true, plainKeys := false, apart := false }
def ClearingPreservesTotalsSaid : Prop := clearingPreservesTotalsRow.holds Try.pinned (OpenSpec.ofChange clearingPreservesTotalsSpec)

/-- ITS FALSE NEIGHBOUR: 'it returns false'. Refute it at one input. -/
def clearingPreservesTotalsWrong : ChangeSpec := { name := "clearingPreservesTotals", fn := fun _ => fun
  | [d1, d2, d3, d4] => { results := [.lit (.bool false)], args := [d1, d2, d3, d4] }
  | _ => none }
def ClearingPreservesTotalsWrongFalsely : Prop := clearingPreservesTotalsRow.holds Try.pinned (OpenSpec.ofChange clearingPreservesTotalsWrong)

/-- 'crossbarlaw30.ClearingDeliversExactlyOnce': WHATEVER THE INPUT: true; the input reads as it did. -/
def clearingDeliversExactlyOnceSpec : ChangeSpec := { name := "clearingDeliversExactlyOnce", fn := fun _ => fun
  | [d] => { results := [.lit (.bool true)], args := [d] }
  | _ => none }
def clearingDeliversExactlyOnceRow : OpenClaim := { program := "ytbfhohpbldadbaa", sum := "2dd2392a8739452de951b10f87027020c712a5ecb69ddb5ddaa77d69ee0d32e5", func := "crossbar/crossbarlaw30.ClearingDeliversExactlyOnce", spec := "clearingDeliversExactlyOnce", unfollowed := true, recurses := true, plainKeys := false, apart := false }
def ClearingDeliversExactlyOnceSaid : Prop := clearingDeliversExactlyOnceRow.holds Try.pinned (OpenSpec.ofChange clearingDeliversExactlyOnceSpec)

/-- ITS FALSE NEIGHBOUR: 'it returns false'. Refute it at one input. -/
def clearingDeliversExactlyOnceWrong : ChangeSpec := { name := "clearingDeliversExactlyOnce", fn := fun _ => fun
  | [d] => { results := [.lit (.bool false)], args := [d] }
  | _ => none }
def ClearingDeliversExactlyOnceWrongFalsely : Prop := clearingDeliversExactlyOnceRow.holds Try.pinned (OpenSpec.ofChange clearingDeliversExactlyOnceWrong)

/-- 'crossbarlaw30.ClearingDeliversAll': WHATEVER THE INPUT: true; the input reads as it did. -/
def clearingDeliversAllSpec : ChangeSpec := { name := "clearingDeliversAll", fn := fun _ => fun
  | [d] => { results := [.lit (.bool true)], args := [d] }
  | _ => none }
def clearingDeliversAllRow : OpenClaim := { program := "ytbfhohpbldadbaa", sum := "2dd2392a8739452de951b10f87027020c712a5ecb69ddb5ddaa77d69ee0d32e5", func := "crossbar/crossbarlaw30.ClearingDeliversAll", spec := "clearingDeliversAll", unfollowed := true, recurses := true, plainKeys := false, apart := false }
def ClearingDeliversAllSaid : Prop := clearingDeliversAllRow.holds Try.pinned (OpenSpec.ofChange clearingDeliversAllSpec)

/-- ITS FALSE NEIGHBOUR: 'it returns false'. Refute it at one input. -/
def clearingDeliversAllWrong : ChangeSpec := { name := "clearingDeliversAll", fn := fun _ => fun
  | [d] => { results := [.lit (.bool false)], args := [d] }
  | _ => none }
def ClearingDeliversAllWrongFalsely : Prop := clearingDeliversAllRow.holds Try.pinned (OpenSpec.ofChange clearingDeliversAllWrong)

/-- 'crossbarlaw30.ClearingPollIsStopAndWait': WHATEVER THE INPUT: true; the input reads as it did. -/
def clearingPollIsStopAndWaitSpec : ChangeSpec := { name := "clearingPollIsStopAndWait", fn := fun _ => fun
  | [d1, d2] => { results := [.lit (.bool true)], args := [d1, d2] }
  | _ => none }
def clearingPollIsStopAndWaitRow : OpenClaim := { program := "ytbfhohpbldadbaa", sum := "2dd2392a8739452de951b10f87027020c712a5ecb69ddb5ddaa77d69ee0d32e5", func := "crossbar/crossbarlaw30.ClearingPollIsStopAndWait", spec := "clearingPollIsStopAndWait", unfollowed := true, recurses := true, plainKeys := false, apart := false }
def ClearingPollIsStopAndWaitSaid : Prop := clearingPollIsStopAndWaitRow.holds Try.pinned (OpenSpec.ofChange clearingPollIsStopAndWaitSpec)

/-- ITS FALSE NEIGHBOUR: 'it returns false'. Refute it at one input. -/
def clearingPollIsStopAndWaitWrong : ChangeSpec := { name := "clearingPollIsStopAndWait", fn := fun _ => fun
  | [d1, d2] => { results := [.lit (.bool false)], args := [d1, d2] }
  | _ => none }
def ClearingPollIsStopAndWaitWrongFalsely : Prop := clearingPollIsStopAndWaitRow.holds Try.pinned (OpenSpec.ofChange clearingPollIsStopAndWaitWrong)

/-- 'crossbarlaw30.ClearingDuplicatesChangeNothing': WHATEVER THE INPUT: true; the input reads as it did. -/
def clearingDuplicatesChangeNothingSpec : ChangeSpec := { name := "clearingDuplicatesChangeNothing", fn := fun _ => fun
  | [d1, d2, d3] => { results := [.lit (.bool true)], args := [d1, d2, d3] }
  | _ => none }
def clearingDuplicatesChangeNothingRow : OpenClaim := { program := "ytbfhohpbldadbaa", sum := "2dd2392a8739452de951b10f87027020c712a5ecb69ddb5ddaa77d69ee0d32e5", func := "crossbar/crossbarlaw30.ClearingDuplicatesChangeNothing", spec := "clearingDuplicatesChangeNothing", unfollowed := true, recurses := true, plainKeys := false, apart := false }
def ClearingDuplicatesChangeNothingSaid : Prop := clearingDuplicatesChangeNothingRow.holds Try.pinned (OpenSpec.ofChange clearingDuplicatesChangeNothingSpec)

/-- ITS FALSE NEIGHBOUR: 'it returns false'. Refute it at one input. -/
def clearingDuplicatesChangeNothingWrong : ChangeSpec := { name := "clearingDuplicatesChangeNothing", fn := fun _ => fun
  | [d1, d2, d3] => { results := [.lit (.bool false)], args := [d1, d2, d3] }
  | _ => none }
def ClearingDuplicatesChangeNothingWrongFalsely : Prop := clearingDuplicatesChangeNothingRow.holds Try.pinned (OpenSpec.ofChange clearingDuplicatesChangeNothingWrong)

/-- 'crossbarlaw30.ClearingKeepsOrder': WHATEVER THE INPUT: true; the input reads as it did. -/
def clearingKeepsOrderSpec : ChangeSpec := { name := "clearingKeepsOrder", fn := fun _ => fun
  | [d1, d2, d3] => { results := [.lit (.bool true)], args := [d1, d2, d3] }
  | _ => none }
def clearingKeepsOrderRow : OpenClaim := { program := "ytbfhohpbldadbaa", sum := "2dd2392a8739452de951b10f87027020c712a5ecb69ddb5ddaa77d69ee0d32e5", func := "crossbar/crossbarlaw30.ClearingKeepsOrder", spec := "clearingKeepsOrder", unfollowed := true, recurses := true, plainKeys := false, apart := false }
def ClearingKeepsOrderSaid : Prop := clearingKeepsOrderRow.holds Try.pinned (OpenSpec.ofChange clearingKeepsOrderSpec)

/-- ITS FALSE NEIGHBOUR: 'it returns false'. Refute it at one input. -/
def clearingKeepsOrderWrong : ChangeSpec := { name := "clearingKeepsOrder", fn := fun _ => fun
  | [d1, d2, d3] => { results := [.lit (.bool false)], args := [d1, d2, d3] }
  | _ => none }
def ClearingKeepsOrderWrongFalsely : Prop := clearingKeepsOrderRow.holds Try.pinned (OpenSpec.ofChange clearingKeepsOrderWrong)

/- THE SECOND FORM. 'bulk': how many values and letters a reading holds, each counted each time it is reached (what is shared counts as often as it is met; a slice's spare places count too). A statement '..UptoSaid' is the law's where the arguments, and the package variables that the reading takes, are together of bulk at most 1048576: NARROWER than '..Said'. Prove '..Said' where nothing that the law and all that it calls make is longer than what came in: it says more and counts as full. Else prove '..UptoSaid'. A law counts once. -/
mutual
def uptoBulk {H : Type} : DataW H → Nat
  | .lit (.string bytes) => bytes.length + 1
  | .lit _ => 1
  | .nil => 1
  | .ptr d => uptoBulk d + 1
  | .slice elems spare => uptoBulkAll elems + uptoBulkAll spare + 1
  | .agg parts => uptoBulkAll parts + 1
  | .iface _ d => uptoBulk d + 1
  | .map entries => uptoBulkEntries entries + 1
  | .held _ => 1
def uptoBulkAll {H : Type} : List (DataW H) → Nat
  | [] => 0
  | d :: r => uptoBulk d + uptoBulkAll r
def uptoBulkEntries {H : Type} : List (Lit × DataW H) → Nat
  | [] => 0
  | x :: r => uptoBulkEntry x + uptoBulkEntries r
def uptoBulkEntry {H : Type} : Lit × DataW H → Nat
  | (.string bytes, d) => bytes.length + uptoBulk d + 1
  | (_, d) => uptoBulk d + 1
 end
def uptoSmall : (H : Type) → List (DataW H) → Bool := fun _ ds => decide (uptoBulkAll ds ≤ 1048576)
def OpenSpec.upto (s : _root_.Go.ChangeSpec) : _root_.Go.OpenSpec := { _root_.Go.OpenSpec.ofChange s with cond := some uptoSmall }

/-- 'crossbarlaw27.MeterStopsOneCall', WHERE WHAT IT READS IS OF BULK AT MOST 1048576: true; the input reads as it did. -/
def meterStopsOneCallUptoRow : OpenClaim := { program := "ytbfhohpbldadbaa", sum := "2dd2392a8739452de951b10f87027020c712a5ecb69ddb5ddaa77d69ee0d32e5", func := "crossbar/crossbarlaw27.MeterStopsOneCall", spec := "meterStopsOneCall", unfollowed := true, recurses := true, plainKeys := false, apart := false, narrowed := true }
def MeterStopsOneCallUptoSaid : Prop := meterStopsOneCallUptoRow.holds Try.pinned (OpenSpec.upto meterStopsOneCallSpec)

/-- 'crossbarlaw27.MeterMatchesSpecification', WHERE WHAT IT READS IS OF BULK AT MOST 1048576: true; the input reads as it did. -/
def meterMatchesSpecificationUptoRow : OpenClaim := { program := "ytbfhohpbldadbaa", sum := "2dd2392a8739452de951b10f87027020c712a5ecb69ddb5ddaa77d69ee0d32e5", func := "crossbar/crossbarlaw27.MeterMatchesSpecification", spec := "meterMatchesSpecification", unfollowed := true, recurses := true, plainKeys := false, apart := false, narrowed := true }
def MeterMatchesSpecificationUptoSaid : Prop := meterMatchesSpecificationUptoRow.holds Try.pinned (OpenSpec.upto meterMatchesSpecificationSpec)

/-- 'crossbarlaw27.MeterTotalsMatchSpecification', WHERE WHAT IT READS IS OF BULK AT MOST 1048576: true; the input reads as it did. -/
def meterTotalsMatchSpecificationUptoRow : OpenClaim := { program := "ytbfhohpbldadbaa", sum := "2dd2392a8739452de951b10f87027020c712a5ecb69ddb5ddaa77d69ee0d32e5", func := "crossbar/crossbarlaw27.MeterTotalsMatchSpecification", spec := "meterTotalsMatchSpecification", unfollowed := true, recurses := true, plainKeys := false, apart := false, narrowed := true }
def MeterTotalsMatchSpecificationUptoSaid : Prop := meterTotalsMatchSpecificationUptoRow.holds Try.pinned (OpenSpec.upto meterTotalsMatchSpecificationSpec)

/-- 'crossbarlaw27.MeterAdvancesCompose', WHERE WHAT IT READS IS OF BULK AT MOST 1048576: true; the input reads as it did. -/
def meterAdvancesComposeUptoRow : OpenClaim := { program := "ytbfhohpbldadbaa", sum := "2dd2392a8739452de951b10f87027020c712a5ecb69ddb5ddaa77d69ee0d32e5", func := "crossbar/crossbarlaw27.MeterAdvancesCompose", spec := "meterAdvancesCompose", unfollowed := true, recurses := true, plainKeys := false, apart := false, narrowed := true }
def MeterAdvancesComposeUptoSaid : Prop := meterAdvancesComposeUptoRow.holds Try.pinned (OpenSpec.upto meterAdvancesComposeSpec)

/-- 'crossbarlaw27.MeterStopAfterAdvance', WHERE WHAT IT READS IS OF BULK AT MOST 1048576: true; the input reads as it did. -/
def meterStopAfterAdvanceUptoRow : OpenClaim := { program := "ytbfhohpbldadbaa", sum := "2dd2392a8739452de951b10f87027020c712a5ecb69ddb5ddaa77d69ee0d32e5", func := "crossbar/crossbarlaw27.MeterStopAfterAdvance", spec := "meterStopAfterAdvance", unfollowed := true, recurses := true, plainKeys := false, apart := false, narrowed := true }
def MeterStopAfterAdvanceUptoSaid : Prop := meterStopAfterAdvanceUptoRow.holds Try.pinned (OpenSpec.upto meterStopAfterAdvanceSpec)

/-- 'crossbarlaw27.MeterStartsOnce', WHERE WHAT IT READS IS OF BULK AT MOST 1048576: true; the input reads as it did. -/
def meterStartsOnceUptoRow : OpenClaim := { program := "ytbfhohpbldadbaa", sum := "2dd2392a8739452de951b10f87027020c712a5ecb69ddb5ddaa77d69ee0d32e5", func := "crossbar/crossbarlaw27.MeterStartsOnce", spec := "meterStartsOnce", unfollowed := true, recurses := true, plainKeys := false, apart := false, narrowed := true }
def MeterStartsOnceUptoSaid : Prop := meterStartsOnceUptoRow.holds Try.pinned (OpenSpec.upto meterStartsOnceSpec)

/-- 'crossbarlaw27.MeterChargesEverySecondOnce', WHERE WHAT IT READS IS OF BULK AT MOST 1048576: true; the input reads as it did. -/
def meterChargesEverySecondOnceUptoRow : OpenClaim := { program := "ytbfhohpbldadbaa", sum := "2dd2392a8739452de951b10f87027020c712a5ecb69ddb5ddaa77d69ee0d32e5", func := "crossbar/crossbarlaw27.MeterChargesEverySecondOnce", spec := "meterChargesEverySecondOnce", unfollowed := true, recurses := true, plainKeys := false, apart := false, narrowed := true }
def MeterChargesEverySecondOnceUptoSaid : Prop := meterChargesEverySecondOnceUptoRow.holds Try.pinned (OpenSpec.upto meterChargesEverySecondOnceSpec)

/-- 'crossbarlaw27.MeterRecordsHaveConstantRate', WHERE WHAT IT READS IS OF BULK AT MOST 1048576: true; the input reads as it did. -/
def meterRecordsHaveConstantRateUptoRow : OpenClaim := { program := "ytbfhohpbldadbaa", sum := "2dd2392a8739452de951b10f87027020c712a5ecb69ddb5ddaa77d69ee0d32e5", func := "crossbar/crossbarlaw27.MeterRecordsHaveConstantRate", spec := "meterRecordsHaveConstantRate", unfollowed := true, recurses := true, plainKeys := false, apart := false, narrowed := true }
def MeterRecordsHaveConstantRateUptoSaid : Prop := meterRecordsHaveConstantRateUptoRow.holds Try.pinned (OpenSpec.upto meterRecordsHaveConstantRateSpec)

/-- 'crossbarlaw30.ClearingPreservesTotals', WHERE WHAT IT READS IS OF BULK AT MOST 1048576: true; the input reads as it did. -/
def clearingPreservesTotalsUptoRow : OpenClaim := { program := "ytbfhohpbldadbaa", sum := "2dd2392a8739452de951b10f87027020c712a5ecb69ddb5ddaa77d69ee0d32e5", func := "crossbar/crossbarlaw30.ClearingPreservesTotals", spec := "clearingPreservesTotals", unfollowed := true, recurses := true, plainKeys := false, apart := false, narrowed := true }
def ClearingPreservesTotalsUptoSaid : Prop := clearingPreservesTotalsUptoRow.holds Try.pinned (OpenSpec.upto clearingPreservesTotalsSpec)

/-- 'crossbarlaw30.ClearingDeliversExactlyOnce', WHERE WHAT IT READS IS OF BULK AT MOST 1048576: true; the input reads as it did. -/
def clearingDeliversExactlyOnceUptoRow : OpenClaim := { program := "ytbfhohpbldadbaa", sum := "2dd2392a8739452de951b10f87027020c712a5ecb69ddb5ddaa77d69ee0d32e5", func := "crossbar/crossbarlaw30.ClearingDeliversExactlyOnce", spec := "clearingDeliversExactlyOnce", unfollowed := true, recurses := true, plainKeys := false, apart := false, narrowed := true }
def ClearingDeliversExactlyOnceUptoSaid : Prop := clearingDeliversExactlyOnceUptoRow.holds Try.pinned (OpenSpec.upto clearingDeliversExactlyOnceSpec)

/-- 'crossbarlaw30.ClearingDeliversAll', WHERE WHAT IT READS IS OF BULK AT MOST 1048576: true; the input reads as it did. -/
def clearingDeliversAllUptoRow : OpenClaim := { program := "ytbfhohpbldadbaa", sum := "2dd2392a8739452de951b10f87027020c712a5ecb69ddb5ddaa77d69ee0d32e5", func := "crossbar/crossbarlaw30.ClearingDeliversAll", spec := "clearingDeliversAll", unfollowed := true, recurses := true, plainKeys := false, apart := false, narrowed := true }
def ClearingDeliversAllUptoSaid : Prop := clearingDeliversAllUptoRow.holds Try.pinned (OpenSpec.upto clearingDeliversAllSpec)

/-- 'crossbarlaw30.ClearingPollIsStopAndWait', WHERE WHAT IT READS IS OF BULK AT MOST 1048576: true; the input reads as it did. -/
def clearingPollIsStopAndWaitUptoRow : OpenClaim := { program := "ytbfhohpbldadbaa", sum := "2dd2392a8739452de951b10f87027020c712a5ecb69ddb5ddaa77d69ee0d32e5", func := "crossbar/crossbarlaw30.ClearingPollIsStopAndWait", spec := "clearingPollIsStopAndWait", unfollowed := true, recurses := true, plainKeys := false, apart := false, narrowed := true }
def ClearingPollIsStopAndWaitUptoSaid : Prop := clearingPollIsStopAndWaitUptoRow.holds Try.pinned (OpenSpec.upto clearingPollIsStopAndWaitSpec)

/-- 'crossbarlaw30.ClearingDuplicatesChangeNothing', WHERE WHAT IT READS IS OF BULK AT MOST 1048576: true; the input reads as it did. -/
def clearingDuplicatesChangeNothingUptoRow : OpenClaim := { program := "ytbfhohpbldadbaa", sum := "2dd2392a8739452de951b10f87027020c712a5ecb69ddb5ddaa77d69ee0d32e5", func := "crossbar/crossbarlaw30.ClearingDuplicatesChangeNothing", spec := "clearingDuplicatesChangeNothing", unfollowed := true, recurses := true, plainKeys := false, apart := false, narrowed := true }
def ClearingDuplicatesChangeNothingUptoSaid : Prop := clearingDuplicatesChangeNothingUptoRow.holds Try.pinned (OpenSpec.upto clearingDuplicatesChangeNothingSpec)

/-- 'crossbarlaw30.ClearingKeepsOrder', WHERE WHAT IT READS IS OF BULK AT MOST 1048576: true; the input reads as it did. -/
def clearingKeepsOrderUptoRow : OpenClaim := { program := "ytbfhohpbldadbaa", sum := "2dd2392a8739452de951b10f87027020c712a5ecb69ddb5ddaa77d69ee0d32e5", func := "crossbar/crossbarlaw30.ClearingKeepsOrder", spec := "clearingKeepsOrder", unfollowed := true, recurses := true, plainKeys := false, apart := false, narrowed := true }
def ClearingKeepsOrderUptoSaid : Prop := clearingKeepsOrderUptoRow.holds Try.pinned (OpenSpec.upto clearingKeepsOrderSpec)

end Rows
end Go.Proofs.Ytbfhohpbldadbaa
