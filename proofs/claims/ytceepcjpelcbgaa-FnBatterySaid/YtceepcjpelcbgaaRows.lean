/-
  No cell of these rows narrows 'for every input' (looked for: loops, veiled, ifaces, maps, wideKeys, modest, calm, conditions, laid).
  DERIVED. THE GIVEN ROWS OF THIS SEAT. 12 by the template 'for every input the law returns true; each argument reads behind the call as it read before'; 0 by the template 'total and deterministic' (their statements: YtceepcjpelcbgaaTotals.lean).
  GIVEN WITH THE SEED: the statements are not yours to turn. If you find one false, say at which input.
  Laid BY PROGRAM, IN A SANDBOX (cutbox-rows.mjs): the forced cells as the released guide's own fill.sh prints them over the translation 14e241736c9fc89f… (all of the seat's roots in one cut). By AI agents, Wed Nov 11 2026. No macro, syntax, notation, axiom, sorry.
-/
import Derived.Test.YtceepcjpelcbgaaChecked
import GoSem.Claim
import GoSem.ClaimJoined
import GoSem.ClaimMapViews
import Derived.JoinedTies
import Derived.KernelRfl
namespace Go.Proofs.Ytceepcjpelcbgaa
/- THE CELL 'sum', in the pinned program and in every row, IS THE sha256 OF THE DUMP (.gsa) THAT YtceepcjpelcbgaaProg.lean LOADS. Nothing in Lean hashes anything: it is a label: what it is worth is what the hold of that sum in a sandbox is worth. -/
noncomputable def Try.pinned : Pinned := { name := "ytceepcjpelcbgaa", sum := "14e241736c9fc89f43098cf3977bb18abf14c002e0d970f231459040975bc460", checked := Try.checked }
namespace Rows
def none {H : Type} : Left H := { results := [], args := [] }

/-- 'laws.FnExactConstants': WHATEVER THE INPUT: true; the input reads as it did. -/
def fnExactConstantsSpec : ChangeSpec := { name := "fnExactConstants", fn := fun _ => fun
  | [] => { results := [.lit (.bool true)], args := [] }
  | _ => none }
def fnExactConstantsRow : OpenClaim := { program := "ytceepcjpelcbgaa", sum := "14e241736c9fc89f43098cf3977bb18abf14c002e0d970f231459040975bc460", func := "loop.example/g00063/laws.FnExactConstants", spec := "fnExactConstants", apart := false }
def FnExactConstantsSaid : Prop := fnExactConstantsRow.holds Try.pinned (OpenSpec.ofChange fnExactConstantsSpec)

/-- ITS FALSE NEIGHBOUR: 'it returns false'. Refute it at one input. -/
def fnExactConstantsWrong : ChangeSpec := { name := "fnExactConstants", fn := fun _ => fun
  | [] => { results := [.lit (.bool false)], args := [] }
  | _ => none }
def FnExactConstantsWrongFalsely : Prop := fnExactConstantsRow.holds Try.pinned (OpenSpec.ofChange fnExactConstantsWrong)

/-- 'laws.FnExactRunnerOk': WHATEVER THE INPUT: true; the input reads as it did. -/
def fnExactRunnerOkSpec : ChangeSpec := { name := "fnExactRunnerOk", fn := fun _ => fun
  | [d] => { results := [.lit (.bool true)], args := [d] }
  | _ => none }
def fnExactRunnerOkRow : OpenClaim := { program := "ytceepcjpelcbgaa", sum := "14e241736c9fc89f43098cf3977bb18abf14c002e0d970f231459040975bc460", func := "loop.example/g00063/laws.FnExactRunnerOk", spec := "fnExactRunnerOk", apart := false }
def FnExactRunnerOkSaid : Prop := fnExactRunnerOkRow.holds Try.pinned (OpenSpec.ofChange fnExactRunnerOkSpec)

/-- ITS FALSE NEIGHBOUR: 'it returns false'. Refute it at one input. -/
def fnExactRunnerOkWrong : ChangeSpec := { name := "fnExactRunnerOk", fn := fun _ => fun
  | [d] => { results := [.lit (.bool false)], args := [d] }
  | _ => none }
def FnExactRunnerOkWrongFalsely : Prop := fnExactRunnerOkRow.holds Try.pinned (OpenSpec.ofChange fnExactRunnerOkWrong)

/-- 'laws.FnExactUsed': WHATEVER THE INPUT: true; the input reads as it did. -/
def fnExactUsedSpec : ChangeSpec := { name := "fnExactUsed", fn := fun _ => fun
  | [d1, d2] => { results := [.lit (.bool true)], args := [d1, d2] }
  | _ => none }
def fnExactUsedRow : OpenClaim := { program := "ytceepcjpelcbgaa", sum := "14e241736c9fc89f43098cf3977bb18abf14c002e0d970f231459040975bc460", func := "loop.example/g00063/laws.FnExactUsed", spec := "fnExactUsed", inPlace := ["math/bits.Add64"], named := ["math/bits.divideError", "math/bits.overflowError"], apart := false }
def FnExactUsedSaid : Prop := fnExactUsedRow.holds Try.pinned (OpenSpec.ofChange fnExactUsedSpec)

/-- ITS FALSE NEIGHBOUR: 'it returns false'. Refute it at one input. -/
def fnExactUsedWrong : ChangeSpec := { name := "fnExactUsed", fn := fun _ => fun
  | [d1, d2] => { results := [.lit (.bool false)], args := [d1, d2] }
  | _ => none }
def FnExactUsedWrongFalsely : Prop := fnExactUsedRow.holds Try.pinned (OpenSpec.ofChange fnExactUsedWrong)

/-- 'laws.FnCracks': WHATEVER THE INPUT: true; the input reads as it did. -/
def fnCracksSpec : ChangeSpec := { name := "fnCracks", fn := fun _ => fun
  | [d] => { results := [.lit (.bool true)], args := [d] }
  | _ => none }
def fnCracksRow : OpenClaim := { program := "ytceepcjpelcbgaa", sum := "14e241736c9fc89f43098cf3977bb18abf14c002e0d970f231459040975bc460", func := "loop.example/g00063/laws.FnCracks", spec := "fnCracks", apart := false }
def FnCracksSaid : Prop := fnCracksRow.holds Try.pinned (OpenSpec.ofChange fnCracksSpec)

/-- ITS FALSE NEIGHBOUR: 'it returns false'. Refute it at one input. -/
def fnCracksWrong : ChangeSpec := { name := "fnCracks", fn := fun _ => fun
  | [d] => { results := [.lit (.bool false)], args := [d] }
  | _ => none }
def FnCracksWrongFalsely : Prop := fnCracksRow.holds Try.pinned (OpenSpec.ofChange fnCracksWrong)

/-- 'laws.FnExactFlights': WHATEVER THE INPUT: true; the input reads as it did. -/
def fnExactFlightsSpec : ChangeSpec := { name := "fnExactFlights", fn := fun _ => fun
  | [d] => { results := [.lit (.bool true)], args := [d] }
  | _ => none }
def fnExactFlightsRow : OpenClaim := { program := "ytceepcjpelcbgaa", sum := "14e241736c9fc89f43098cf3977bb18abf14c002e0d970f231459040975bc460", func := "loop.example/g00063/laws.FnExactFlights", spec := "fnExactFlights", apart := false }
def FnExactFlightsSaid : Prop := fnExactFlightsRow.holds Try.pinned (OpenSpec.ofChange fnExactFlightsSpec)

/-- ITS FALSE NEIGHBOUR: 'it returns false'. Refute it at one input. -/
def fnExactFlightsWrong : ChangeSpec := { name := "fnExactFlights", fn := fun _ => fun
  | [d] => { results := [.lit (.bool false)], args := [d] }
  | _ => none }
def FnExactFlightsWrongFalsely : Prop := fnExactFlightsRow.holds Try.pinned (OpenSpec.ofChange fnExactFlightsWrong)

/-- 'laws.FnExactCrossings': WHATEVER THE INPUT: true; the input reads as it did. -/
def fnExactCrossingsSpec : ChangeSpec := { name := "fnExactCrossings", fn := fun _ => fun
  | [d1, d2] => { results := [.lit (.bool true)], args := [d1, d2] }
  | _ => none }
def fnExactCrossingsRow : OpenClaim := { program := "ytceepcjpelcbgaa", sum := "14e241736c9fc89f43098cf3977bb18abf14c002e0d970f231459040975bc460", func := "loop.example/g00063/laws.FnExactCrossings", spec := "fnExactCrossings", apart := false }
def FnExactCrossingsSaid : Prop := fnExactCrossingsRow.holds Try.pinned (OpenSpec.ofChange fnExactCrossingsSpec)

/-- ITS FALSE NEIGHBOUR: 'it returns false'. Refute it at one input. -/
def fnExactCrossingsWrong : ChangeSpec := { name := "fnExactCrossings", fn := fun _ => fun
  | [d1, d2] => { results := [.lit (.bool false)], args := [d1, d2] }
  | _ => none }
def FnExactCrossingsWrongFalsely : Prop := fnExactCrossingsRow.holds Try.pinned (OpenSpec.ofChange fnExactCrossingsWrong)

/-- 'laws.FnBattery': WHATEVER THE INPUT: true; the input reads as it did. -/
def fnBatterySpec : ChangeSpec := { name := "fnBattery", fn := fun _ => fun
  | [d] => { results := [.lit (.bool true)], args := [d] }
  | _ => none }
def fnBatteryRow : OpenClaim := { program := "ytceepcjpelcbgaa", sum := "14e241736c9fc89f43098cf3977bb18abf14c002e0d970f231459040975bc460", func := "loop.example/g00063/laws.FnBattery", spec := "fnBattery", apart := false }
def FnBatterySaid : Prop := fnBatteryRow.holds Try.pinned (OpenSpec.ofChange fnBatterySpec)

/-- ITS FALSE NEIGHBOUR: 'it returns false'. Refute it at one input. -/
def fnBatteryWrong : ChangeSpec := { name := "fnBattery", fn := fun _ => fun
  | [d] => { results := [.lit (.bool false)], args := [d] }
  | _ => none }
def FnBatteryWrongFalsely : Prop := fnBatteryRow.holds Try.pinned (OpenSpec.ofChange fnBatteryWrong)

/-- 'laws.FnGrid': WHATEVER THE INPUT: true; the input reads as it did. -/
def fnGridSpec : ChangeSpec := { name := "fnGrid", fn := fun _ => fun
  | [d] => { results := [.lit (.bool true)], args := [d] }
  | _ => none }
def fnGridRow : OpenClaim := { program := "ytceepcjpelcbgaa", sum := "14e241736c9fc89f43098cf3977bb18abf14c002e0d970f231459040975bc460", func := "loop.example/g00063/laws.FnGrid", spec := "fnGrid", apart := false }
def FnGridSaid : Prop := fnGridRow.holds Try.pinned (OpenSpec.ofChange fnGridSpec)

/-- ITS FALSE NEIGHBOUR: 'it returns false'. Refute it at one input. -/
def fnGridWrong : ChangeSpec := { name := "fnGrid", fn := fun _ => fun
  | [d] => { results := [.lit (.bool false)], args := [d] }
  | _ => none }
def FnGridWrongFalsely : Prop := fnGridRow.holds Try.pinned (OpenSpec.ofChange fnGridWrong)

/-- 'laws.FnExactRolls': WHATEVER THE INPUT: true; the input reads as it did. -/
def fnExactRollsSpec : ChangeSpec := { name := "fnExactRolls", fn := fun _ => fun
  | [d1, d2, d3] => { results := [.lit (.bool true)], args := [d1, d2, d3] }
  | _ => none }
def fnExactRollsRow : OpenClaim := { program := "ytceepcjpelcbgaa", sum := "14e241736c9fc89f43098cf3977bb18abf14c002e0d970f231459040975bc460", func := "loop.example/g00063/laws.FnExactRolls", spec := "fnExactRolls", apart := false }
def FnExactRollsSaid : Prop := fnExactRollsRow.holds Try.pinned (OpenSpec.ofChange fnExactRollsSpec)

/-- ITS FALSE NEIGHBOUR: 'it returns false'. Refute it at one input. -/
def fnExactRollsWrong : ChangeSpec := { name := "fnExactRolls", fn := fun _ => fun
  | [d1, d2, d3] => { results := [.lit (.bool false)], args := [d1, d2, d3] }
  | _ => none }
def FnExactRollsWrongFalsely : Prop := fnExactRollsRow.holds Try.pinned (OpenSpec.ofChange fnExactRollsWrong)

/-- 'laws.FnExactInspect': WHATEVER THE INPUT: true; the input reads as it did. -/
def fnExactInspectSpec : ChangeSpec := { name := "fnExactInspect", fn := fun _ => fun
  | [d1, d2, d3] => { results := [.lit (.bool true)], args := [d1, d2, d3] }
  | _ => none }
def fnExactInspectRow : OpenClaim := { program := "ytceepcjpelcbgaa", sum := "14e241736c9fc89f43098cf3977bb18abf14c002e0d970f231459040975bc460", func := "loop.example/g00063/laws.FnExactInspect", spec := "fnExactInspect", apart := false }
def FnExactInspectSaid : Prop := fnExactInspectRow.holds Try.pinned (OpenSpec.ofChange fnExactInspectSpec)

/-- ITS FALSE NEIGHBOUR: 'it returns false'. Refute it at one input. -/
def fnExactInspectWrong : ChangeSpec := { name := "fnExactInspect", fn := fun _ => fun
  | [d1, d2, d3] => { results := [.lit (.bool false)], args := [d1, d2, d3] }
  | _ => none }
def FnExactInspectWrongFalsely : Prop := fnExactInspectRow.holds Try.pinned (OpenSpec.ofChange fnExactInspectWrong)

/-- 'laws.FnMoments': WHATEVER THE INPUT: true; the input reads as it did. -/
def fnMomentsSpec : ChangeSpec := { name := "fnMoments", fn := fun _ => fun
  | [d] => { results := [.lit (.bool true)], args := [d] }
  | _ => none }
def fnMomentsRow : OpenClaim := { program := "ytceepcjpelcbgaa", sum := "14e241736c9fc89f43098cf3977bb18abf14c002e0d970f231459040975bc460", func := "loop.example/g00063/laws.FnMoments", spec := "fnMoments", apart := false }
def FnMomentsSaid : Prop := fnMomentsRow.holds Try.pinned (OpenSpec.ofChange fnMomentsSpec)

/-- ITS FALSE NEIGHBOUR: 'it returns false'. Refute it at one input. -/
def fnMomentsWrong : ChangeSpec := { name := "fnMoments", fn := fun _ => fun
  | [d] => { results := [.lit (.bool false)], args := [d] }
  | _ => none }
def FnMomentsWrongFalsely : Prop := fnMomentsRow.holds Try.pinned (OpenSpec.ofChange fnMomentsWrong)

/-- 'laws.FnExactStops': WHATEVER THE INPUT: true; the input reads as it did. -/
def fnExactStopsSpec : ChangeSpec := { name := "fnExactStops", fn := fun _ => fun
  | [d1, d2] => { results := [.lit (.bool true)], args := [d1, d2] }
  | _ => none }
def fnExactStopsRow : OpenClaim := { program := "ytceepcjpelcbgaa", sum := "14e241736c9fc89f43098cf3977bb18abf14c002e0d970f231459040975bc460", func := "loop.example/g00063/laws.FnExactStops", spec := "fnExactStops", apart := false }
def FnExactStopsSaid : Prop := fnExactStopsRow.holds Try.pinned (OpenSpec.ofChange fnExactStopsSpec)

/-- ITS FALSE NEIGHBOUR: 'it returns false'. Refute it at one input. -/
def fnExactStopsWrong : ChangeSpec := { name := "fnExactStops", fn := fun _ => fun
  | [d1, d2] => { results := [.lit (.bool false)], args := [d1, d2] }
  | _ => none }
def FnExactStopsWrongFalsely : Prop := fnExactStopsRow.holds Try.pinned (OpenSpec.ofChange fnExactStopsWrong)

/- THE SECOND FORM. 'bulk': how many values and letters a reading holds, each counted each time it is reached (what is shared counts as often as it is met; a slice's spare places count too). A statement '..UptoSaid' is the law's where the arguments, and the package variables that the reading takes, are together of bulk at most 1048576: NARROWER than '..Said'. Prove '..Said' where nothing that the law and all that it calls make is longer than what came in: it says more and counts as full. Else prove '..UptoSaid'. A law counts once. -/
mutual
def uptoBulk {H : Type} : DataW H → Nat
  | .lit (.string bytes) => bytes.length + 1
  | .lit _ => 1
  | .nil => 1
  | .ptr d => uptoBulk d + 1
  | .slice elems spare => uptoBulkAll elems + uptoBulkAll spare + 1
  | .agg parts => uptoBulkAll parts + 1
  | .iface _ d => uptoBulk d + 1
  | .map entries => uptoBulkEntries entries + 1
  | .held _ => 1
def uptoBulkAll {H : Type} : List (DataW H) → Nat
  | [] => 0
  | d :: r => uptoBulk d + uptoBulkAll r
def uptoBulkEntries {H : Type} : List (Lit × DataW H) → Nat
  | [] => 0
  | x :: r => uptoBulkEntry x + uptoBulkEntries r
def uptoBulkEntry {H : Type} : Lit × DataW H → Nat
  | (.string bytes, d) => bytes.length + uptoBulk d + 1
  | (_, d) => uptoBulk d + 1
 end
def uptoSmall : (H : Type) → List (DataW H) → Bool := fun _ ds => decide (uptoBulkAll ds ≤ 1048576)
def OpenSpec.upto (s : _root_.Go.ChangeSpec) : _root_.Go.OpenSpec := { _root_.Go.OpenSpec.ofChange s with cond := some uptoSmall }

/-- 'laws.FnExactConstants', WHERE WHAT IT READS IS OF BULK AT MOST 1048576: true; the input reads as it did. -/
def fnExactConstantsUptoRow : OpenClaim := { program := "ytceepcjpelcbgaa", sum := "14e241736c9fc89f43098cf3977bb18abf14c002e0d970f231459040975bc460", func := "loop.example/g00063/laws.FnExactConstants", spec := "fnExactConstants", apart := false, narrowed := true }
def FnExactConstantsUptoSaid : Prop := fnExactConstantsUptoRow.holds Try.pinned (OpenSpec.upto fnExactConstantsSpec)

/-- 'laws.FnExactRunnerOk', WHERE WHAT IT READS IS OF BULK AT MOST 1048576: true; the input reads as it did. -/
def fnExactRunnerOkUptoRow : OpenClaim := { program := "ytceepcjpelcbgaa", sum := "14e241736c9fc89f43098cf3977bb18abf14c002e0d970f231459040975bc460", func := "loop.example/g00063/laws.FnExactRunnerOk", spec := "fnExactRunnerOk", apart := false, narrowed := true }
def FnExactRunnerOkUptoSaid : Prop := fnExactRunnerOkUptoRow.holds Try.pinned (OpenSpec.upto fnExactRunnerOkSpec)

/-- 'laws.FnExactUsed', WHERE WHAT IT READS IS OF BULK AT MOST 1048576: true; the input reads as it did. -/
def fnExactUsedUptoRow : OpenClaim := { program := "ytceepcjpelcbgaa", sum := "14e241736c9fc89f43098cf3977bb18abf14c002e0d970f231459040975bc460", func := "loop.example/g00063/laws.FnExactUsed", spec := "fnExactUsed", inPlace := ["math/bits.Add64"], named := ["math/bits.divideError", "math/bits.overflowError"], apart := false, narrowed := true }
def FnExactUsedUptoSaid : Prop := fnExactUsedUptoRow.holds Try.pinned (OpenSpec.upto fnExactUsedSpec)

/-- 'laws.FnCracks', WHERE WHAT IT READS IS OF BULK AT MOST 1048576: true; the input reads as it did. -/
def fnCracksUptoRow : OpenClaim := { program := "ytceepcjpelcbgaa", sum := "14e241736c9fc89f43098cf3977bb18abf14c002e0d970f231459040975bc460", func := "loop.example/g00063/laws.FnCracks", spec := "fnCracks", apart := false, narrowed := true }
def FnCracksUptoSaid : Prop := fnCracksUptoRow.holds Try.pinned (OpenSpec.upto fnCracksSpec)

/-- 'laws.FnExactFlights', WHERE WHAT IT READS IS OF BULK AT MOST 1048576: true; the input reads as it did. -/
def fnExactFlightsUptoRow : OpenClaim := { program := "ytceepcjpelcbgaa", sum := "14e241736c9fc89f43098cf3977bb18abf14c002e0d970f231459040975bc460", func := "loop.example/g00063/laws.FnExactFlights", spec := "fnExactFlights", apart := false, narrowed := true }
def FnExactFlightsUptoSaid : Prop := fnExactFlightsUptoRow.holds Try.pinned (OpenSpec.upto fnExactFlightsSpec)

/-- 'laws.FnExactCrossings', WHERE WHAT IT READS IS OF BULK AT MOST 1048576: true; the input reads as it did. -/
def fnExactCrossingsUptoRow : OpenClaim := { program := "ytceepcjpelcbgaa", sum := "14e241736c9fc89f43098cf3977bb18abf14c002e0d970f231459040975bc460", func := "loop.example/g00063/laws.FnExactCrossings", spec := "fnExactCrossings", apart := false, narrowed := true }
def FnExactCrossingsUptoSaid : Prop := fnExactCrossingsUptoRow.holds Try.pinned (OpenSpec.upto fnExactCrossingsSpec)

/-- 'laws.FnBattery', WHERE WHAT IT READS IS OF BULK AT MOST 1048576: true; the input reads as it did. -/
def fnBatteryUptoRow : OpenClaim := { program := "ytceepcjpelcbgaa", sum := "14e241736c9fc89f43098cf3977bb18abf14c002e0d970f231459040975bc460", func := "loop.example/g00063/laws.FnBattery", spec := "fnBattery", apart := false, narrowed := true }
def FnBatteryUptoSaid : Prop := fnBatteryUptoRow.holds Try.pinned (OpenSpec.upto fnBatterySpec)

/-- 'laws.FnGrid', WHERE WHAT IT READS IS OF BULK AT MOST 1048576: true; the input reads as it did. -/
def fnGridUptoRow : OpenClaim := { program := "ytceepcjpelcbgaa", sum := "14e241736c9fc89f43098cf3977bb18abf14c002e0d970f231459040975bc460", func := "loop.example/g00063/laws.FnGrid", spec := "fnGrid", apart := false, narrowed := true }
def FnGridUptoSaid : Prop := fnGridUptoRow.holds Try.pinned (OpenSpec.upto fnGridSpec)

/-- 'laws.FnExactRolls', WHERE WHAT IT READS IS OF BULK AT MOST 1048576: true; the input reads as it did. -/
def fnExactRollsUptoRow : OpenClaim := { program := "ytceepcjpelcbgaa", sum := "14e241736c9fc89f43098cf3977bb18abf14c002e0d970f231459040975bc460", func := "loop.example/g00063/laws.FnExactRolls", spec := "fnExactRolls", apart := false, narrowed := true }
def FnExactRollsUptoSaid : Prop := fnExactRollsUptoRow.holds Try.pinned (OpenSpec.upto fnExactRollsSpec)

/-- 'laws.FnExactInspect', WHERE WHAT IT READS IS OF BULK AT MOST 1048576: true; the input reads as it did. -/
def fnExactInspectUptoRow : OpenClaim := { program := "ytceepcjpelcbgaa", sum := "14e241736c9fc89f43098cf3977bb18abf14c002e0d970f231459040975bc460", func := "loop.example/g00063/laws.FnExactInspect", spec := "fnExactInspect", apart := false, narrowed := true }
def FnExactInspectUptoSaid : Prop := fnExactInspectUptoRow.holds Try.pinned (OpenSpec.upto fnExactInspectSpec)

/-- 'laws.FnMoments', WHERE WHAT IT READS IS OF BULK AT MOST 1048576: true; the input reads as it did. -/
def fnMomentsUptoRow : OpenClaim := { program := "ytceepcjpelcbgaa", sum := "14e241736c9fc89f43098cf3977bb18abf14c002e0d970f231459040975bc460", func := "loop.example/g00063/laws.FnMoments", spec := "fnMoments", apart := false, narrowed := true }
def FnMomentsUptoSaid : Prop := fnMomentsUptoRow.holds Try.pinned (OpenSpec.upto fnMomentsSpec)

/-- 'laws.FnExactStops', WHERE WHAT IT READS IS OF BULK AT MOST 1048576: true; the input reads as it did. -/
def fnExactStopsUptoRow : OpenClaim := { program := "ytceepcjpelcbgaa", sum := "14e241736c9fc89f43098cf3977bb18abf14c002e0d970f231459040975bc460", func := "loop.example/g00063/laws.FnExactStops", spec := "fnExactStops", apart := false, narrowed := true }
def FnExactStopsUptoSaid : Prop := fnExactStopsUptoRow.holds Try.pinned (OpenSpec.upto fnExactStopsSpec)

end Rows
end Go.Proofs.Ytceepcjpelcbgaa
