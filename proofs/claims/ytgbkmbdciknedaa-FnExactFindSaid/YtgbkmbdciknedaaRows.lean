/-
  No cell of these rows narrows 'for every input' (looked for: loops, veiled, ifaces, maps, wideKeys, modest, calm, conditions, laid).
  DERIVED. THE GIVEN ROWS OF THIS SEAT. 12 by the template 'for every input the law returns true; each argument reads behind the call as it read before'; 0 by the template 'total and deterministic' (their statements: YtgbkmbdciknedaaTotals.lean).
  GIVEN WITH THE SEED: the statements are not yours to turn. If you find one false, say at which input.
  Laid BY PROGRAM, IN A SANDBOX (cutbox-rows.mjs): the forced cells as the released guide's own fill.sh prints them over the translation 47e6009585ad9132… (all of the seat's roots in one cut). By AI agents, Wed Nov 11 2026. No macro, syntax, notation, axiom, sorry.
-/
import Derived.Test.YtgbkmbdciknedaaChecked
import GoSem.Claim
import GoSem.ClaimJoined
import GoSem.ClaimMapViews
import Derived.JoinedTies
import Derived.KernelRfl
namespace Go.Proofs.Ytgbkmbdciknedaa
/- THE CELL 'sum', in the pinned program and in every row, IS THE sha256 OF THE DUMP (.gsa) THAT YtgbkmbdciknedaaProg.lean LOADS. Nothing in Lean hashes anything: it is a label: what it is worth is what the hold of that sum in a sandbox is worth. -/
noncomputable def Try.pinned : Pinned := { name := "ytgbkmbdciknedaa", sum := "47e6009585ad9132f0ee85df5e30060b51fdd4d466cd37cf65d199ebac8690aa", checked := Try.checked }
namespace Rows
def none {H : Type} : Left H := { results := [], args := [] }

/-- 'laws.FnExactSumOf': WHATEVER THE INPUT: true; the input reads as it did. -/
def fnExactSumOfSpec : ChangeSpec := { name := "fnExactSumOf", fn := fun _ => fun
  | [d] => { results := [.lit (.bool true)], args := [d] }
  | _ => none }
def fnExactSumOfRow : OpenClaim := { program := "ytgbkmbdciknedaa", sum := "47e6009585ad9132f0ee85df5e30060b51fdd4d466cd37cf65d199ebac8690aa", func := "loop.example/g00063/laws.FnExactSumOf", spec := "fnExactSumOf", apart := false }
def FnExactSumOfSaid : Prop := fnExactSumOfRow.holds Try.pinned (OpenSpec.ofChange fnExactSumOfSpec)

/-- ITS FALSE NEIGHBOUR: 'it returns false'. Refute it at one input. -/
def fnExactSumOfWrong : ChangeSpec := { name := "fnExactSumOf", fn := fun _ => fun
  | [d] => { results := [.lit (.bool false)], args := [d] }
  | _ => none }
def FnExactSumOfWrongFalsely : Prop := fnExactSumOfRow.holds Try.pinned (OpenSpec.ofChange fnExactSumOfWrong)

/-- 'laws.FnExactLasts': WHATEVER THE INPUT: true; the input reads as it did. -/
def fnExactLastsSpec : ChangeSpec := { name := "fnExactLasts", fn := fun _ => fun
  | [d1, d2] => { results := [.lit (.bool true)], args := [d1, d2] }
  | _ => none }
def fnExactLastsRow : OpenClaim := { program := "ytgbkmbdciknedaa", sum := "47e6009585ad9132f0ee85df5e30060b51fdd4d466cd37cf65d199ebac8690aa", func := "loop.example/g00063/laws.FnExactLasts", spec := "fnExactLasts", apart := false }
def FnExactLastsSaid : Prop := fnExactLastsRow.holds Try.pinned (OpenSpec.ofChange fnExactLastsSpec)

/-- ITS FALSE NEIGHBOUR: 'it returns false'. Refute it at one input. -/
def fnExactLastsWrong : ChangeSpec := { name := "fnExactLasts", fn := fun _ => fun
  | [d1, d2] => { results := [.lit (.bool false)], args := [d1, d2] }
  | _ => none }
def FnExactLastsWrongFalsely : Prop := fnExactLastsRow.holds Try.pinned (OpenSpec.ofChange fnExactLastsWrong)

/-- 'laws.FnRolls': WHATEVER THE INPUT: true; the input reads as it did. -/
def fnRollsSpec : ChangeSpec := { name := "fnRolls", fn := fun _ => fun
  | [d] => { results := [.lit (.bool true)], args := [d] }
  | _ => none }
def fnRollsRow : OpenClaim := { program := "ytgbkmbdciknedaa", sum := "47e6009585ad9132f0ee85df5e30060b51fdd4d466cd37cf65d199ebac8690aa", func := "loop.example/g00063/laws.FnRolls", spec := "fnRolls", apart := false }
def FnRollsSaid : Prop := fnRollsRow.holds Try.pinned (OpenSpec.ofChange fnRollsSpec)

/-- ITS FALSE NEIGHBOUR: 'it returns false'. Refute it at one input. -/
def fnRollsWrong : ChangeSpec := { name := "fnRolls", fn := fun _ => fun
  | [d] => { results := [.lit (.bool false)], args := [d] }
  | _ => none }
def FnRollsWrongFalsely : Prop := fnRollsRow.holds Try.pinned (OpenSpec.ofChange fnRollsWrong)

/-- 'laws.FnExactCurveOk': WHATEVER THE INPUT: true; the input reads as it did. -/
def fnExactCurveOkSpec : ChangeSpec := { name := "fnExactCurveOk", fn := fun _ => fun
  | [d] => { results := [.lit (.bool true)], args := [d] }
  | _ => none }
def fnExactCurveOkRow : OpenClaim := { program := "ytgbkmbdciknedaa", sum := "47e6009585ad9132f0ee85df5e30060b51fdd4d466cd37cf65d199ebac8690aa", func := "loop.example/g00063/laws.FnExactCurveOk", spec := "fnExactCurveOk", apart := false }
def FnExactCurveOkSaid : Prop := fnExactCurveOkRow.holds Try.pinned (OpenSpec.ofChange fnExactCurveOkSpec)

/-- ITS FALSE NEIGHBOUR: 'it returns false'. Refute it at one input. -/
def fnExactCurveOkWrong : ChangeSpec := { name := "fnExactCurveOk", fn := fun _ => fun
  | [d] => { results := [.lit (.bool false)], args := [d] }
  | _ => none }
def FnExactCurveOkWrongFalsely : Prop := fnExactCurveOkRow.holds Try.pinned (OpenSpec.ofChange fnExactCurveOkWrong)

/-- 'laws.FnExactAirOk': WHATEVER THE INPUT: true; the input reads as it did. -/
def fnExactAirOkSpec : ChangeSpec := { name := "fnExactAirOk", fn := fun _ => fun
  | [d] => { results := [.lit (.bool true)], args := [d] }
  | _ => none }
def fnExactAirOkRow : OpenClaim := { program := "ytgbkmbdciknedaa", sum := "47e6009585ad9132f0ee85df5e30060b51fdd4d466cd37cf65d199ebac8690aa", func := "loop.example/g00063/laws.FnExactAirOk", spec := "fnExactAirOk", apart := false }
def FnExactAirOkSaid : Prop := fnExactAirOkRow.holds Try.pinned (OpenSpec.ofChange fnExactAirOkSpec)

/-- ITS FALSE NEIGHBOUR: 'it returns false'. Refute it at one input. -/
def fnExactAirOkWrong : ChangeSpec := { name := "fnExactAirOk", fn := fun _ => fun
  | [d] => { results := [.lit (.bool false)], args := [d] }
  | _ => none }
def FnExactAirOkWrongFalsely : Prop := fnExactAirOkRow.holds Try.pinned (OpenSpec.ofChange fnExactAirOkWrong)

/-- 'laws.FnExactClimbs': WHATEVER THE INPUT: true; the input reads as it did. -/
def fnExactClimbsSpec : ChangeSpec := { name := "fnExactClimbs", fn := fun _ => fun
  | [d1, d2] => { results := [.lit (.bool true)], args := [d1, d2] }
  | _ => none }
def fnExactClimbsRow : OpenClaim := { program := "ytgbkmbdciknedaa", sum := "47e6009585ad9132f0ee85df5e30060b51fdd4d466cd37cf65d199ebac8690aa", func := "loop.example/g00063/laws.FnExactClimbs", spec := "fnExactClimbs", apart := false }
def FnExactClimbsSaid : Prop := fnExactClimbsRow.holds Try.pinned (OpenSpec.ofChange fnExactClimbsSpec)

/-- ITS FALSE NEIGHBOUR: 'it returns false'. Refute it at one input. -/
def fnExactClimbsWrong : ChangeSpec := { name := "fnExactClimbs", fn := fun _ => fun
  | [d1, d2] => { results := [.lit (.bool false)], args := [d1, d2] }
  | _ => none }
def FnExactClimbsWrongFalsely : Prop := fnExactClimbsRow.holds Try.pinned (OpenSpec.ofChange fnExactClimbsWrong)

/-- 'laws.FnExactEnvelopeOk': WHATEVER THE INPUT: true; the input reads as it did. -/
def fnExactEnvelopeOkSpec : ChangeSpec := { name := "fnExactEnvelopeOk", fn := fun _ => fun
  | [d] => { results := [.lit (.bool true)], args := [d] }
  | _ => none }
def fnExactEnvelopeOkRow : OpenClaim := { program := "ytgbkmbdciknedaa", sum := "47e6009585ad9132f0ee85df5e30060b51fdd4d466cd37cf65d199ebac8690aa", func := "loop.example/g00063/laws.FnExactEnvelopeOk", spec := "fnExactEnvelopeOk", apart := false }
def FnExactEnvelopeOkSaid : Prop := fnExactEnvelopeOkRow.holds Try.pinned (OpenSpec.ofChange fnExactEnvelopeOkSpec)

/-- ITS FALSE NEIGHBOUR: 'it returns false'. Refute it at one input. -/
def fnExactEnvelopeOkWrong : ChangeSpec := { name := "fnExactEnvelopeOk", fn := fun _ => fun
  | [d] => { results := [.lit (.bool false)], args := [d] }
  | _ => none }
def FnExactEnvelopeOkWrongFalsely : Prop := fnExactEnvelopeOkRow.holds Try.pinned (OpenSpec.ofChange fnExactEnvelopeOkWrong)

/-- 'laws.FnExactWarm': WHATEVER THE INPUT: true; the input reads as it did. -/
def fnExactWarmSpec : ChangeSpec := { name := "fnExactWarm", fn := fun _ => fun
  | [d1, d2] => { results := [.lit (.bool true)], args := [d1, d2] }
  | _ => none }
def fnExactWarmRow : OpenClaim := { program := "ytgbkmbdciknedaa", sum := "47e6009585ad9132f0ee85df5e30060b51fdd4d466cd37cf65d199ebac8690aa", func := "loop.example/g00063/laws.FnExactWarm", spec := "fnExactWarm", apart := false }
def FnExactWarmSaid : Prop := fnExactWarmRow.holds Try.pinned (OpenSpec.ofChange fnExactWarmSpec)

/-- ITS FALSE NEIGHBOUR: 'it returns false'. Refute it at one input. -/
def fnExactWarmWrong : ChangeSpec := { name := "fnExactWarm", fn := fun _ => fun
  | [d1, d2] => { results := [.lit (.bool false)], args := [d1, d2] }
  | _ => none }
def FnExactWarmWrongFalsely : Prop := fnExactWarmRow.holds Try.pinned (OpenSpec.ofChange fnExactWarmWrong)

/-- 'laws.FnExactFind': WHATEVER THE INPUT: true; the input reads as it did. -/
def fnExactFindSpec : ChangeSpec := { name := "fnExactFind", fn := fun _ => fun
  | [d1, d2] => { results := [.lit (.bool true)], args := [d1, d2] }
  | _ => none }
def fnExactFindRow : OpenClaim := { program := "ytgbkmbdciknedaa", sum := "47e6009585ad9132f0ee85df5e30060b51fdd4d466cd37cf65d199ebac8690aa", func := "loop.example/g00063/laws.FnExactFind", spec := "fnExactFind", apart := false }
def FnExactFindSaid : Prop := fnExactFindRow.holds Try.pinned (OpenSpec.ofChange fnExactFindSpec)

/-- ITS FALSE NEIGHBOUR: 'it returns false'. Refute it at one input. -/
def fnExactFindWrong : ChangeSpec := { name := "fnExactFind", fn := fun _ => fun
  | [d1, d2] => { results := [.lit (.bool false)], args := [d1, d2] }
  | _ => none }
def FnExactFindWrongFalsely : Prop := fnExactFindRow.holds Try.pinned (OpenSpec.ofChange fnExactFindWrong)

/-- 'laws.FnExactDecide': WHATEVER THE INPUT: true; the input reads as it did. -/
def fnExactDecideSpec : ChangeSpec := { name := "fnExactDecide", fn := fun _ => fun
  | [d1, d2, d3] => { results := [.lit (.bool true)], args := [d1, d2, d3] }
  | _ => none }
def fnExactDecideRow : OpenClaim := { program := "ytgbkmbdciknedaa", sum := "47e6009585ad9132f0ee85df5e30060b51fdd4d466cd37cf65d199ebac8690aa", func := "loop.example/g00063/laws.FnExactDecide", spec := "fnExactDecide", apart := false }
def FnExactDecideSaid : Prop := fnExactDecideRow.holds Try.pinned (OpenSpec.ofChange fnExactDecideSpec)

/-- ITS FALSE NEIGHBOUR: 'it returns false'. Refute it at one input. -/
def fnExactDecideWrong : ChangeSpec := { name := "fnExactDecide", fn := fun _ => fun
  | [d1, d2, d3] => { results := [.lit (.bool false)], args := [d1, d2, d3] }
  | _ => none }
def FnExactDecideWrongFalsely : Prop := fnExactDecideRow.holds Try.pinned (OpenSpec.ofChange fnExactDecideWrong)

/-- 'laws.FnAir': WHATEVER THE INPUT: true; the input reads as it did. -/
def fnAirSpec : ChangeSpec := { name := "fnAir", fn := fun _ => fun
  | [d] => { results := [.lit (.bool true)], args := [d] }
  | _ => none }
def fnAirRow : OpenClaim := { program := "ytgbkmbdciknedaa", sum := "47e6009585ad9132f0ee85df5e30060b51fdd4d466cd37cf65d199ebac8690aa", func := "loop.example/g00063/laws.FnAir", spec := "fnAir", apart := false }
def FnAirSaid : Prop := fnAirRow.holds Try.pinned (OpenSpec.ofChange fnAirSpec)

/-- ITS FALSE NEIGHBOUR: 'it returns false'. Refute it at one input. -/
def fnAirWrong : ChangeSpec := { name := "fnAir", fn := fun _ => fun
  | [d] => { results := [.lit (.bool false)], args := [d] }
  | _ => none }
def FnAirWrongFalsely : Prop := fnAirRow.holds Try.pinned (OpenSpec.ofChange fnAirWrong)

/-- 'laws.FnExactGridOk': WHATEVER THE INPUT: true; the input reads as it did. -/
def fnExactGridOkSpec : ChangeSpec := { name := "fnExactGridOk", fn := fun _ => fun
  | [d] => { results := [.lit (.bool true)], args := [d] }
  | _ => none }
def fnExactGridOkRow : OpenClaim := { program := "ytgbkmbdciknedaa", sum := "47e6009585ad9132f0ee85df5e30060b51fdd4d466cd37cf65d199ebac8690aa", func := "loop.example/g00063/laws.FnExactGridOk", spec := "fnExactGridOk", apart := false }
def FnExactGridOkSaid : Prop := fnExactGridOkRow.holds Try.pinned (OpenSpec.ofChange fnExactGridOkSpec)

/-- ITS FALSE NEIGHBOUR: 'it returns false'. Refute it at one input. -/
def fnExactGridOkWrong : ChangeSpec := { name := "fnExactGridOk", fn := fun _ => fun
  | [d] => { results := [.lit (.bool false)], args := [d] }
  | _ => none }
def FnExactGridOkWrongFalsely : Prop := fnExactGridOkRow.holds Try.pinned (OpenSpec.ofChange fnExactGridOkWrong)

/- THE SECOND FORM. 'bulk': how many values and letters a reading holds, each counted each time it is reached (what is shared counts as often as it is met; a slice's spare places count too). A statement '..UptoSaid' is the law's where the arguments, and the package variables that the reading takes, are together of bulk at most 1048576: NARROWER than '..Said'. Prove '..Said' where nothing that the law and all that it calls make is longer than what came in: it says more and counts as full. Else prove '..UptoSaid'. A law counts once. -/
mutual
def uptoBulk {H : Type} : DataW H → Nat
  | .lit (.string bytes) => bytes.length + 1
  | .lit _ => 1
  | .nil => 1
  | .ptr d => uptoBulk d + 1
  | .slice elems spare => uptoBulkAll elems + uptoBulkAll spare + 1
  | .agg parts => uptoBulkAll parts + 1
  | .iface _ d => uptoBulk d + 1
  | .map entries => uptoBulkEntries entries + 1
  | .held _ => 1
def uptoBulkAll {H : Type} : List (DataW H) → Nat
  | [] => 0
  | d :: r => uptoBulk d + uptoBulkAll r
def uptoBulkEntries {H : Type} : List (Lit × DataW H) → Nat
  | [] => 0
  | x :: r => uptoBulkEntry x + uptoBulkEntries r
def uptoBulkEntry {H : Type} : Lit × DataW H → Nat
  | (.string bytes, d) => bytes.length + uptoBulk d + 1
  | (_, d) => uptoBulk d + 1
 end
def uptoSmall : (H : Type) → List (DataW H) → Bool := fun _ ds => decide (uptoBulkAll ds ≤ 1048576)
def OpenSpec.upto (s : _root_.Go.ChangeSpec) : _root_.Go.OpenSpec := { _root_.Go.OpenSpec.ofChange s with cond := some uptoSmall }

/-- 'laws.FnExactSumOf', WHERE WHAT IT READS IS OF BULK AT MOST 1048576: true; the input reads as it did. -/
def fnExactSumOfUptoRow : OpenClaim := { program := "ytgbkmbdciknedaa", sum := "47e6009585ad9132f0ee85df5e30060b51fdd4d466cd37cf65d199ebac8690aa", func := "loop.example/g00063/laws.FnExactSumOf", spec := "fnExactSumOf", apart := false, narrowed := true }
def FnExactSumOfUptoSaid : Prop := fnExactSumOfUptoRow.holds Try.pinned (OpenSpec.upto fnExactSumOfSpec)

/-- 'laws.FnExactLasts', WHERE WHAT IT READS IS OF BULK AT MOST 1048576: true; the input reads as it did. -/
def fnExactLastsUptoRow : OpenClaim := { program := "ytgbkmbdciknedaa", sum := "47e6009585ad9132f0ee85df5e30060b51fdd4d466cd37cf65d199ebac8690aa", func := "loop.example/g00063/laws.FnExactLasts", spec := "fnExactLasts", apart := false, narrowed := true }
def FnExactLastsUptoSaid : Prop := fnExactLastsUptoRow.holds Try.pinned (OpenSpec.upto fnExactLastsSpec)

/-- 'laws.FnRolls', WHERE WHAT IT READS IS OF BULK AT MOST 1048576: true; the input reads as it did. -/
def fnRollsUptoRow : OpenClaim := { program := "ytgbkmbdciknedaa", sum := "47e6009585ad9132f0ee85df5e30060b51fdd4d466cd37cf65d199ebac8690aa", func := "loop.example/g00063/laws.FnRolls", spec := "fnRolls", apart := false, narrowed := true }
def FnRollsUptoSaid : Prop := fnRollsUptoRow.holds Try.pinned (OpenSpec.upto fnRollsSpec)

/-- 'laws.FnExactCurveOk', WHERE WHAT IT READS IS OF BULK AT MOST 1048576: true; the input reads as it did. -/
def fnExactCurveOkUptoRow : OpenClaim := { program := "ytgbkmbdciknedaa", sum := "47e6009585ad9132f0ee85df5e30060b51fdd4d466cd37cf65d199ebac8690aa", func := "loop.example/g00063/laws.FnExactCurveOk", spec := "fnExactCurveOk", apart := false, narrowed := true }
def FnExactCurveOkUptoSaid : Prop := fnExactCurveOkUptoRow.holds Try.pinned (OpenSpec.upto fnExactCurveOkSpec)

/-- 'laws.FnExactAirOk', WHERE WHAT IT READS IS OF BULK AT MOST 1048576: true; the input reads as it did. -/
def fnExactAirOkUptoRow : OpenClaim := { program := "ytgbkmbdciknedaa", sum := "47e6009585ad9132f0ee85df5e30060b51fdd4d466cd37cf65d199ebac8690aa", func := "loop.example/g00063/laws.FnExactAirOk", spec := "fnExactAirOk", apart := false, narrowed := true }
def FnExactAirOkUptoSaid : Prop := fnExactAirOkUptoRow.holds Try.pinned (OpenSpec.upto fnExactAirOkSpec)

/-- 'laws.FnExactClimbs', WHERE WHAT IT READS IS OF BULK AT MOST 1048576: true; the input reads as it did. -/
def fnExactClimbsUptoRow : OpenClaim := { program := "ytgbkmbdciknedaa", sum := "47e6009585ad9132f0ee85df5e30060b51fdd4d466cd37cf65d199ebac8690aa", func := "loop.example/g00063/laws.FnExactClimbs", spec := "fnExactClimbs", apart := false, narrowed := true }
def FnExactClimbsUptoSaid : Prop := fnExactClimbsUptoRow.holds Try.pinned (OpenSpec.upto fnExactClimbsSpec)

/-- 'laws.FnExactEnvelopeOk', WHERE WHAT IT READS IS OF BULK AT MOST 1048576: true; the input reads as it did. -/
def fnExactEnvelopeOkUptoRow : OpenClaim := { program := "ytgbkmbdciknedaa", sum := "47e6009585ad9132f0ee85df5e30060b51fdd4d466cd37cf65d199ebac8690aa", func := "loop.example/g00063/laws.FnExactEnvelopeOk", spec := "fnExactEnvelopeOk", apart := false, narrowed := true }
def FnExactEnvelopeOkUptoSaid : Prop := fnExactEnvelopeOkUptoRow.holds Try.pinned (OpenSpec.upto fnExactEnvelopeOkSpec)

/-- 'laws.FnExactWarm', WHERE WHAT IT READS IS OF BULK AT MOST 1048576: true; the input reads as it did. -/
def fnExactWarmUptoRow : OpenClaim := { program := "ytgbkmbdciknedaa", sum := "47e6009585ad9132f0ee85df5e30060b51fdd4d466cd37cf65d199ebac8690aa", func := "loop.example/g00063/laws.FnExactWarm", spec := "fnExactWarm", apart := false, narrowed := true }
def FnExactWarmUptoSaid : Prop := fnExactWarmUptoRow.holds Try.pinned (OpenSpec.upto fnExactWarmSpec)

/-- 'laws.FnExactFind', WHERE WHAT IT READS IS OF BULK AT MOST 1048576: true; the input reads as it did. -/
def fnExactFindUptoRow : OpenClaim := { program := "ytgbkmbdciknedaa", sum := "47e6009585ad9132f0ee85df5e30060b51fdd4d466cd37cf65d199ebac8690aa", func := "loop.example/g00063/laws.FnExactFind", spec := "fnExactFind", apart := false, narrowed := true }
def FnExactFindUptoSaid : Prop := fnExactFindUptoRow.holds Try.pinned (OpenSpec.upto fnExactFindSpec)

/-- 'laws.FnExactDecide', WHERE WHAT IT READS IS OF BULK AT MOST 1048576: true; the input reads as it did. -/
def fnExactDecideUptoRow : OpenClaim := { program := "ytgbkmbdciknedaa", sum := "47e6009585ad9132f0ee85df5e30060b51fdd4d466cd37cf65d199ebac8690aa", func := "loop.example/g00063/laws.FnExactDecide", spec := "fnExactDecide", apart := false, narrowed := true }
def FnExactDecideUptoSaid : Prop := fnExactDecideUptoRow.holds Try.pinned (OpenSpec.upto fnExactDecideSpec)

/-- 'laws.FnAir', WHERE WHAT IT READS IS OF BULK AT MOST 1048576: true; the input reads as it did. -/
def fnAirUptoRow : OpenClaim := { program := "ytgbkmbdciknedaa", sum := "47e6009585ad9132f0ee85df5e30060b51fdd4d466cd37cf65d199ebac8690aa", func := "loop.example/g00063/laws.FnAir", spec := "fnAir", apart := false, narrowed := true }
def FnAirUptoSaid : Prop := fnAirUptoRow.holds Try.pinned (OpenSpec.upto fnAirSpec)

/-- 'laws.FnExactGridOk', WHERE WHAT IT READS IS OF BULK AT MOST 1048576: true; the input reads as it did. -/
def fnExactGridOkUptoRow : OpenClaim := { program := "ytgbkmbdciknedaa", sum := "47e6009585ad9132f0ee85df5e30060b51fdd4d466cd37cf65d199ebac8690aa", func := "loop.example/g00063/laws.FnExactGridOk", spec := "fnExactGridOk", apart := false, narrowed := true }
def FnExactGridOkUptoSaid : Prop := fnExactGridOkUptoRow.holds Try.pinned (OpenSpec.upto fnExactGridOkSpec)

end Rows
end Go.Proofs.Ytgbkmbdciknedaa
