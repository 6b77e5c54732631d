/-
  No cell of these rows narrows 'for every input' (looked for: loops, veiled, ifaces, maps, wideKeys, modest, calm, conditions, laid).
  DERIVED. THE GIVEN ROWS OF THIS SEAT. 8 by the template 'for every input the law returns true; each argument reads behind the call as it read before'; 0 by the template 'total and deterministic' (their statements: YtkginilghcepbaaTotals.lean).
  GIVEN WITH THE SEED: the statements are not yours to turn. If you find one false, say at which input.
  Laid BY PROGRAM, IN A SANDBOX (cutbox-rows.mjs): the forced cells as the released guide's own fill.sh prints them over the translation dbb988083630016e… (all of the seat's roots in one cut). By AI agents, Wed Nov 11 2026. No macro, syntax, notation, axiom, sorry.
-/
import Derived.Test.YtkginilghcepbaaChecked
import GoSem.Claim
import GoSem.ClaimJoined
import GoSem.ClaimMapViews
import Derived.JoinedTies
import Derived.KernelRfl
namespace Go.Proofs.Ytkginilghcepbaa
/- THE CELL 'sum', in the pinned program and in every row, IS THE sha256 OF THE DUMP (.gsa) THAT YtkginilghcepbaaProg.lean LOADS. Nothing in Lean hashes anything: it is a label: what it is worth is what the hold of that sum in a sandbox is worth. -/
noncomputable def Try.pinned : Pinned := { name := "ytkginilghcepbaa", sum := "dbb988083630016e58aaedf2abe7b636e2665eb84fb9504592bc69039f544919", checked := Try.checked }
namespace Rows
def none {H : Type} : Left H := { results := [], args := [] }

/-- 'laws.FnExactUsed': WHATEVER THE INPUT: true; the input reads as it did. -/
def fnExactUsedSpec : ChangeSpec := { name := "fnExactUsed", fn := fun _ => fun
  | [d1, d2] => { results := [.lit (.bool true)], args := [d1, d2] }
  | _ => none }
def fnExactUsedRow : OpenClaim := { program := "ytkginilghcepbaa", sum := "dbb988083630016e58aaedf2abe7b636e2665eb84fb9504592bc69039f544919", func := "loop.example/g00063/laws.FnExactUsed", spec := "fnExactUsed", inPlace := ["math/bits.Add64"], named := ["math/bits.divideError", "math/bits.overflowError"], apart := false }
def FnExactUsedSaid : Prop := fnExactUsedRow.holds Try.pinned (OpenSpec.ofChange fnExactUsedSpec)

/-- ITS FALSE NEIGHBOUR: 'it returns false'. Refute it at one input. -/
def fnExactUsedWrong : ChangeSpec := { name := "fnExactUsed", fn := fun _ => fun
  | [d1, d2] => { results := [.lit (.bool false)], args := [d1, d2] }
  | _ => none }
def FnExactUsedWrongFalsely : Prop := fnExactUsedRow.holds Try.pinned (OpenSpec.ofChange fnExactUsedWrong)

/-- 'laws.FnExactFlutter': WHATEVER THE INPUT: true; the input reads as it did. -/
def fnExactFlutterSpec : ChangeSpec := { name := "fnExactFlutter", fn := fun _ => fun
  | [d1, d2, d3, d4] => { results := [.lit (.bool true)], args := [d1, d2, d3, d4] }
  | _ => none }
def fnExactFlutterRow : OpenClaim := { program := "ytkginilghcepbaa", sum := "dbb988083630016e58aaedf2abe7b636e2665eb84fb9504592bc69039f544919", func := "loop.example/g00063/laws.FnExactFlutter", spec := "fnExactFlutter", apart := false }
def FnExactFlutterSaid : Prop := fnExactFlutterRow.holds Try.pinned (OpenSpec.ofChange fnExactFlutterSpec)

/-- ITS FALSE NEIGHBOUR: 'it returns false'. Refute it at one input. -/
def fnExactFlutterWrong : ChangeSpec := { name := "fnExactFlutter", fn := fun _ => fun
  | [d1, d2, d3, d4] => { results := [.lit (.bool false)], args := [d1, d2, d3, d4] }
  | _ => none }
def FnExactFlutterWrongFalsely : Prop := fnExactFlutterRow.holds Try.pinned (OpenSpec.ofChange fnExactFlutterWrong)

/-- 'laws.FnGrid': WHATEVER THE INPUT: true; the input reads as it did. -/
def fnGridSpec : ChangeSpec := { name := "fnGrid", fn := fun _ => fun
  | [d] => { results := [.lit (.bool true)], args := [d] }
  | _ => none }
def fnGridRow : OpenClaim := { program := "ytkginilghcepbaa", sum := "dbb988083630016e58aaedf2abe7b636e2665eb84fb9504592bc69039f544919", func := "loop.example/g00063/laws.FnGrid", spec := "fnGrid", apart := false }
def FnGridSaid : Prop := fnGridRow.holds Try.pinned (OpenSpec.ofChange fnGridSpec)

/-- ITS FALSE NEIGHBOUR: 'it returns false'. Refute it at one input. -/
def fnGridWrong : ChangeSpec := { name := "fnGrid", fn := fun _ => fun
  | [d] => { results := [.lit (.bool false)], args := [d] }
  | _ => none }
def FnGridWrongFalsely : Prop := fnGridRow.holds Try.pinned (OpenSpec.ofChange fnGridWrong)

/-- 'laws.FnMeans': WHATEVER THE INPUT: true; the input reads as it did. -/
def fnMeansSpec : ChangeSpec := { name := "fnMeans", fn := fun _ => fun
  | [d] => { results := [.lit (.bool true)], args := [d] }
  | _ => none }
def fnMeansRow : OpenClaim := { program := "ytkginilghcepbaa", sum := "dbb988083630016e58aaedf2abe7b636e2665eb84fb9504592bc69039f544919", func := "loop.example/g00063/laws.FnMeans", spec := "fnMeans", inPlace := ["math.Float64frombits"], unfollowed := true, recurses := true, apart := false }
def FnMeansSaid : Prop := fnMeansRow.holds Try.pinned (OpenSpec.ofChange fnMeansSpec)

/-- ITS FALSE NEIGHBOUR: 'it returns false'. Refute it at one input. -/
def fnMeansWrong : ChangeSpec := { name := "fnMeans", fn := fun _ => fun
  | [d] => { results := [.lit (.bool false)], args := [d] }
  | _ => none }
def FnMeansWrongFalsely : Prop := fnMeansRow.holds Try.pinned (OpenSpec.ofChange fnMeansWrong)

/-- 'laws.FnMoments': WHATEVER THE INPUT: true; the input reads as it did. -/
def fnMomentsSpec : ChangeSpec := { name := "fnMoments", fn := fun _ => fun
  | [d] => { results := [.lit (.bool true)], args := [d] }
  | _ => none }
def fnMomentsRow : OpenClaim := { program := "ytkginilghcepbaa", sum := "dbb988083630016e58aaedf2abe7b636e2665eb84fb9504592bc69039f544919", func := "loop.example/g00063/laws.FnMoments", spec := "fnMoments", apart := false }
def FnMomentsSaid : Prop := fnMomentsRow.holds Try.pinned (OpenSpec.ofChange fnMomentsSpec)

/-- ITS FALSE NEIGHBOUR: 'it returns false'. Refute it at one input. -/
def fnMomentsWrong : ChangeSpec := { name := "fnMoments", fn := fun _ => fun
  | [d] => { results := [.lit (.bool false)], args := [d] }
  | _ => none }
def FnMomentsWrongFalsely : Prop := fnMomentsRow.holds Try.pinned (OpenSpec.ofChange fnMomentsWrong)

/-- 'laws.FnExactFirstOver': WHATEVER THE INPUT: true; the input reads as it did. -/
def fnExactFirstOverSpec : ChangeSpec := { name := "fnExactFirstOver", fn := fun _ => fun
  | [d1, d2] => { results := [.lit (.bool true)], args := [d1, d2] }
  | _ => none }
def fnExactFirstOverRow : OpenClaim := { program := "ytkginilghcepbaa", sum := "dbb988083630016e58aaedf2abe7b636e2665eb84fb9504592bc69039f544919", func := "loop.example/g00063/laws.FnExactFirstOver", spec := "fnExactFirstOver", unfollowed := true, recurses := true, apart := false }
def FnExactFirstOverSaid : Prop := fnExactFirstOverRow.holds Try.pinned (OpenSpec.ofChange fnExactFirstOverSpec)

/-- ITS FALSE NEIGHBOUR: 'it returns false'. Refute it at one input. -/
def fnExactFirstOverWrong : ChangeSpec := { name := "fnExactFirstOver", fn := fun _ => fun
  | [d1, d2] => { results := [.lit (.bool false)], args := [d1, d2] }
  | _ => none }
def FnExactFirstOverWrongFalsely : Prop := fnExactFirstOverRow.holds Try.pinned (OpenSpec.ofChange fnExactFirstOverWrong)

/-- 'laws.FnAir': WHATEVER THE INPUT: true; the input reads as it did. -/
def fnAirSpec : ChangeSpec := { name := "fnAir", fn := fun _ => fun
  | [d] => { results := [.lit (.bool true)], args := [d] }
  | _ => none }
def fnAirRow : OpenClaim := { program := "ytkginilghcepbaa", sum := "dbb988083630016e58aaedf2abe7b636e2665eb84fb9504592bc69039f544919", func := "loop.example/g00063/laws.FnAir", spec := "fnAir", apart := false }
def FnAirSaid : Prop := fnAirRow.holds Try.pinned (OpenSpec.ofChange fnAirSpec)

/-- ITS FALSE NEIGHBOUR: 'it returns false'. Refute it at one input. -/
def fnAirWrong : ChangeSpec := { name := "fnAir", fn := fun _ => fun
  | [d] => { results := [.lit (.bool false)], args := [d] }
  | _ => none }
def FnAirWrongFalsely : Prop := fnAirRow.holds Try.pinned (OpenSpec.ofChange fnAirWrong)

/-- 'laws.FnFlown': WHATEVER THE INPUT: true; the input reads as it did. -/
def fnFlownSpec : ChangeSpec := { name := "fnFlown", fn := fun _ => fun
  | [d] => { results := [.lit (.bool true)], args := [d] }
  | _ => none }
def fnFlownRow : OpenClaim := { program := "ytkginilghcepbaa", sum := "dbb988083630016e58aaedf2abe7b636e2665eb84fb9504592bc69039f544919", func := "loop.example/g00063/laws.FnFlown", spec := "fnFlown", unfollowed := true, recurses := true, apart := false }
def FnFlownSaid : Prop := fnFlownRow.holds Try.pinned (OpenSpec.ofChange fnFlownSpec)

/-- ITS FALSE NEIGHBOUR: 'it returns false'. Refute it at one input. -/
def fnFlownWrong : ChangeSpec := { name := "fnFlown", fn := fun _ => fun
  | [d] => { results := [.lit (.bool false)], args := [d] }
  | _ => none }
def FnFlownWrongFalsely : Prop := fnFlownRow.holds Try.pinned (OpenSpec.ofChange fnFlownWrong)

/- THE SECOND FORM. 'bulk': how many values and letters a reading holds, each counted each time it is reached (what is shared counts as often as it is met; a slice's spare places count too). A statement '..UptoSaid' is the law's where the arguments, and the package variables that the reading takes, are together of bulk at most 1048576: NARROWER than '..Said'. Prove '..Said' where nothing that the law and all that it calls make is longer than what came in: it says more and counts as full. Else prove '..UptoSaid'. A law counts once. -/
mutual
def uptoBulk {H : Type} : DataW H → Nat
  | .lit (.string bytes) => bytes.length + 1
  | .lit _ => 1
  | .nil => 1
  | .ptr d => uptoBulk d + 1
  | .slice elems spare => uptoBulkAll elems + uptoBulkAll spare + 1
  | .agg parts => uptoBulkAll parts + 1
  | .iface _ d => uptoBulk d + 1
  | .map entries => uptoBulkEntries entries + 1
  | .held _ => 1
def uptoBulkAll {H : Type} : List (DataW H) → Nat
  | [] => 0
  | d :: r => uptoBulk d + uptoBulkAll r
def uptoBulkEntries {H : Type} : List (Lit × DataW H) → Nat
  | [] => 0
  | x :: r => uptoBulkEntry x + uptoBulkEntries r
def uptoBulkEntry {H : Type} : Lit × DataW H → Nat
  | (.string bytes, d) => bytes.length + uptoBulk d + 1
  | (_, d) => uptoBulk d + 1
 end
def uptoSmall : (H : Type) → List (DataW H) → Bool := fun _ ds => decide (uptoBulkAll ds ≤ 1048576)
def OpenSpec.upto (s : _root_.Go.ChangeSpec) : _root_.Go.OpenSpec := { _root_.Go.OpenSpec.ofChange s with cond := some uptoSmall }

/-- 'laws.FnExactUsed', WHERE WHAT IT READS IS OF BULK AT MOST 1048576: true; the input reads as it did. -/
def fnExactUsedUptoRow : OpenClaim := { program := "ytkginilghcepbaa", sum := "dbb988083630016e58aaedf2abe7b636e2665eb84fb9504592bc69039f544919", func := "loop.example/g00063/laws.FnExactUsed", spec := "fnExactUsed", inPlace := ["math/bits.Add64"], named := ["math/bits.divideError", "math/bits.overflowError"], apart := false, narrowed := true }
def FnExactUsedUptoSaid : Prop := fnExactUsedUptoRow.holds Try.pinned (OpenSpec.upto fnExactUsedSpec)

/-- 'laws.FnExactFlutter', WHERE WHAT IT READS IS OF BULK AT MOST 1048576: true; the input reads as it did. -/
def fnExactFlutterUptoRow : OpenClaim := { program := "ytkginilghcepbaa", sum := "dbb988083630016e58aaedf2abe7b636e2665eb84fb9504592bc69039f544919", func := "loop.example/g00063/laws.FnExactFlutter", spec := "fnExactFlutter", apart := false, narrowed := true }
def FnExactFlutterUptoSaid : Prop := fnExactFlutterUptoRow.holds Try.pinned (OpenSpec.upto fnExactFlutterSpec)

/-- 'laws.FnGrid', WHERE WHAT IT READS IS OF BULK AT MOST 1048576: true; the input reads as it did. -/
def fnGridUptoRow : OpenClaim := { program := "ytkginilghcepbaa", sum := "dbb988083630016e58aaedf2abe7b636e2665eb84fb9504592bc69039f544919", func := "loop.example/g00063/laws.FnGrid", spec := "fnGrid", apart := false, narrowed := true }
def FnGridUptoSaid : Prop := fnGridUptoRow.holds Try.pinned (OpenSpec.upto fnGridSpec)

/-- 'laws.FnMeans', WHERE WHAT IT READS IS OF BULK AT MOST 1048576: true; the input reads as it did. -/
def fnMeansUptoRow : OpenClaim := { program := "ytkginilghcepbaa", sum := "dbb988083630016e58aaedf2abe7b636e2665eb84fb9504592bc69039f544919", func := "loop.example/g00063/laws.FnMeans", spec := "fnMeans", inPlace := ["math.Float64frombits"], unfollowed := true, recurses := true, apart := false, narrowed := true }
def FnMeansUptoSaid : Prop := fnMeansUptoRow.holds Try.pinned (OpenSpec.upto fnMeansSpec)

/-- 'laws.FnMoments', WHERE WHAT IT READS IS OF BULK AT MOST 1048576: true; the input reads as it did. -/
def fnMomentsUptoRow : OpenClaim := { program := "ytkginilghcepbaa", sum := "dbb988083630016e58aaedf2abe7b636e2665eb84fb9504592bc69039f544919", func := "loop.example/g00063/laws.FnMoments", spec := "fnMoments", apart := false, narrowed := true }
def FnMomentsUptoSaid : Prop := fnMomentsUptoRow.holds Try.pinned (OpenSpec.upto fnMomentsSpec)

/-- 'laws.FnExactFirstOver', WHERE WHAT IT READS IS OF BULK AT MOST 1048576: true; the input reads as it did. -/
def fnExactFirstOverUptoRow : OpenClaim := { program := "ytkginilghcepbaa", sum := "dbb988083630016e58aaedf2abe7b636e2665eb84fb9504592bc69039f544919", func := "loop.example/g00063/laws.FnExactFirstOver", spec := "fnExactFirstOver", unfollowed := true, recurses := true, apart := false, narrowed := true }
def FnExactFirstOverUptoSaid : Prop := fnExactFirstOverUptoRow.holds Try.pinned (OpenSpec.upto fnExactFirstOverSpec)

/-- 'laws.FnAir', WHERE WHAT IT READS IS OF BULK AT MOST 1048576: true; the input reads as it did. -/
def fnAirUptoRow : OpenClaim := { program := "ytkginilghcepbaa", sum := "dbb988083630016e58aaedf2abe7b636e2665eb84fb9504592bc69039f544919", func := "loop.example/g00063/laws.FnAir", spec := "fnAir", apart := false, narrowed := true }
def FnAirUptoSaid : Prop := fnAirUptoRow.holds Try.pinned (OpenSpec.upto fnAirSpec)

/-- 'laws.FnFlown', WHERE WHAT IT READS IS OF BULK AT MOST 1048576: true; the input reads as it did. -/
def fnFlownUptoRow : OpenClaim := { program := "ytkginilghcepbaa", sum := "dbb988083630016e58aaedf2abe7b636e2665eb84fb9504592bc69039f544919", func := "loop.example/g00063/laws.FnFlown", spec := "fnFlown", unfollowed := true, recurses := true, apart := false, narrowed := true }
def FnFlownUptoSaid : Prop := fnFlownUptoRow.holds Try.pinned (OpenSpec.upto fnFlownSpec)

end Rows
end Go.Proofs.Ytkginilghcepbaa
