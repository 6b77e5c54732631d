/-
  No cell of these rows narrows 'for every input' (looked for: loops, veiled, ifaces, maps, wideKeys, modest, calm, conditions, laid).
  DERIVED. THE GIVEN ROWS OF THIS SEAT. 12 by the template 'for every input the law returns true; each argument reads behind the call as it read before'; 0 by the template 'total and deterministic' (their statements: YtddojikjiebbbaaTotals.lean).
  GIVEN WITH THE SEED: the statements are not yours to turn. If you find one false, say at which input.
  Laid BY PROGRAM, IN A SANDBOX (cutbox-rows.mjs): the forced cells as the released guide's own fill.sh prints them over the translation 58aeac6d57f2e16d… (all of the seat's roots in one cut). By AI agents, Wed Nov 11 2026. No macro, syntax, notation, axiom, sorry.
-/
import Derived.Test.YtddojikjiebbbaaChecked
import GoSem.Claim
import GoSem.ClaimJoined
import GoSem.ClaimMapViews
import Derived.JoinedTies
import Derived.KernelRfl
namespace Go.Proofs.Ytddojikjiebbbaa
/- THE CELL 'sum', in the pinned program and in every row, IS THE sha256 OF THE DUMP (.gsa) THAT YtddojikjiebbbaaProg.lean LOADS. Nothing in Lean hashes anything: it is a label: what it is worth is what the hold of that sum in a sandbox is worth. -/
noncomputable def Try.pinned : Pinned := { name := "ytddojikjiebbbaa", sum := "58aeac6d57f2e16dd5635522ffa09582b783fb5d59954c9841f892618bfb2421", checked := Try.checked }
namespace Rows
def none {H : Type} : Left H := { results := [], args := [] }

/-- 'laws.FnExactCxSame': WHATEVER THE INPUT: true; the input reads as it did. -/
def fnExactCxSameSpec : ChangeSpec := { name := "fnExactCxSame", fn := fun _ => fun
  | [d1, d2] => { results := [.lit (.bool true)], args := [d1, d2] }
  | _ => none }
def fnExactCxSameRow : OpenClaim := { program := "ytddojikjiebbbaa", sum := "58aeac6d57f2e16dd5635522ffa09582b783fb5d59954c9841f892618bfb2421", func := "loop.example/g00063/laws.FnExactCxSame", spec := "fnExactCxSame", apart := false }
def FnExactCxSameSaid : Prop := fnExactCxSameRow.holds Try.pinned (OpenSpec.ofChange fnExactCxSameSpec)

/-- ITS FALSE NEIGHBOUR: 'it returns false'. Refute it at one input. -/
def fnExactCxSameWrong : ChangeSpec := { name := "fnExactCxSame", fn := fun _ => fun
  | [d1, d2] => { results := [.lit (.bool false)], args := [d1, d2] }
  | _ => none }
def FnExactCxSameWrongFalsely : Prop := fnExactCxSameRow.holds Try.pinned (OpenSpec.ofChange fnExactCxSameWrong)

/-- 'laws.FnExactNear5': WHATEVER THE INPUT: true; the input reads as it did. -/
def fnExactNear5Spec : ChangeSpec := { name := "fnExactNear5", fn := fun _ => fun
  | [d1, d2, d3] => { results := [.lit (.bool true)], args := [d1, d2, d3] }
  | _ => none }
def fnExactNear5Row : OpenClaim := { program := "ytddojikjiebbbaa", sum := "58aeac6d57f2e16dd5635522ffa09582b783fb5d59954c9841f892618bfb2421", func := "loop.example/g00063/laws.FnExactNear5", spec := "fnExactNear5", apart := false }
def FnExactNear5Said : Prop := fnExactNear5Row.holds Try.pinned (OpenSpec.ofChange fnExactNear5Spec)

/-- ITS FALSE NEIGHBOUR: 'it returns false'. Refute it at one input. -/
def fnExactNear5Wrong : ChangeSpec := { name := "fnExactNear5", fn := fun _ => fun
  | [d1, d2, d3] => { results := [.lit (.bool false)], args := [d1, d2, d3] }
  | _ => none }
def FnExactNear5WrongFalsely : Prop := fnExactNear5Row.holds Try.pinned (OpenSpec.ofChange fnExactNear5Wrong)

/-- 'laws.FnExactCxAdd': WHATEVER THE INPUT: true; the input reads as it did. -/
def fnExactCxAddSpec : ChangeSpec := { name := "fnExactCxAdd", fn := fun _ => fun
  | [d1, d2] => { results := [.lit (.bool true)], args := [d1, d2] }
  | _ => none }
def fnExactCxAddRow : OpenClaim := { program := "ytddojikjiebbbaa", sum := "58aeac6d57f2e16dd5635522ffa09582b783fb5d59954c9841f892618bfb2421", func := "loop.example/g00063/laws.FnExactCxAdd", spec := "fnExactCxAdd", apart := false }
def FnExactCxAddSaid : Prop := fnExactCxAddRow.holds Try.pinned (OpenSpec.ofChange fnExactCxAddSpec)

/-- ITS FALSE NEIGHBOUR: 'it returns false'. Refute it at one input. -/
def fnExactCxAddWrong : ChangeSpec := { name := "fnExactCxAdd", fn := fun _ => fun
  | [d1, d2] => { results := [.lit (.bool false)], args := [d1, d2] }
  | _ => none }
def FnExactCxAddWrongFalsely : Prop := fnExactCxAddRow.holds Try.pinned (OpenSpec.ofChange fnExactCxAddWrong)

/-- 'laws.FnExactCxLess': WHATEVER THE INPUT: true; the input reads as it did. -/
def fnExactCxLessSpec : ChangeSpec := { name := "fnExactCxLess", fn := fun _ => fun
  | [d1, d2] => { results := [.lit (.bool true)], args := [d1, d2] }
  | _ => none }
def fnExactCxLessRow : OpenClaim := { program := "ytddojikjiebbbaa", sum := "58aeac6d57f2e16dd5635522ffa09582b783fb5d59954c9841f892618bfb2421", func := "loop.example/g00063/laws.FnExactCxLess", spec := "fnExactCxLess", apart := false }
def FnExactCxLessSaid : Prop := fnExactCxLessRow.holds Try.pinned (OpenSpec.ofChange fnExactCxLessSpec)

/-- ITS FALSE NEIGHBOUR: 'it returns false'. Refute it at one input. -/
def fnExactCxLessWrong : ChangeSpec := { name := "fnExactCxLess", fn := fun _ => fun
  | [d1, d2] => { results := [.lit (.bool false)], args := [d1, d2] }
  | _ => none }
def FnExactCxLessWrongFalsely : Prop := fnExactCxLessRow.holds Try.pinned (OpenSpec.ofChange fnExactCxLessWrong)

/-- 'laws.FnExactSharper': WHATEVER THE INPUT: true; the input reads as it did. -/
def fnExactSharperSpec : ChangeSpec := { name := "fnExactSharper", fn := fun _ => fun
  | [d] => { results := [.lit (.bool true)], args := [d] }
  | _ => none }
def fnExactSharperRow : OpenClaim := { program := "ytddojikjiebbbaa", sum := "58aeac6d57f2e16dd5635522ffa09582b783fb5d59954c9841f892618bfb2421", func := "loop.example/g00063/laws.FnExactSharper", spec := "fnExactSharper", apart := false }
def FnExactSharperSaid : Prop := fnExactSharperRow.holds Try.pinned (OpenSpec.ofChange fnExactSharperSpec)

/-- ITS FALSE NEIGHBOUR: 'it returns false'. Refute it at one input. -/
def fnExactSharperWrong : ChangeSpec := { name := "fnExactSharper", fn := fun _ => fun
  | [d] => { results := [.lit (.bool false)], args := [d] }
  | _ => none }
def FnExactSharperWrongFalsely : Prop := fnExactSharperRow.holds Try.pinned (OpenSpec.ofChange fnExactSharperWrong)

/-- 'laws.FnExactWider': WHATEVER THE INPUT: true; the input reads as it did. -/
def fnExactWiderSpec : ChangeSpec := { name := "fnExactWider", fn := fun _ => fun
  | [d] => { results := [.lit (.bool true)], args := [d] }
  | _ => none }
def fnExactWiderRow : OpenClaim := { program := "ytddojikjiebbbaa", sum := "58aeac6d57f2e16dd5635522ffa09582b783fb5d59954c9841f892618bfb2421", func := "loop.example/g00063/laws.FnExactWider", spec := "fnExactWider", apart := false }
def FnExactWiderSaid : Prop := fnExactWiderRow.holds Try.pinned (OpenSpec.ofChange fnExactWiderSpec)

/-- ITS FALSE NEIGHBOUR: 'it returns false'. Refute it at one input. -/
def fnExactWiderWrong : ChangeSpec := { name := "fnExactWider", fn := fun _ => fun
  | [d] => { results := [.lit (.bool false)], args := [d] }
  | _ => none }
def FnExactWiderWrongFalsely : Prop := fnExactWiderRow.holds Try.pinned (OpenSpec.ofChange fnExactWiderWrong)

/-- 'laws.FnExactCxTimes': WHATEVER THE INPUT: true; the input reads as it did. -/
def fnExactCxTimesSpec : ChangeSpec := { name := "fnExactCxTimes", fn := fun _ => fun
  | [d1, d2] => { results := [.lit (.bool true)], args := [d1, d2] }
  | _ => none }
def fnExactCxTimesRow : OpenClaim := { program := "ytddojikjiebbbaa", sum := "58aeac6d57f2e16dd5635522ffa09582b783fb5d59954c9841f892618bfb2421", func := "loop.example/g00063/laws.FnExactCxTimes", spec := "fnExactCxTimes", apart := false }
def FnExactCxTimesSaid : Prop := fnExactCxTimesRow.holds Try.pinned (OpenSpec.ofChange fnExactCxTimesSpec)

/-- ITS FALSE NEIGHBOUR: 'it returns false'. Refute it at one input. -/
def fnExactCxTimesWrong : ChangeSpec := { name := "fnExactCxTimes", fn := fun _ => fun
  | [d1, d2] => { results := [.lit (.bool false)], args := [d1, d2] }
  | _ => none }
def FnExactCxTimesWrongFalsely : Prop := fnExactCxTimesRow.holds Try.pinned (OpenSpec.ofChange fnExactCxTimesWrong)

/-- 'laws.FnExactFlutter': WHATEVER THE INPUT: true; the input reads as it did. -/
def fnExactFlutterSpec : ChangeSpec := { name := "fnExactFlutter", fn := fun _ => fun
  | [d1, d2, d3, d4] => { results := [.lit (.bool true)], args := [d1, d2, d3, d4] }
  | _ => none }
def fnExactFlutterRow : OpenClaim := { program := "ytddojikjiebbbaa", sum := "58aeac6d57f2e16dd5635522ffa09582b783fb5d59954c9841f892618bfb2421", func := "loop.example/g00063/laws.FnExactFlutter", spec := "fnExactFlutter", apart := false }
def FnExactFlutterSaid : Prop := fnExactFlutterRow.holds Try.pinned (OpenSpec.ofChange fnExactFlutterSpec)

/-- ITS FALSE NEIGHBOUR: 'it returns false'. Refute it at one input. -/
def fnExactFlutterWrong : ChangeSpec := { name := "fnExactFlutter", fn := fun _ => fun
  | [d1, d2, d3, d4] => { results := [.lit (.bool false)], args := [d1, d2, d3, d4] }
  | _ => none }
def FnExactFlutterWrongFalsely : Prop := fnExactFlutterRow.holds Try.pinned (OpenSpec.ofChange fnExactFlutterWrong)

/-- 'laws.FnExactStepOnce': WHATEVER THE INPUT: true; the input reads as it did. -/
def fnExactStepOnceSpec : ChangeSpec := { name := "fnExactStepOnce", fn := fun _ => fun
  | [d1, d2, d3, d4] => { results := [.lit (.bool true)], args := [d1, d2, d3, d4] }
  | _ => none }
def fnExactStepOnceRow : OpenClaim := { program := "ytddojikjiebbbaa", sum := "58aeac6d57f2e16dd5635522ffa09582b783fb5d59954c9841f892618bfb2421", func := "loop.example/g00063/laws.FnExactStepOnce", spec := "fnExactStepOnce", apart := false }
def FnExactStepOnceSaid : Prop := fnExactStepOnceRow.holds Try.pinned (OpenSpec.ofChange fnExactStepOnceSpec)

/-- ITS FALSE NEIGHBOUR: 'it returns false'. Refute it at one input. -/
def fnExactStepOnceWrong : ChangeSpec := { name := "fnExactStepOnce", fn := fun _ => fun
  | [d1, d2, d3, d4] => { results := [.lit (.bool false)], args := [d1, d2, d3, d4] }
  | _ => none }
def FnExactStepOnceWrongFalsely : Prop := fnExactStepOnceRow.holds Try.pinned (OpenSpec.ofChange fnExactStepOnceWrong)

/-- 'laws.FnExactLoad5': WHATEVER THE INPUT: true; the input reads as it did. -/
def fnExactLoad5Spec : ChangeSpec := { name := "fnExactLoad5", fn := fun _ => fun
  | [d1, d2] => { results := [.lit (.bool true)], args := [d1, d2] }
  | _ => none }
def fnExactLoad5Row : OpenClaim := { program := "ytddojikjiebbbaa", sum := "58aeac6d57f2e16dd5635522ffa09582b783fb5d59954c9841f892618bfb2421", func := "loop.example/g00063/laws.FnExactLoad5", spec := "fnExactLoad5", unfollowed := true, recurses := true, apart := false }
def FnExactLoad5Said : Prop := fnExactLoad5Row.holds Try.pinned (OpenSpec.ofChange fnExactLoad5Spec)

/-- ITS FALSE NEIGHBOUR: 'it returns false'. Refute it at one input. -/
def fnExactLoad5Wrong : ChangeSpec := { name := "fnExactLoad5", fn := fun _ => fun
  | [d1, d2] => { results := [.lit (.bool false)], args := [d1, d2] }
  | _ => none }
def FnExactLoad5WrongFalsely : Prop := fnExactLoad5Row.holds Try.pinned (OpenSpec.ofChange fnExactLoad5Wrong)

/-- 'laws.FnExactCxOver': WHATEVER THE INPUT: true; the input reads as it did. -/
def fnExactCxOverSpec : ChangeSpec := { name := "fnExactCxOver", fn := fun _ => fun
  | [d1, d2] => { results := [.lit (.bool true)], args := [d1, d2] }
  | _ => none }
def fnExactCxOverRow : OpenClaim := { program := "ytddojikjiebbbaa", sum := "58aeac6d57f2e16dd5635522ffa09582b783fb5d59954c9841f892618bfb2421", func := "loop.example/g00063/laws.FnExactCxOver", spec := "fnExactCxOver", unfollowed := true, recurses := true, apart := false }
def FnExactCxOverSaid : Prop := fnExactCxOverRow.holds Try.pinned (OpenSpec.ofChange fnExactCxOverSpec)

/-- ITS FALSE NEIGHBOUR: 'it returns false'. Refute it at one input. -/
def fnExactCxOverWrong : ChangeSpec := { name := "fnExactCxOver", fn := fun _ => fun
  | [d1, d2] => { results := [.lit (.bool false)], args := [d1, d2] }
  | _ => none }
def FnExactCxOverWrongFalsely : Prop := fnExactCxOverRow.holds Try.pinned (OpenSpec.ofChange fnExactCxOverWrong)

/-- 'laws.FnExactFirstOver': WHATEVER THE INPUT: true; the input reads as it did. -/
def fnExactFirstOverSpec : ChangeSpec := { name := "fnExactFirstOver", fn := fun _ => fun
  | [d1, d2] => { results := [.lit (.bool true)], args := [d1, d2] }
  | _ => none }
def fnExactFirstOverRow : OpenClaim := { program := "ytddojikjiebbbaa", sum := "58aeac6d57f2e16dd5635522ffa09582b783fb5d59954c9841f892618bfb2421", func := "loop.example/g00063/laws.FnExactFirstOver", spec := "fnExactFirstOver", unfollowed := true, recurses := true, apart := false }
def FnExactFirstOverSaid : Prop := fnExactFirstOverRow.holds Try.pinned (OpenSpec.ofChange fnExactFirstOverSpec)

/-- ITS FALSE NEIGHBOUR: 'it returns false'. Refute it at one input. -/
def fnExactFirstOverWrong : ChangeSpec := { name := "fnExactFirstOver", fn := fun _ => fun
  | [d1, d2] => { results := [.lit (.bool false)], args := [d1, d2] }
  | _ => none }
def FnExactFirstOverWrongFalsely : Prop := fnExactFirstOverRow.holds Try.pinned (OpenSpec.ofChange fnExactFirstOverWrong)

/- THE SECOND FORM. 'bulk': how many values and letters a reading holds, each counted each time it is reached (what is shared counts as often as it is met; a slice's spare places count too). A statement '..UptoSaid' is the law's where the arguments, and the package variables that the reading takes, are together of bulk at most 1048576: NARROWER than '..Said'. Prove '..Said' where nothing that the law and all that it calls make is longer than what came in: it says more and counts as full. Else prove '..UptoSaid'. A law counts once. -/
mutual
def uptoBulk {H : Type} : DataW H → Nat
  | .lit (.string bytes) => bytes.length + 1
  | .lit _ => 1
  | .nil => 1
  | .ptr d => uptoBulk d + 1
  | .slice elems spare => uptoBulkAll elems + uptoBulkAll spare + 1
  | .agg parts => uptoBulkAll parts + 1
  | .iface _ d => uptoBulk d + 1
  | .map entries => uptoBulkEntries entries + 1
  | .held _ => 1
def uptoBulkAll {H : Type} : List (DataW H) → Nat
  | [] => 0
  | d :: r => uptoBulk d + uptoBulkAll r
def uptoBulkEntries {H : Type} : List (Lit × DataW H) → Nat
  | [] => 0
  | x :: r => uptoBulkEntry x + uptoBulkEntries r
def uptoBulkEntry {H : Type} : Lit × DataW H → Nat
  | (.string bytes, d) => bytes.length + uptoBulk d + 1
  | (_, d) => uptoBulk d + 1
 end
def uptoSmall : (H : Type) → List (DataW H) → Bool := fun _ ds => decide (uptoBulkAll ds ≤ 1048576)
def OpenSpec.upto (s : _root_.Go.ChangeSpec) : _root_.Go.OpenSpec := { _root_.Go.OpenSpec.ofChange s with cond := some uptoSmall }

/-- 'laws.FnExactCxSame', WHERE WHAT IT READS IS OF BULK AT MOST 1048576: true; the input reads as it did. -/
def fnExactCxSameUptoRow : OpenClaim := { program := "ytddojikjiebbbaa", sum := "58aeac6d57f2e16dd5635522ffa09582b783fb5d59954c9841f892618bfb2421", func := "loop.example/g00063/laws.FnExactCxSame", spec := "fnExactCxSame", apart := false, narrowed := true }
def FnExactCxSameUptoSaid : Prop := fnExactCxSameUptoRow.holds Try.pinned (OpenSpec.upto fnExactCxSameSpec)

/-- 'laws.FnExactNear5', WHERE WHAT IT READS IS OF BULK AT MOST 1048576: true; the input reads as it did. -/
def fnExactNear5UptoRow : OpenClaim := { program := "ytddojikjiebbbaa", sum := "58aeac6d57f2e16dd5635522ffa09582b783fb5d59954c9841f892618bfb2421", func := "loop.example/g00063/laws.FnExactNear5", spec := "fnExactNear5", apart := false, narrowed := true }
def FnExactNear5UptoSaid : Prop := fnExactNear5UptoRow.holds Try.pinned (OpenSpec.upto fnExactNear5Spec)

/-- 'laws.FnExactCxAdd', WHERE WHAT IT READS IS OF BULK AT MOST 1048576: true; the input reads as it did. -/
def fnExactCxAddUptoRow : OpenClaim := { program := "ytddojikjiebbbaa", sum := "58aeac6d57f2e16dd5635522ffa09582b783fb5d59954c9841f892618bfb2421", func := "loop.example/g00063/laws.FnExactCxAdd", spec := "fnExactCxAdd", apart := false, narrowed := true }
def FnExactCxAddUptoSaid : Prop := fnExactCxAddUptoRow.holds Try.pinned (OpenSpec.upto fnExactCxAddSpec)

/-- 'laws.FnExactCxLess', WHERE WHAT IT READS IS OF BULK AT MOST 1048576: true; the input reads as it did. -/
def fnExactCxLessUptoRow : OpenClaim := { program := "ytddojikjiebbbaa", sum := "58aeac6d57f2e16dd5635522ffa09582b783fb5d59954c9841f892618bfb2421", func := "loop.example/g00063/laws.FnExactCxLess", spec := "fnExactCxLess", apart := false, narrowed := true }
def FnExactCxLessUptoSaid : Prop := fnExactCxLessUptoRow.holds Try.pinned (OpenSpec.upto fnExactCxLessSpec)

/-- 'laws.FnExactSharper', WHERE WHAT IT READS IS OF BULK AT MOST 1048576: true; the input reads as it did. -/
def fnExactSharperUptoRow : OpenClaim := { program := "ytddojikjiebbbaa", sum := "58aeac6d57f2e16dd5635522ffa09582b783fb5d59954c9841f892618bfb2421", func := "loop.example/g00063/laws.FnExactSharper", spec := "fnExactSharper", apart := false, narrowed := true }
def FnExactSharperUptoSaid : Prop := fnExactSharperUptoRow.holds Try.pinned (OpenSpec.upto fnExactSharperSpec)

/-- 'laws.FnExactWider', WHERE WHAT IT READS IS OF BULK AT MOST 1048576: true; the input reads as it did. -/
def fnExactWiderUptoRow : OpenClaim := { program := "ytddojikjiebbbaa", sum := "58aeac6d57f2e16dd5635522ffa09582b783fb5d59954c9841f892618bfb2421", func := "loop.example/g00063/laws.FnExactWider", spec := "fnExactWider", apart := false, narrowed := true }
def FnExactWiderUptoSaid : Prop := fnExactWiderUptoRow.holds Try.pinned (OpenSpec.upto fnExactWiderSpec)

/-- 'laws.FnExactCxTimes', WHERE WHAT IT READS IS OF BULK AT MOST 1048576: true; the input reads as it did. -/
def fnExactCxTimesUptoRow : OpenClaim := { program := "ytddojikjiebbbaa", sum := "58aeac6d57f2e16dd5635522ffa09582b783fb5d59954c9841f892618bfb2421", func := "loop.example/g00063/laws.FnExactCxTimes", spec := "fnExactCxTimes", apart := false, narrowed := true }
def FnExactCxTimesUptoSaid : Prop := fnExactCxTimesUptoRow.holds Try.pinned (OpenSpec.upto fnExactCxTimesSpec)

/-- 'laws.FnExactFlutter', WHERE WHAT IT READS IS OF BULK AT MOST 1048576: true; the input reads as it did. -/
def fnExactFlutterUptoRow : OpenClaim := { program := "ytddojikjiebbbaa", sum := "58aeac6d57f2e16dd5635522ffa09582b783fb5d59954c9841f892618bfb2421", func := "loop.example/g00063/laws.FnExactFlutter", spec := "fnExactFlutter", apart := false, narrowed := true }
def FnExactFlutterUptoSaid : Prop := fnExactFlutterUptoRow.holds Try.pinned (OpenSpec.upto fnExactFlutterSpec)

/-- 'laws.FnExactStepOnce', WHERE WHAT IT READS IS OF BULK AT MOST 1048576: true; the input reads as it did. -/
def fnExactStepOnceUptoRow : OpenClaim := { program := "ytddojikjiebbbaa", sum := "58aeac6d57f2e16dd5635522ffa09582b783fb5d59954c9841f892618bfb2421", func := "loop.example/g00063/laws.FnExactStepOnce", spec := "fnExactStepOnce", apart := false, narrowed := true }
def FnExactStepOnceUptoSaid : Prop := fnExactStepOnceUptoRow.holds Try.pinned (OpenSpec.upto fnExactStepOnceSpec)

/-- 'laws.FnExactLoad5', WHERE WHAT IT READS IS OF BULK AT MOST 1048576: true; the input reads as it did. -/
def fnExactLoad5UptoRow : OpenClaim := { program := "ytddojikjiebbbaa", sum := "58aeac6d57f2e16dd5635522ffa09582b783fb5d59954c9841f892618bfb2421", func := "loop.example/g00063/laws.FnExactLoad5", spec := "fnExactLoad5", unfollowed := true, recurses := true, apart := false, narrowed := true }
def FnExactLoad5UptoSaid : Prop := fnExactLoad5UptoRow.holds Try.pinned (OpenSpec.upto fnExactLoad5Spec)

/-- 'laws.FnExactCxOver', WHERE WHAT IT READS IS OF BULK AT MOST 1048576: true; the input reads as it did. -/
def fnExactCxOverUptoRow : OpenClaim := { program := "ytddojikjiebbbaa", sum := "58aeac6d57f2e16dd5635522ffa09582b783fb5d59954c9841f892618bfb2421", func := "loop.example/g00063/laws.FnExactCxOver", spec := "fnExactCxOver", unfollowed := true, recurses := true, apart := false, narrowed := true }
def FnExactCxOverUptoSaid : Prop := fnExactCxOverUptoRow.holds Try.pinned (OpenSpec.upto fnExactCxOverSpec)

/-- 'laws.FnExactFirstOver', WHERE WHAT IT READS IS OF BULK AT MOST 1048576: true; the input reads as it did. -/
def fnExactFirstOverUptoRow : OpenClaim := { program := "ytddojikjiebbbaa", sum := "58aeac6d57f2e16dd5635522ffa09582b783fb5d59954c9841f892618bfb2421", func := "loop.example/g00063/laws.FnExactFirstOver", spec := "fnExactFirstOver", unfollowed := true, recurses := true, apart := false, narrowed := true }
def FnExactFirstOverUptoSaid : Prop := fnExactFirstOverUptoRow.holds Try.pinned (OpenSpec.upto fnExactFirstOverSpec)

end Rows
end Go.Proofs.Ytddojikjiebbbaa
