/-
  No cell of these rows narrows 'for every input' (looked for: loops, veiled, ifaces, maps, wideKeys, modest, calm, conditions, laid).
  DERIVED. THE GIVEN ROWS OF THIS SEAT. 11 by the template 'for every input the law returns true; each argument reads behind the call as it read before'; 0 by the template 'total and deterministic' (their statements: YtfopdbdamkfglaaTotals.lean).
  GIVEN WITH THE SEED: the statements are not yours to turn. If you find one false, say at which input.
  Laid BY PROGRAM, IN A SANDBOX (cutbox-rows.mjs): the forced cells as the released guide's own fill.sh prints them over the translation fa7159f99d55dc49… (all of the seat's roots in one cut). By AI agents, Wed Nov 11 2026. No macro, syntax, notation, axiom, sorry.
-/
import Derived.Test.YtfopdbdamkfglaaChecked
import GoSem.Claim
import GoSem.ClaimJoined
import GoSem.ClaimMapViews
import Derived.JoinedTies
import Derived.KernelRfl
namespace Go.Proofs.Ytfopdbdamkfglaa
/- THE CELL 'sum', in the pinned program and in every row, IS THE sha256 OF THE DUMP (.gsa) THAT YtfopdbdamkfglaaProg.lean LOADS. Nothing in Lean hashes anything: it is a label: what it is worth is what the hold of that sum in a sandbox is worth. -/
noncomputable def Try.pinned : Pinned := { name := "ytfopdbdamkfglaa", sum := "fa7159f99d55dc49650e9db8dd9c4ae228584d05443bbab9f9e31e9f5bbdf9dd", checked := Try.checked }
namespace Rows
def none {H : Type} : Left H := { results := [], args := [] }

/-- 'laws.FnExactMeanOf': WHATEVER THE INPUT: true; the input reads as it did. -/
def fnExactMeanOfSpec : ChangeSpec := { name := "fnExactMeanOf", fn := fun _ => fun
  | [d] => { results := [.lit (.bool true)], args := [d] }
  | _ => none }
def fnExactMeanOfRow : OpenClaim := { program := "ytfopdbdamkfglaa", sum := "fa7159f99d55dc49650e9db8dd9c4ae228584d05443bbab9f9e31e9f5bbdf9dd", func := "loop.example/g00063/laws.FnExactMeanOf", spec := "fnExactMeanOf", apart := false }
def FnExactMeanOfSaid : Prop := fnExactMeanOfRow.holds Try.pinned (OpenSpec.ofChange fnExactMeanOfSpec)

/-- ITS FALSE NEIGHBOUR: 'it returns false'. Refute it at one input. -/
def fnExactMeanOfWrong : ChangeSpec := { name := "fnExactMeanOf", fn := fun _ => fun
  | [d] => { results := [.lit (.bool false)], args := [d] }
  | _ => none }
def FnExactMeanOfWrongFalsely : Prop := fnExactMeanOfRow.holds Try.pinned (OpenSpec.ofChange fnExactMeanOfWrong)

/-- 'laws.FnExactPoly': WHATEVER THE INPUT: true; the input reads as it did. -/
def fnExactPolySpec : ChangeSpec := { name := "fnExactPoly", fn := fun _ => fun
  | [d1, d2] => { results := [.lit (.bool true)], args := [d1, d2] }
  | _ => none }
def fnExactPolyRow : OpenClaim := { program := "ytfopdbdamkfglaa", sum := "fa7159f99d55dc49650e9db8dd9c4ae228584d05443bbab9f9e31e9f5bbdf9dd", func := "loop.example/g00063/laws.FnExactPoly", spec := "fnExactPoly", apart := false }
def FnExactPolySaid : Prop := fnExactPolyRow.holds Try.pinned (OpenSpec.ofChange fnExactPolySpec)

/-- ITS FALSE NEIGHBOUR: 'it returns false'. Refute it at one input. -/
def fnExactPolyWrong : ChangeSpec := { name := "fnExactPoly", fn := fun _ => fun
  | [d1, d2] => { results := [.lit (.bool false)], args := [d1, d2] }
  | _ => none }
def FnExactPolyWrongFalsely : Prop := fnExactPolyRow.holds Try.pinned (OpenSpec.ofChange fnExactPolyWrong)

/-- 'laws.FnExactDamped': WHATEVER THE INPUT: true; the input reads as it did. -/
def fnExactDampedSpec : ChangeSpec := { name := "fnExactDamped", fn := fun _ => fun
  | [d] => { results := [.lit (.bool true)], args := [d] }
  | _ => none }
def fnExactDampedRow : OpenClaim := { program := "ytfopdbdamkfglaa", sum := "fa7159f99d55dc49650e9db8dd9c4ae228584d05443bbab9f9e31e9f5bbdf9dd", func := "loop.example/g00063/laws.FnExactDamped", spec := "fnExactDamped", apart := false }
def FnExactDampedSaid : Prop := fnExactDampedRow.holds Try.pinned (OpenSpec.ofChange fnExactDampedSpec)

/-- ITS FALSE NEIGHBOUR: 'it returns false'. Refute it at one input. -/
def fnExactDampedWrong : ChangeSpec := { name := "fnExactDamped", fn := fun _ => fun
  | [d] => { results := [.lit (.bool false)], args := [d] }
  | _ => none }
def FnExactDampedWrongFalsely : Prop := fnExactDampedRow.holds Try.pinned (OpenSpec.ofChange fnExactDampedWrong)

/-- 'laws.FnExactSteps4': WHATEVER THE INPUT: true; the input reads as it did. -/
def fnExactSteps4Spec : ChangeSpec := { name := "fnExactSteps4", fn := fun _ => fun
  | [d1, d2] => { results := [.lit (.bool true)], args := [d1, d2] }
  | _ => none }
def fnExactSteps4Row : OpenClaim := { program := "ytfopdbdamkfglaa", sum := "fa7159f99d55dc49650e9db8dd9c4ae228584d05443bbab9f9e31e9f5bbdf9dd", func := "loop.example/g00063/laws.FnExactSteps4", spec := "fnExactSteps4", apart := false }
def FnExactSteps4Said : Prop := fnExactSteps4Row.holds Try.pinned (OpenSpec.ofChange fnExactSteps4Spec)

/-- ITS FALSE NEIGHBOUR: 'it returns false'. Refute it at one input. -/
def fnExactSteps4Wrong : ChangeSpec := { name := "fnExactSteps4", fn := fun _ => fun
  | [d1, d2] => { results := [.lit (.bool false)], args := [d1, d2] }
  | _ => none }
def FnExactSteps4WrongFalsely : Prop := fnExactSteps4Row.holds Try.pinned (OpenSpec.ofChange fnExactSteps4Wrong)

/-- 'laws.FnExactSmooth': WHATEVER THE INPUT: true; the input reads as it did. -/
def fnExactSmoothSpec : ChangeSpec := { name := "fnExactSmooth", fn := fun _ => fun
  | [d1, d2] => { results := [.lit (.bool true)], args := [d1, d2] }
  | _ => none }
def fnExactSmoothRow : OpenClaim := { program := "ytfopdbdamkfglaa", sum := "fa7159f99d55dc49650e9db8dd9c4ae228584d05443bbab9f9e31e9f5bbdf9dd", func := "loop.example/g00063/laws.FnExactSmooth", spec := "fnExactSmooth", inPlace := ["math.Float64frombits"], unfollowed := true, recurses := true, apart := false }
def FnExactSmoothSaid : Prop := fnExactSmoothRow.holds Try.pinned (OpenSpec.ofChange fnExactSmoothSpec)

/-- ITS FALSE NEIGHBOUR: 'it returns false'. Refute it at one input. -/
def fnExactSmoothWrong : ChangeSpec := { name := "fnExactSmooth", fn := fun _ => fun
  | [d1, d2] => { results := [.lit (.bool false)], args := [d1, d2] }
  | _ => none }
def FnExactSmoothWrongFalsely : Prop := fnExactSmoothRow.holds Try.pinned (OpenSpec.ofChange fnExactSmoothWrong)

/-- 'laws.FnExactFromRoots': WHATEVER THE INPUT: true; the input reads as it did. -/
def fnExactFromRootsSpec : ChangeSpec := { name := "fnExactFromRoots", fn := fun _ => fun
  | [d] => { results := [.lit (.bool true)], args := [d] }
  | _ => none }
def fnExactFromRootsRow : OpenClaim := { program := "ytfopdbdamkfglaa", sum := "fa7159f99d55dc49650e9db8dd9c4ae228584d05443bbab9f9e31e9f5bbdf9dd", func := "loop.example/g00063/laws.FnExactFromRoots", spec := "fnExactFromRoots", apart := false }
def FnExactFromRootsSaid : Prop := fnExactFromRootsRow.holds Try.pinned (OpenSpec.ofChange fnExactFromRootsSpec)

/-- ITS FALSE NEIGHBOUR: 'it returns false'. Refute it at one input. -/
def fnExactFromRootsWrong : ChangeSpec := { name := "fnExactFromRoots", fn := fun _ => fun
  | [d] => { results := [.lit (.bool false)], args := [d] }
  | _ => none }
def FnExactFromRootsWrongFalsely : Prop := fnExactFromRootsRow.holds Try.pinned (OpenSpec.ofChange fnExactFromRootsWrong)

/-- 'laws.FnExactFly': WHATEVER THE INPUT: true; the input reads as it did. -/
def fnExactFlySpec : ChangeSpec := { name := "fnExactFly", fn := fun _ => fun
  | [d1, d2, d3, d4] => { results := [.lit (.bool true)], args := [d1, d2, d3, d4] }
  | _ => none }
def fnExactFlyRow : OpenClaim := { program := "ytfopdbdamkfglaa", sum := "fa7159f99d55dc49650e9db8dd9c4ae228584d05443bbab9f9e31e9f5bbdf9dd", func := "loop.example/g00063/laws.FnExactFly", spec := "fnExactFly", apart := false }
def FnExactFlySaid : Prop := fnExactFlyRow.holds Try.pinned (OpenSpec.ofChange fnExactFlySpec)

/-- ITS FALSE NEIGHBOUR: 'it returns false'. Refute it at one input. -/
def fnExactFlyWrong : ChangeSpec := { name := "fnExactFly", fn := fun _ => fun
  | [d1, d2, d3, d4] => { results := [.lit (.bool false)], args := [d1, d2, d3, d4] }
  | _ => none }
def FnExactFlyWrongFalsely : Prop := fnExactFlyRow.holds Try.pinned (OpenSpec.ofChange fnExactFlyWrong)

/-- 'laws.FnQuotient': WHATEVER THE INPUT: true; the input reads as it did. -/
def fnQuotientSpec : ChangeSpec := { name := "fnQuotient", fn := fun _ => fun
  | [d] => { results := [.lit (.bool true)], args := [d] }
  | _ => none }
def fnQuotientRow : OpenClaim := { program := "ytfopdbdamkfglaa", sum := "fa7159f99d55dc49650e9db8dd9c4ae228584d05443bbab9f9e31e9f5bbdf9dd", func := "loop.example/g00063/laws.FnQuotient", spec := "fnQuotient", unfollowed := true, recurses := true, apart := false }
def FnQuotientSaid : Prop := fnQuotientRow.holds Try.pinned (OpenSpec.ofChange fnQuotientSpec)

/-- ITS FALSE NEIGHBOUR: 'it returns false'. Refute it at one input. -/
def fnQuotientWrong : ChangeSpec := { name := "fnQuotient", fn := fun _ => fun
  | [d] => { results := [.lit (.bool false)], args := [d] }
  | _ => none }
def FnQuotientWrongFalsely : Prop := fnQuotientRow.holds Try.pinned (OpenSpec.ofChange fnQuotientWrong)

/-- 'laws.FnMeans': WHATEVER THE INPUT: true; the input reads as it did. -/
def fnMeansSpec : ChangeSpec := { name := "fnMeans", fn := fun _ => fun
  | [d] => { results := [.lit (.bool true)], args := [d] }
  | _ => none }
def fnMeansRow : OpenClaim := { program := "ytfopdbdamkfglaa", sum := "fa7159f99d55dc49650e9db8dd9c4ae228584d05443bbab9f9e31e9f5bbdf9dd", func := "loop.example/g00063/laws.FnMeans", spec := "fnMeans", inPlace := ["math.Float64frombits"], unfollowed := true, recurses := true, apart := false }
def FnMeansSaid : Prop := fnMeansRow.holds Try.pinned (OpenSpec.ofChange fnMeansSpec)

/-- ITS FALSE NEIGHBOUR: 'it returns false'. Refute it at one input. -/
def fnMeansWrong : ChangeSpec := { name := "fnMeans", fn := fun _ => fun
  | [d] => { results := [.lit (.bool false)], args := [d] }
  | _ => none }
def FnMeansWrongFalsely : Prop := fnMeansRow.holds Try.pinned (OpenSpec.ofChange fnMeansWrong)

/-- 'laws.FnSizes': WHATEVER THE INPUT: true; the input reads as it did. -/
def fnSizesSpec : ChangeSpec := { name := "fnSizes", fn := fun _ => fun
  | [d] => { results := [.lit (.bool true)], args := [d] }
  | _ => none }
def fnSizesRow : OpenClaim := { program := "ytfopdbdamkfglaa", sum := "fa7159f99d55dc49650e9db8dd9c4ae228584d05443bbab9f9e31e9f5bbdf9dd", func := "loop.example/g00063/laws.FnSizes", spec := "fnSizes", apart := false }
def FnSizesSaid : Prop := fnSizesRow.holds Try.pinned (OpenSpec.ofChange fnSizesSpec)

/-- ITS FALSE NEIGHBOUR: 'it returns false'. Refute it at one input. -/
def fnSizesWrong : ChangeSpec := { name := "fnSizes", fn := fun _ => fun
  | [d] => { results := [.lit (.bool false)], args := [d] }
  | _ => none }
def FnSizesWrongFalsely : Prop := fnSizesRow.holds Try.pinned (OpenSpec.ofChange fnSizesWrong)

/-- 'laws.FnFlown': WHATEVER THE INPUT: true; the input reads as it did. -/
def fnFlownSpec : ChangeSpec := { name := "fnFlown", fn := fun _ => fun
  | [d] => { results := [.lit (.bool true)], args := [d] }
  | _ => none }
def fnFlownRow : OpenClaim := { program := "ytfopdbdamkfglaa", sum := "fa7159f99d55dc49650e9db8dd9c4ae228584d05443bbab9f9e31e9f5bbdf9dd", func := "loop.example/g00063/laws.FnFlown", spec := "fnFlown", unfollowed := true, recurses := true, apart := false }
def FnFlownSaid : Prop := fnFlownRow.holds Try.pinned (OpenSpec.ofChange fnFlownSpec)

/-- ITS FALSE NEIGHBOUR: 'it returns false'. Refute it at one input. -/
def fnFlownWrong : ChangeSpec := { name := "fnFlown", fn := fun _ => fun
  | [d] => { results := [.lit (.bool false)], args := [d] }
  | _ => none }
def FnFlownWrongFalsely : Prop := fnFlownRow.holds Try.pinned (OpenSpec.ofChange fnFlownWrong)

/- THE SECOND FORM. 'bulk': how many values and letters a reading holds, each counted each time it is reached (what is shared counts as often as it is met; a slice's spare places count too). A statement '..UptoSaid' is the law's where the arguments, and the package variables that the reading takes, are together of bulk at most 1048576: NARROWER than '..Said'. Prove '..Said' where nothing that the law and all that it calls make is longer than what came in: it says more and counts as full. Else prove '..UptoSaid'. A law counts once. -/
mutual
def uptoBulk {H : Type} : DataW H → Nat
  | .lit (.string bytes) => bytes.length + 1
  | .lit _ => 1
  | .nil => 1
  | .ptr d => uptoBulk d + 1
  | .slice elems spare => uptoBulkAll elems + uptoBulkAll spare + 1
  | .agg parts => uptoBulkAll parts + 1
  | .iface _ d => uptoBulk d + 1
  | .map entries => uptoBulkEntries entries + 1
  | .held _ => 1
def uptoBulkAll {H : Type} : List (DataW H) → Nat
  | [] => 0
  | d :: r => uptoBulk d + uptoBulkAll r
def uptoBulkEntries {H : Type} : List (Lit × DataW H) → Nat
  | [] => 0
  | x :: r => uptoBulkEntry x + uptoBulkEntries r
def uptoBulkEntry {H : Type} : Lit × DataW H → Nat
  | (.string bytes, d) => bytes.length + uptoBulk d + 1
  | (_, d) => uptoBulk d + 1
 end
def uptoSmall : (H : Type) → List (DataW H) → Bool := fun _ ds => decide (uptoBulkAll ds ≤ 1048576)
def OpenSpec.upto (s : _root_.Go.ChangeSpec) : _root_.Go.OpenSpec := { _root_.Go.OpenSpec.ofChange s with cond := some uptoSmall }

/-- 'laws.FnExactMeanOf', WHERE WHAT IT READS IS OF BULK AT MOST 1048576: true; the input reads as it did. -/
def fnExactMeanOfUptoRow : OpenClaim := { program := "ytfopdbdamkfglaa", sum := "fa7159f99d55dc49650e9db8dd9c4ae228584d05443bbab9f9e31e9f5bbdf9dd", func := "loop.example/g00063/laws.FnExactMeanOf", spec := "fnExactMeanOf", apart := false, narrowed := true }
def FnExactMeanOfUptoSaid : Prop := fnExactMeanOfUptoRow.holds Try.pinned (OpenSpec.upto fnExactMeanOfSpec)

/-- 'laws.FnExactPoly', WHERE WHAT IT READS IS OF BULK AT MOST 1048576: true; the input reads as it did. -/
def fnExactPolyUptoRow : OpenClaim := { program := "ytfopdbdamkfglaa", sum := "fa7159f99d55dc49650e9db8dd9c4ae228584d05443bbab9f9e31e9f5bbdf9dd", func := "loop.example/g00063/laws.FnExactPoly", spec := "fnExactPoly", apart := false, narrowed := true }
def FnExactPolyUptoSaid : Prop := fnExactPolyUptoRow.holds Try.pinned (OpenSpec.upto fnExactPolySpec)

/-- 'laws.FnExactDamped', WHERE WHAT IT READS IS OF BULK AT MOST 1048576: true; the input reads as it did. -/
def fnExactDampedUptoRow : OpenClaim := { program := "ytfopdbdamkfglaa", sum := "fa7159f99d55dc49650e9db8dd9c4ae228584d05443bbab9f9e31e9f5bbdf9dd", func := "loop.example/g00063/laws.FnExactDamped", spec := "fnExactDamped", apart := false, narrowed := true }
def FnExactDampedUptoSaid : Prop := fnExactDampedUptoRow.holds Try.pinned (OpenSpec.upto fnExactDampedSpec)

/-- 'laws.FnExactSteps4', WHERE WHAT IT READS IS OF BULK AT MOST 1048576: true; the input reads as it did. -/
def fnExactSteps4UptoRow : OpenClaim := { program := "ytfopdbdamkfglaa", sum := "fa7159f99d55dc49650e9db8dd9c4ae228584d05443bbab9f9e31e9f5bbdf9dd", func := "loop.example/g00063/laws.FnExactSteps4", spec := "fnExactSteps4", apart := false, narrowed := true }
def FnExactSteps4UptoSaid : Prop := fnExactSteps4UptoRow.holds Try.pinned (OpenSpec.upto fnExactSteps4Spec)

/-- 'laws.FnExactSmooth', WHERE WHAT IT READS IS OF BULK AT MOST 1048576: true; the input reads as it did. -/
def fnExactSmoothUptoRow : OpenClaim := { program := "ytfopdbdamkfglaa", sum := "fa7159f99d55dc49650e9db8dd9c4ae228584d05443bbab9f9e31e9f5bbdf9dd", func := "loop.example/g00063/laws.FnExactSmooth", spec := "fnExactSmooth", inPlace := ["math.Float64frombits"], unfollowed := true, recurses := true, apart := false, narrowed := true }
def FnExactSmoothUptoSaid : Prop := fnExactSmoothUptoRow.holds Try.pinned (OpenSpec.upto fnExactSmoothSpec)

/-- 'laws.FnExactFromRoots', WHERE WHAT IT READS IS OF BULK AT MOST 1048576: true; the input reads as it did. -/
def fnExactFromRootsUptoRow : OpenClaim := { program := "ytfopdbdamkfglaa", sum := "fa7159f99d55dc49650e9db8dd9c4ae228584d05443bbab9f9e31e9f5bbdf9dd", func := "loop.example/g00063/laws.FnExactFromRoots", spec := "fnExactFromRoots", apart := false, narrowed := true }
def FnExactFromRootsUptoSaid : Prop := fnExactFromRootsUptoRow.holds Try.pinned (OpenSpec.upto fnExactFromRootsSpec)

/-- 'laws.FnExactFly', WHERE WHAT IT READS IS OF BULK AT MOST 1048576: true; the input reads as it did. -/
def fnExactFlyUptoRow : OpenClaim := { program := "ytfopdbdamkfglaa", sum := "fa7159f99d55dc49650e9db8dd9c4ae228584d05443bbab9f9e31e9f5bbdf9dd", func := "loop.example/g00063/laws.FnExactFly", spec := "fnExactFly", apart := false, narrowed := true }
def FnExactFlyUptoSaid : Prop := fnExactFlyUptoRow.holds Try.pinned (OpenSpec.upto fnExactFlySpec)

/-- 'laws.FnQuotient', WHERE WHAT IT READS IS OF BULK AT MOST 1048576: true; the input reads as it did. -/
def fnQuotientUptoRow : OpenClaim := { program := "ytfopdbdamkfglaa", sum := "fa7159f99d55dc49650e9db8dd9c4ae228584d05443bbab9f9e31e9f5bbdf9dd", func := "loop.example/g00063/laws.FnQuotient", spec := "fnQuotient", unfollowed := true, recurses := true, apart := false, narrowed := true }
def FnQuotientUptoSaid : Prop := fnQuotientUptoRow.holds Try.pinned (OpenSpec.upto fnQuotientSpec)

/-- 'laws.FnMeans', WHERE WHAT IT READS IS OF BULK AT MOST 1048576: true; the input reads as it did. -/
def fnMeansUptoRow : OpenClaim := { program := "ytfopdbdamkfglaa", sum := "fa7159f99d55dc49650e9db8dd9c4ae228584d05443bbab9f9e31e9f5bbdf9dd", func := "loop.example/g00063/laws.FnMeans", spec := "fnMeans", inPlace := ["math.Float64frombits"], unfollowed := true, recurses := true, apart := false, narrowed := true }
def FnMeansUptoSaid : Prop := fnMeansUptoRow.holds Try.pinned (OpenSpec.upto fnMeansSpec)

/-- 'laws.FnSizes', WHERE WHAT IT READS IS OF BULK AT MOST 1048576: true; the input reads as it did. -/
def fnSizesUptoRow : OpenClaim := { program := "ytfopdbdamkfglaa", sum := "fa7159f99d55dc49650e9db8dd9c4ae228584d05443bbab9f9e31e9f5bbdf9dd", func := "loop.example/g00063/laws.FnSizes", spec := "fnSizes", apart := false, narrowed := true }
def FnSizesUptoSaid : Prop := fnSizesUptoRow.holds Try.pinned (OpenSpec.upto fnSizesSpec)

/-- 'laws.FnFlown', WHERE WHAT IT READS IS OF BULK AT MOST 1048576: true; the input reads as it did. -/
def fnFlownUptoRow : OpenClaim := { program := "ytfopdbdamkfglaa", sum := "fa7159f99d55dc49650e9db8dd9c4ae228584d05443bbab9f9e31e9f5bbdf9dd", func := "loop.example/g00063/laws.FnFlown", spec := "fnFlown", unfollowed := true, recurses := true, apart := false, narrowed := true }
def FnFlownUptoSaid : Prop := fnFlownUptoRow.holds Try.pinned (OpenSpec.upto fnFlownSpec)

end Rows
end Go.Proofs.Ytfopdbdamkfglaa
