/-
  No cell of these rows narrows 'for every input' (looked for: loops, veiled, ifaces, maps, wideKeys, modest, calm, conditions, laid).
  DERIVED. THE GIVEN ROWS OF THIS SEAT. 4 by the template 'for every input the law returns true; each argument reads behind the call as it read before'; 0 by the template 'total and deterministic' (their statements: YteedbciobdcmaaaTotals.lean).
  GIVEN WITH THE SEED: the statements are not yours to turn. If you find one false, say at which input.
  Laid BY PROGRAM, IN A SANDBOX (cutbox-rows.mjs): the forced cells as the released guide's own fill.sh prints them over the translation ad5e9770ccafca90… (all of the seat's roots in one cut). By AI agents, Wed Nov 11 2026. No macro, syntax, notation, axiom, sorry.
-/
import Derived.Test.YteedbciobdcmaaaChecked
import GoSem.Claim
import GoSem.ClaimJoined
import GoSem.ClaimMapViews
import Derived.JoinedTies
import Derived.KernelRfl
namespace Go.Proofs.Yteedbciobdcmaaa
/- THE CELL 'sum', in the pinned program and in every row, IS THE sha256 OF THE DUMP (.gsa) THAT YteedbciobdcmaaaProg.lean LOADS. Nothing in Lean hashes anything: it is a label: what it is worth is what the hold of that sum in a sandbox is worth. -/
noncomputable def Try.pinned : Pinned := { name := "yteedbciobdcmaaa", sum := "ad5e9770ccafca90bf8190fa4d88b07ff62842ba9772e330863ac36b9af8bdce", checked := Try.checked }
namespace Rows
def none {H : Type} : Left H := { results := [], args := [] }

/-- 'laws.FnExactLeaves': WHATEVER THE INPUT: true; the input reads as it did. -/
def fnExactLeavesSpec : ChangeSpec := { name := "fnExactLeaves", fn := fun _ => fun
  | [d1, d2, d3, d4] => { results := [.lit (.bool true)], args := [d1, d2, d3, d4] }
  | _ => none }
def fnExactLeavesRow : OpenClaim := { program := "yteedbciobdcmaaa", sum := "ad5e9770ccafca90bf8190fa4d88b07ff62842ba9772e330863ac36b9af8bdce", func := "loop.example/g00063/laws.FnExactLeaves", spec := "fnExactLeaves", unfollowed := true, recurses := true, apart := false }
def FnExactLeavesSaid : Prop := fnExactLeavesRow.holds Try.pinned (OpenSpec.ofChange fnExactLeavesSpec)

/-- ITS FALSE NEIGHBOUR: 'it returns false'. Refute it at one input. -/
def fnExactLeavesWrong : ChangeSpec := { name := "fnExactLeaves", fn := fun _ => fun
  | [d1, d2, d3, d4] => { results := [.lit (.bool false)], args := [d1, d2, d3, d4] }
  | _ => none }
def FnExactLeavesWrongFalsely : Prop := fnExactLeavesRow.holds Try.pinned (OpenSpec.ofChange fnExactLeavesWrong)

/-- 'laws.FnExactOrder': WHATEVER THE INPUT: true; the input reads as it did. -/
def fnExactOrderSpec : ChangeSpec := { name := "fnExactOrder", fn := fun _ => fun
  | [d1, d2, d3, d4] => { results := [.lit (.bool true)], args := [d1, d2, d3, d4] }
  | _ => none }
def fnExactOrderRow : OpenClaim := { program := "yteedbciobdcmaaa", sum := "ad5e9770ccafca90bf8190fa4d88b07ff62842ba9772e330863ac36b9af8bdce", func := "loop.example/g00063/laws.FnExactOrder", spec := "fnExactOrder", unfollowed := true, recurses := true, apart := false }
def FnExactOrderSaid : Prop := fnExactOrderRow.holds Try.pinned (OpenSpec.ofChange fnExactOrderSpec)

/-- ITS FALSE NEIGHBOUR: 'it returns false'. Refute it at one input. -/
def fnExactOrderWrong : ChangeSpec := { name := "fnExactOrder", fn := fun _ => fun
  | [d1, d2, d3, d4] => { results := [.lit (.bool false)], args := [d1, d2, d3, d4] }
  | _ => none }
def FnExactOrderWrongFalsely : Prop := fnExactOrderRow.holds Try.pinned (OpenSpec.ofChange fnExactOrderWrong)

/-- 'laws.FnExactBurnt': WHATEVER THE INPUT: true; the input reads as it did. -/
def fnExactBurntSpec : ChangeSpec := { name := "fnExactBurnt", fn := fun _ => fun
  | [d1, d2] => { results := [.lit (.bool true)], args := [d1, d2] }
  | _ => none }
def fnExactBurntRow : OpenClaim := { program := "yteedbciobdcmaaa", sum := "ad5e9770ccafca90bf8190fa4d88b07ff62842ba9772e330863ac36b9af8bdce", func := "loop.example/g00063/laws.FnExactBurnt", spec := "fnExactBurnt", unfollowed := true, recurses := true, apart := false }
def FnExactBurntSaid : Prop := fnExactBurntRow.holds Try.pinned (OpenSpec.ofChange fnExactBurntSpec)

/-- ITS FALSE NEIGHBOUR: 'it returns false'. Refute it at one input. -/
def fnExactBurntWrong : ChangeSpec := { name := "fnExactBurnt", fn := fun _ => fun
  | [d1, d2] => { results := [.lit (.bool false)], args := [d1, d2] }
  | _ => none }
def FnExactBurntWrongFalsely : Prop := fnExactBurntRow.holds Try.pinned (OpenSpec.ofChange fnExactBurntWrong)

/-- 'laws.FnBurnt': WHATEVER THE INPUT: true; the input reads as it did. -/
def fnBurntSpec : ChangeSpec := { name := "fnBurnt", fn := fun _ => fun
  | [d] => { results := [.lit (.bool true)], args := [d] }
  | _ => none }
def fnBurntRow : OpenClaim := { program := "yteedbciobdcmaaa", sum := "ad5e9770ccafca90bf8190fa4d88b07ff62842ba9772e330863ac36b9af8bdce", func := "loop.example/g00063/laws.FnBurnt", spec := "fnBurnt", unfollowed := true, recurses := true, apart := false }
def FnBurntSaid : Prop := fnBurntRow.holds Try.pinned (OpenSpec.ofChange fnBurntSpec)

/-- ITS FALSE NEIGHBOUR: 'it returns false'. Refute it at one input. -/
def fnBurntWrong : ChangeSpec := { name := "fnBurnt", fn := fun _ => fun
  | [d] => { results := [.lit (.bool false)], args := [d] }
  | _ => none }
def FnBurntWrongFalsely : Prop := fnBurntRow.holds Try.pinned (OpenSpec.ofChange fnBurntWrong)

/- THE SECOND FORM. 'bulk': how many values and letters a reading holds, each counted each time it is reached (what is shared counts as often as it is met; a slice's spare places count too). A statement '..UptoSaid' is the law's where the arguments, and the package variables that the reading takes, are together of bulk at most 1048576: NARROWER than '..Said'. Prove '..Said' where nothing that the law and all that it calls make is longer than what came in: it says more and counts as full. Else prove '..UptoSaid'. A law counts once. -/
mutual
def uptoBulk {H : Type} : DataW H → Nat
  | .lit (.string bytes) => bytes.length + 1
  | .lit _ => 1
  | .nil => 1
  | .ptr d => uptoBulk d + 1
  | .slice elems spare => uptoBulkAll elems + uptoBulkAll spare + 1
  | .agg parts => uptoBulkAll parts + 1
  | .iface _ d => uptoBulk d + 1
  | .map entries => uptoBulkEntries entries + 1
  | .held _ => 1
def uptoBulkAll {H : Type} : List (DataW H) → Nat
  | [] => 0
  | d :: r => uptoBulk d + uptoBulkAll r
def uptoBulkEntries {H : Type} : List (Lit × DataW H) → Nat
  | [] => 0
  | x :: r => uptoBulkEntry x + uptoBulkEntries r
def uptoBulkEntry {H : Type} : Lit × DataW H → Nat
  | (.string bytes, d) => bytes.length + uptoBulk d + 1
  | (_, d) => uptoBulk d + 1
 end
def uptoSmall : (H : Type) → List (DataW H) → Bool := fun _ ds => decide (uptoBulkAll ds ≤ 1048576)
def OpenSpec.upto (s : _root_.Go.ChangeSpec) : _root_.Go.OpenSpec := { _root_.Go.OpenSpec.ofChange s with cond := some uptoSmall }

/-- 'laws.FnExactLeaves', WHERE WHAT IT READS IS OF BULK AT MOST 1048576: true; the input reads as it did. -/
def fnExactLeavesUptoRow : OpenClaim := { program := "yteedbciobdcmaaa", sum := "ad5e9770ccafca90bf8190fa4d88b07ff62842ba9772e330863ac36b9af8bdce", func := "loop.example/g00063/laws.FnExactLeaves", spec := "fnExactLeaves", unfollowed := true, recurses := true, apart := false, narrowed := true }
def FnExactLeavesUptoSaid : Prop := fnExactLeavesUptoRow.holds Try.pinned (OpenSpec.upto fnExactLeavesSpec)

/-- 'laws.FnExactOrder', WHERE WHAT IT READS IS OF BULK AT MOST 1048576: true; the input reads as it did. -/
def fnExactOrderUptoRow : OpenClaim := { program := "yteedbciobdcmaaa", sum := "ad5e9770ccafca90bf8190fa4d88b07ff62842ba9772e330863ac36b9af8bdce", func := "loop.example/g00063/laws.FnExactOrder", spec := "fnExactOrder", unfollowed := true, recurses := true, apart := false, narrowed := true }
def FnExactOrderUptoSaid : Prop := fnExactOrderUptoRow.holds Try.pinned (OpenSpec.upto fnExactOrderSpec)

/-- 'laws.FnExactBurnt', WHERE WHAT IT READS IS OF BULK AT MOST 1048576: true; the input reads as it did. -/
def fnExactBurntUptoRow : OpenClaim := { program := "yteedbciobdcmaaa", sum := "ad5e9770ccafca90bf8190fa4d88b07ff62842ba9772e330863ac36b9af8bdce", func := "loop.example/g00063/laws.FnExactBurnt", spec := "fnExactBurnt", unfollowed := true, recurses := true, apart := false, narrowed := true }
def FnExactBurntUptoSaid : Prop := fnExactBurntUptoRow.holds Try.pinned (OpenSpec.upto fnExactBurntSpec)

/-- 'laws.FnBurnt', WHERE WHAT IT READS IS OF BULK AT MOST 1048576: true; the input reads as it did. -/
def fnBurntUptoRow : OpenClaim := { program := "yteedbciobdcmaaa", sum := "ad5e9770ccafca90bf8190fa4d88b07ff62842ba9772e330863ac36b9af8bdce", func := "loop.example/g00063/laws.FnBurnt", spec := "fnBurnt", unfollowed := true, recurses := true, apart := false, narrowed := true }
def FnBurntUptoSaid : Prop := fnBurntUptoRow.holds Try.pinned (OpenSpec.upto fnBurntSpec)

end Rows
end Go.Proofs.Yteedbciobdcmaaa
