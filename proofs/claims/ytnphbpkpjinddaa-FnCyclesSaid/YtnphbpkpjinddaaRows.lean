/-
  No cell of these rows narrows 'for every input' (looked for: loops, veiled, ifaces, maps, wideKeys, modest, calm, conditions, laid).
  DERIVED. THE GIVEN ROWS OF THIS SEAT. 10 by the template 'for every input the law returns true; each argument reads behind the call as it read before'; 0 by the template 'total and deterministic' (their statements: YtnphbpkpjinddaaTotals.lean).
  GIVEN WITH THE SEED: the statements are not yours to turn. If you find one false, say at which input.
  Laid BY PROGRAM, IN A SANDBOX (cutbox-rows.mjs): the forced cells as the released guide's own fill.sh prints them over the translation b728738a3823fd76… (all of the seat's roots in one cut). By AI agents, Wed Nov 11 2026. No macro, syntax, notation, axiom, sorry.
-/
import Derived.Test.YtnphbpkpjinddaaChecked
import GoSem.Claim
import GoSem.ClaimJoined
import GoSem.ClaimMapViews
import Derived.JoinedTies
import Derived.KernelRfl
namespace Go.Proofs.Ytnphbpkpjinddaa
/- THE CELL 'sum', in the pinned program and in every row, IS THE sha256 OF THE DUMP (.gsa) THAT YtnphbpkpjinddaaProg.lean LOADS. Nothing in Lean hashes anything: it is a label: what it is worth is what the hold of that sum in a sandbox is worth. -/
noncomputable def Try.pinned : Pinned := { name := "ytnphbpkpjinddaa", sum := "b728738a3823fd7665cacabdf6a076c2043b25d10aa65da0404811c2ec6f6dd0", checked := Try.checked }
namespace Rows
def none {H : Type} : Left H := { results := [], args := [] }

/-- 'laws.FnExactColdest': WHATEVER THE INPUT: true; the input reads as it did. -/
def fnExactColdestSpec : ChangeSpec := { name := "fnExactColdest", fn := fun _ => fun
  | [d] => { results := [.lit (.bool true)], args := [d] }
  | _ => none }
def fnExactColdestRow : OpenClaim := { program := "ytnphbpkpjinddaa", sum := "b728738a3823fd7665cacabdf6a076c2043b25d10aa65da0404811c2ec6f6dd0", func := "loop.example/g00063/laws.FnExactColdest", spec := "fnExactColdest", apart := false }
def FnExactColdestSaid : Prop := fnExactColdestRow.holds Try.pinned (OpenSpec.ofChange fnExactColdestSpec)

/-- ITS FALSE NEIGHBOUR: 'it returns false'. Refute it at one input. -/
def fnExactColdestWrong : ChangeSpec := { name := "fnExactColdest", fn := fun _ => fun
  | [d] => { results := [.lit (.bool false)], args := [d] }
  | _ => none }
def FnExactColdestWrongFalsely : Prop := fnExactColdestRow.holds Try.pinned (OpenSpec.ofChange fnExactColdestWrong)

/-- 'laws.FnExactInside': WHATEVER THE INPUT: true; the input reads as it did. -/
def fnExactInsideSpec : ChangeSpec := { name := "fnExactInside", fn := fun _ => fun
  | [d1, d2] => { results := [.lit (.bool true)], args := [d1, d2] }
  | _ => none }
def fnExactInsideRow : OpenClaim := { program := "ytnphbpkpjinddaa", sum := "b728738a3823fd7665cacabdf6a076c2043b25d10aa65da0404811c2ec6f6dd0", func := "loop.example/g00063/laws.FnExactInside", spec := "fnExactInside", apart := false }
def FnExactInsideSaid : Prop := fnExactInsideRow.holds Try.pinned (OpenSpec.ofChange fnExactInsideSpec)

/-- ITS FALSE NEIGHBOUR: 'it returns false'. Refute it at one input. -/
def fnExactInsideWrong : ChangeSpec := { name := "fnExactInside", fn := fun _ => fun
  | [d1, d2] => { results := [.lit (.bool false)], args := [d1, d2] }
  | _ => none }
def FnExactInsideWrongFalsely : Prop := fnExactInsideRow.holds Try.pinned (OpenSpec.ofChange fnExactInsideWrong)

/-- 'laws.FnExactAt': WHATEVER THE INPUT: true; the input reads as it did. -/
def fnExactAtSpec : ChangeSpec := { name := "fnExactAt", fn := fun _ => fun
  | [d1, d2] => { results := [.lit (.bool true)], args := [d1, d2] }
  | _ => none }
def fnExactAtRow : OpenClaim := { program := "ytnphbpkpjinddaa", sum := "b728738a3823fd7665cacabdf6a076c2043b25d10aa65da0404811c2ec6f6dd0", func := "loop.example/g00063/laws.FnExactAt", spec := "fnExactAt", apart := false }
def FnExactAtSaid : Prop := fnExactAtRow.holds Try.pinned (OpenSpec.ofChange fnExactAtSpec)

/-- ITS FALSE NEIGHBOUR: 'it returns false'. Refute it at one input. -/
def fnExactAtWrong : ChangeSpec := { name := "fnExactAt", fn := fun _ => fun
  | [d1, d2] => { results := [.lit (.bool false)], args := [d1, d2] }
  | _ => none }
def FnExactAtWrongFalsely : Prop := fnExactAtRow.holds Try.pinned (OpenSpec.ofChange fnExactAtWrong)

/-- 'laws.FnTables': WHATEVER THE INPUT: true; the input reads as it did. -/
def fnTablesSpec : ChangeSpec := { name := "fnTables", fn := fun _ => fun
  | [d] => { results := [.lit (.bool true)], args := [d] }
  | _ => none }
def fnTablesRow : OpenClaim := { program := "ytnphbpkpjinddaa", sum := "b728738a3823fd7665cacabdf6a076c2043b25d10aa65da0404811c2ec6f6dd0", func := "loop.example/g00063/laws.FnTables", spec := "fnTables", apart := false }
def FnTablesSaid : Prop := fnTablesRow.holds Try.pinned (OpenSpec.ofChange fnTablesSpec)

/-- ITS FALSE NEIGHBOUR: 'it returns false'. Refute it at one input. -/
def fnTablesWrong : ChangeSpec := { name := "fnTables", fn := fun _ => fun
  | [d] => { results := [.lit (.bool false)], args := [d] }
  | _ => none }
def FnTablesWrongFalsely : Prop := fnTablesRow.holds Try.pinned (OpenSpec.ofChange fnTablesWrong)

/-- 'laws.FnRunways': WHATEVER THE INPUT: true; the input reads as it did. -/
def fnRunwaysSpec : ChangeSpec := { name := "fnRunways", fn := fun _ => fun
  | [d] => { results := [.lit (.bool true)], args := [d] }
  | _ => none }
def fnRunwaysRow : OpenClaim := { program := "ytnphbpkpjinddaa", sum := "b728738a3823fd7665cacabdf6a076c2043b25d10aa65da0404811c2ec6f6dd0", func := "loop.example/g00063/laws.FnRunways", spec := "fnRunways", apart := false }
def FnRunwaysSaid : Prop := fnRunwaysRow.holds Try.pinned (OpenSpec.ofChange fnRunwaysSpec)

/-- ITS FALSE NEIGHBOUR: 'it returns false'. Refute it at one input. -/
def fnRunwaysWrong : ChangeSpec := { name := "fnRunways", fn := fun _ => fun
  | [d] => { results := [.lit (.bool false)], args := [d] }
  | _ => none }
def FnRunwaysWrongFalsely : Prop := fnRunwaysRow.holds Try.pinned (OpenSpec.ofChange fnRunwaysWrong)

/-- 'laws.FnExactHeld': WHATEVER THE INPUT: true; the input reads as it did. -/
def fnExactHeldSpec : ChangeSpec := { name := "fnExactHeld", fn := fun _ => fun
  | [d1, d2] => { results := [.lit (.bool true)], args := [d1, d2] }
  | _ => none }
def fnExactHeldRow : OpenClaim := { program := "ytnphbpkpjinddaa", sum := "b728738a3823fd7665cacabdf6a076c2043b25d10aa65da0404811c2ec6f6dd0", func := "loop.example/g00063/laws.FnExactHeld", spec := "fnExactHeld", apart := false }
def FnExactHeldSaid : Prop := fnExactHeldRow.holds Try.pinned (OpenSpec.ofChange fnExactHeldSpec)

/-- ITS FALSE NEIGHBOUR: 'it returns false'. Refute it at one input. -/
def fnExactHeldWrong : ChangeSpec := { name := "fnExactHeld", fn := fun _ => fun
  | [d1, d2] => { results := [.lit (.bool false)], args := [d1, d2] }
  | _ => none }
def FnExactHeldWrongFalsely : Prop := fnExactHeldRow.holds Try.pinned (OpenSpec.ofChange fnExactHeldWrong)

/-- 'laws.FnExactAtGrid': WHATEVER THE INPUT: true; the input reads as it did. -/
def fnExactAtGridSpec : ChangeSpec := { name := "fnExactAtGrid", fn := fun _ => fun
  | [d1, d2, d3] => { results := [.lit (.bool true)], args := [d1, d2, d3] }
  | _ => none }
def fnExactAtGridRow : OpenClaim := { program := "ytnphbpkpjinddaa", sum := "b728738a3823fd7665cacabdf6a076c2043b25d10aa65da0404811c2ec6f6dd0", func := "loop.example/g00063/laws.FnExactAtGrid", spec := "fnExactAtGrid", apart := false }
def FnExactAtGridSaid : Prop := fnExactAtGridRow.holds Try.pinned (OpenSpec.ofChange fnExactAtGridSpec)

/-- ITS FALSE NEIGHBOUR: 'it returns false'. Refute it at one input. -/
def fnExactAtGridWrong : ChangeSpec := { name := "fnExactAtGrid", fn := fun _ => fun
  | [d1, d2, d3] => { results := [.lit (.bool false)], args := [d1, d2, d3] }
  | _ => none }
def FnExactAtGridWrongFalsely : Prop := fnExactAtGridRow.holds Try.pinned (OpenSpec.ofChange fnExactAtGridWrong)

/-- 'laws.FnCycles': WHATEVER THE INPUT: true; the input reads as it did. -/
def fnCyclesSpec : ChangeSpec := { name := "fnCycles", fn := fun _ => fun
  | [d] => { results := [.lit (.bool true)], args := [d] }
  | _ => none }
def fnCyclesRow : OpenClaim := { program := "ytnphbpkpjinddaa", sum := "b728738a3823fd7665cacabdf6a076c2043b25d10aa65da0404811c2ec6f6dd0", func := "loop.example/g00063/laws.FnCycles", spec := "fnCycles", inPlace := ["math/bits.Add64"], named := ["math/bits.divideError", "math/bits.overflowError"], apart := false }
def FnCyclesSaid : Prop := fnCyclesRow.holds Try.pinned (OpenSpec.ofChange fnCyclesSpec)

/-- ITS FALSE NEIGHBOUR: 'it returns false'. Refute it at one input. -/
def fnCyclesWrong : ChangeSpec := { name := "fnCycles", fn := fun _ => fun
  | [d] => { results := [.lit (.bool false)], args := [d] }
  | _ => none }
def FnCyclesWrongFalsely : Prop := fnCyclesRow.holds Try.pinned (OpenSpec.ofChange fnCyclesWrong)

/-- 'laws.FnExactClears': WHATEVER THE INPUT: true; the input reads as it did. -/
def fnExactClearsSpec : ChangeSpec := { name := "fnExactClears", fn := fun _ => fun
  | [d1, d2, d3, d4] => { results := [.lit (.bool true)], args := [d1, d2, d3, d4] }
  | _ => none }
def fnExactClearsRow : OpenClaim := { program := "ytnphbpkpjinddaa", sum := "b728738a3823fd7665cacabdf6a076c2043b25d10aa65da0404811c2ec6f6dd0", func := "loop.example/g00063/laws.FnExactClears", spec := "fnExactClears", unfollowed := true, recurses := true, apart := false }
def FnExactClearsSaid : Prop := fnExactClearsRow.holds Try.pinned (OpenSpec.ofChange fnExactClearsSpec)

/-- ITS FALSE NEIGHBOUR: 'it returns false'. Refute it at one input. -/
def fnExactClearsWrong : ChangeSpec := { name := "fnExactClears", fn := fun _ => fun
  | [d1, d2, d3, d4] => { results := [.lit (.bool false)], args := [d1, d2, d3, d4] }
  | _ => none }
def FnExactClearsWrongFalsely : Prop := fnExactClearsRow.holds Try.pinned (OpenSpec.ofChange fnExactClearsWrong)

/-- 'laws.FnClears': WHATEVER THE INPUT: true; the input reads as it did. -/
def fnClearsSpec : ChangeSpec := { name := "fnClears", fn := fun _ => fun
  | [d] => { results := [.lit (.bool true)], args := [d] }
  | _ => none }
def fnClearsRow : OpenClaim := { program := "ytnphbpkpjinddaa", sum := "b728738a3823fd7665cacabdf6a076c2043b25d10aa65da0404811c2ec6f6dd0", func := "loop.example/g00063/laws.FnClears", spec := "fnClears", unfollowed := true, recurses := true, apart := false }
def FnClearsSaid : Prop := fnClearsRow.holds Try.pinned (OpenSpec.ofChange fnClearsSpec)

/-- ITS FALSE NEIGHBOUR: 'it returns false'. Refute it at one input. -/
def fnClearsWrong : ChangeSpec := { name := "fnClears", fn := fun _ => fun
  | [d] => { results := [.lit (.bool false)], args := [d] }
  | _ => none }
def FnClearsWrongFalsely : Prop := fnClearsRow.holds Try.pinned (OpenSpec.ofChange fnClearsWrong)

/- THE SECOND FORM. 'bulk': how many values and letters a reading holds, each counted each time it is reached (what is shared counts as often as it is met; a slice's spare places count too). A statement '..UptoSaid' is the law's where the arguments, and the package variables that the reading takes, are together of bulk at most 1048576: NARROWER than '..Said'. Prove '..Said' where nothing that the law and all that it calls make is longer than what came in: it says more and counts as full. Else prove '..UptoSaid'. A law counts once. -/
mutual
def uptoBulk {H : Type} : DataW H → Nat
  | .lit (.string bytes) => bytes.length + 1
  | .lit _ => 1
  | .nil => 1
  | .ptr d => uptoBulk d + 1
  | .slice elems spare => uptoBulkAll elems + uptoBulkAll spare + 1
  | .agg parts => uptoBulkAll parts + 1
  | .iface _ d => uptoBulk d + 1
  | .map entries => uptoBulkEntries entries + 1
  | .held _ => 1
def uptoBulkAll {H : Type} : List (DataW H) → Nat
  | [] => 0
  | d :: r => uptoBulk d + uptoBulkAll r
def uptoBulkEntries {H : Type} : List (Lit × DataW H) → Nat
  | [] => 0
  | x :: r => uptoBulkEntry x + uptoBulkEntries r
def uptoBulkEntry {H : Type} : Lit × DataW H → Nat
  | (.string bytes, d) => bytes.length + uptoBulk d + 1
  | (_, d) => uptoBulk d + 1
 end
def uptoSmall : (H : Type) → List (DataW H) → Bool := fun _ ds => decide (uptoBulkAll ds ≤ 1048576)
def OpenSpec.upto (s : _root_.Go.ChangeSpec) : _root_.Go.OpenSpec := { _root_.Go.OpenSpec.ofChange s with cond := some uptoSmall }

/-- 'laws.FnExactColdest', WHERE WHAT IT READS IS OF BULK AT MOST 1048576: true; the input reads as it did. -/
def fnExactColdestUptoRow : OpenClaim := { program := "ytnphbpkpjinddaa", sum := "b728738a3823fd7665cacabdf6a076c2043b25d10aa65da0404811c2ec6f6dd0", func := "loop.example/g00063/laws.FnExactColdest", spec := "fnExactColdest", apart := false, narrowed := true }
def FnExactColdestUptoSaid : Prop := fnExactColdestUptoRow.holds Try.pinned (OpenSpec.upto fnExactColdestSpec)

/-- 'laws.FnExactInside', WHERE WHAT IT READS IS OF BULK AT MOST 1048576: true; the input reads as it did. -/
def fnExactInsideUptoRow : OpenClaim := { program := "ytnphbpkpjinddaa", sum := "b728738a3823fd7665cacabdf6a076c2043b25d10aa65da0404811c2ec6f6dd0", func := "loop.example/g00063/laws.FnExactInside", spec := "fnExactInside", apart := false, narrowed := true }
def FnExactInsideUptoSaid : Prop := fnExactInsideUptoRow.holds Try.pinned (OpenSpec.upto fnExactInsideSpec)

/-- 'laws.FnExactAt', WHERE WHAT IT READS IS OF BULK AT MOST 1048576: true; the input reads as it did. -/
def fnExactAtUptoRow : OpenClaim := { program := "ytnphbpkpjinddaa", sum := "b728738a3823fd7665cacabdf6a076c2043b25d10aa65da0404811c2ec6f6dd0", func := "loop.example/g00063/laws.FnExactAt", spec := "fnExactAt", apart := false, narrowed := true }
def FnExactAtUptoSaid : Prop := fnExactAtUptoRow.holds Try.pinned (OpenSpec.upto fnExactAtSpec)

/-- 'laws.FnTables', WHERE WHAT IT READS IS OF BULK AT MOST 1048576: true; the input reads as it did. -/
def fnTablesUptoRow : OpenClaim := { program := "ytnphbpkpjinddaa", sum := "b728738a3823fd7665cacabdf6a076c2043b25d10aa65da0404811c2ec6f6dd0", func := "loop.example/g00063/laws.FnTables", spec := "fnTables", apart := false, narrowed := true }
def FnTablesUptoSaid : Prop := fnTablesUptoRow.holds Try.pinned (OpenSpec.upto fnTablesSpec)

/-- 'laws.FnRunways', WHERE WHAT IT READS IS OF BULK AT MOST 1048576: true; the input reads as it did. -/
def fnRunwaysUptoRow : OpenClaim := { program := "ytnphbpkpjinddaa", sum := "b728738a3823fd7665cacabdf6a076c2043b25d10aa65da0404811c2ec6f6dd0", func := "loop.example/g00063/laws.FnRunways", spec := "fnRunways", apart := false, narrowed := true }
def FnRunwaysUptoSaid : Prop := fnRunwaysUptoRow.holds Try.pinned (OpenSpec.upto fnRunwaysSpec)

/-- 'laws.FnExactHeld', WHERE WHAT IT READS IS OF BULK AT MOST 1048576: true; the input reads as it did. -/
def fnExactHeldUptoRow : OpenClaim := { program := "ytnphbpkpjinddaa", sum := "b728738a3823fd7665cacabdf6a076c2043b25d10aa65da0404811c2ec6f6dd0", func := "loop.example/g00063/laws.FnExactHeld", spec := "fnExactHeld", apart := false, narrowed := true }
def FnExactHeldUptoSaid : Prop := fnExactHeldUptoRow.holds Try.pinned (OpenSpec.upto fnExactHeldSpec)

/-- 'laws.FnExactAtGrid', WHERE WHAT IT READS IS OF BULK AT MOST 1048576: true; the input reads as it did. -/
def fnExactAtGridUptoRow : OpenClaim := { program := "ytnphbpkpjinddaa", sum := "b728738a3823fd7665cacabdf6a076c2043b25d10aa65da0404811c2ec6f6dd0", func := "loop.example/g00063/laws.FnExactAtGrid", spec := "fnExactAtGrid", apart := false, narrowed := true }
def FnExactAtGridUptoSaid : Prop := fnExactAtGridUptoRow.holds Try.pinned (OpenSpec.upto fnExactAtGridSpec)

/-- 'laws.FnCycles', WHERE WHAT IT READS IS OF BULK AT MOST 1048576: true; the input reads as it did. -/
def fnCyclesUptoRow : OpenClaim := { program := "ytnphbpkpjinddaa", sum := "b728738a3823fd7665cacabdf6a076c2043b25d10aa65da0404811c2ec6f6dd0", func := "loop.example/g00063/laws.FnCycles", spec := "fnCycles", inPlace := ["math/bits.Add64"], named := ["math/bits.divideError", "math/bits.overflowError"], apart := false, narrowed := true }
def FnCyclesUptoSaid : Prop := fnCyclesUptoRow.holds Try.pinned (OpenSpec.upto fnCyclesSpec)

/-- 'laws.FnExactClears', WHERE WHAT IT READS IS OF BULK AT MOST 1048576: true; the input reads as it did. -/
def fnExactClearsUptoRow : OpenClaim := { program := "ytnphbpkpjinddaa", sum := "b728738a3823fd7665cacabdf6a076c2043b25d10aa65da0404811c2ec6f6dd0", func := "loop.example/g00063/laws.FnExactClears", spec := "fnExactClears", unfollowed := true, recurses := true, apart := false, narrowed := true }
def FnExactClearsUptoSaid : Prop := fnExactClearsUptoRow.holds Try.pinned (OpenSpec.upto fnExactClearsSpec)

/-- 'laws.FnClears', WHERE WHAT IT READS IS OF BULK AT MOST 1048576: true; the input reads as it did. -/
def fnClearsUptoRow : OpenClaim := { program := "ytnphbpkpjinddaa", sum := "b728738a3823fd7665cacabdf6a076c2043b25d10aa65da0404811c2ec6f6dd0", func := "loop.example/g00063/laws.FnClears", spec := "fnClears", unfollowed := true, recurses := true, apart := false, narrowed := true }
def FnClearsUptoSaid : Prop := fnClearsUptoRow.holds Try.pinned (OpenSpec.upto fnClearsSpec)

end Rows
end Go.Proofs.Ytnphbpkpjinddaa
