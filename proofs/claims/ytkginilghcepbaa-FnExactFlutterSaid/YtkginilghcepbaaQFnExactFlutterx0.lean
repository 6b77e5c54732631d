/- Lean functions that tell what the Go functions used by one law answer, and for each a proof that the Go code comes to just these answers; no condition. Printed by this session's own program over the kit's printer. -/
import Derived.Test.YtkginilghcepbaaWSq
import Derived.Test.YtkginilghcepbaaProg
import Derived.Below
import Derived.Deep.Draws
import Derived.Deep.AppendLies
import Derived.Maps.AppendAt
import Derived.OwnWalk
import Derived.Laws.BytesArg
import Derived.Laws.MakeOwn
import Derived.Laws.OwnMore
import Derived.Deep.OwnRows
import Derived.Tactics
import Derived.Lib.ConvBytes
import Derived.Laws.Slices
import Derived.WalkKit
import Derived.KernelRfl
import Derived.RowKit3
import Derived.Deep.LoopGhost
import Derived.Deep.QuietTactic
import Derived.BigQuiet
import Derived.WideLaws
import Derived.Deep.DeepCutAuto
import Derived.Deep.CutBlock
import Derived.Deep.RegionHeld3
import Derived.Laws.Rows
import Derived.Lib.AppendStr
import Derived.ArgAppend
import Derived.Laws.IdiomCopy
import Derived.OrdersHeld
import Derived.Laws.BitsLemmas
import Derived.RowKit
import Derived.Test.YtkginilghcepbaaWWords
import Derived.Test.YtkginilghcepbaaWLast
import Derived.Test.YtkginilghcepbaaWTab
import Derived.Test.YtkginilghcepbaaWFour
import Derived.Test.YtkginilghcepbaaWQPut
import Derived.Test.YtkginilghcepbaaWApart
import Derived.Test.YtkginilghcepbaaWArr
import Derived.Test.YtkginilghcepbaaWZeros
import Derived.Test.YtkginilghcepbaaWFoot
import Derived.Test.YtkginilghcepbaaWKept
import Derived.Test.YtkginilghcepbaaWShare
import Derived.Test.YtkginilghcepbaaWN
import Derived.Test.YtkginilghcepbaaWFootNe
import Derived.Test.YtkginilghcepbaaWAt
import Derived.Test.YtkginilghcepbaaWEqStruct
import Derived.Test.YtkginilghcepbaaWRepsOne
import Derived.Test.YtkginilghcepbaaWInv
import Derived.Test.YtkginilghcepbaaWInvWords
import Derived.Test.YtkginilghcepbaaWGuard
import Derived.Test.YtkginilghcepbaaWNEv
import Derived.Test.YtkginilghcepbaaWMore
import Derived.Test.YtkginilghcepbaaWFl
namespace Go.Proofs.Ytkginilghcepbaa.QFnExactFlutter
open Go.RowKit Go.Proofs.YtkginilghcepbaaW.PrintWords Go.Proofs.YtkginilghcepbaaW.PrintLast Go.Proofs.YtkginilghcepbaaW.PrintMore
attribute [local go_sem] max2_int min2_int max_two min_two max_three min_three max_four min_four   -- for this text's walks alone
attribute [local go_sem high] go_eql go_neq go_lss go_leq go_gtr go_geq go_store   -- for this text's walks alone
set_option linter.unusedVariables false
set_option linter.unusedSimpArgs false



def errW : Option Int → Value
 | none => .nilIface
 | some c => .iface 0 (.int .i64 c)
theorem errW_none : errW none = .nilIface := rfl
theorem errW_some (c : Int) : errW (some c) = .iface 0 (.int .i64 c) := rfl

-- the values' own types

end Go.Proofs.Ytkginilghcepbaa.QFnExactFlutter
-- squeezed
