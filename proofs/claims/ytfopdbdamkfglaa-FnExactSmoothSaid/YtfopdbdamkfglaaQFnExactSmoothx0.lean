/- Lean functions that tell what the Go functions used by one law answer, and for each a proof that the Go code comes to just these answers; no condition. Printed by this session's own program over the kit's printer. -/
import Derived.Test.YtfopdbdamkfglaaProg
import Derived.Below
import Derived.Deep.Draws
import Derived.Deep.AppendLies
import Derived.Maps.AppendAt
import Derived.OwnWalk
import Derived.Laws.BytesArg
import Derived.Laws.MakeOwn
import Derived.Laws.OwnMore
import Derived.Deep.OwnRows
import Derived.Tactics
import Derived.Lib.ConvBytes
import Derived.Laws.Slices
import Derived.WalkKit
import Derived.KernelRfl
import Derived.RowKit3
import Derived.Deep.LoopGhost
import Derived.Deep.QuietTactic
import Derived.BigQuiet
import Derived.WideLaws
import Derived.Deep.DeepCutAuto
import Derived.Deep.CutBlock
import Derived.Deep.RegionHeld3
import Derived.Laws.Rows
import Derived.Lib.AppendStr
import Derived.ArgAppend
import Derived.Laws.IdiomCopy
import Derived.OrdersHeld
import Derived.Laws.BitsLemmas
import Derived.RowKit
import Derived.Test.YtfopdbdamkfglaaWWords
import Derived.Test.YtfopdbdamkfglaaWLast
import Derived.Test.YtfopdbdamkfglaaWTab
import Derived.Test.YtfopdbdamkfglaaWFour
import Derived.Test.YtfopdbdamkfglaaWQPut
import Derived.Test.YtfopdbdamkfglaaWApart
import Derived.Test.YtfopdbdamkfglaaWArr
import Derived.Test.YtfopdbdamkfglaaWZeros
import Derived.Test.YtfopdbdamkfglaaWFoot
import Derived.Test.YtfopdbdamkfglaaWKept
import Derived.Test.YtfopdbdamkfglaaWShare
import Derived.Test.YtfopdbdamkfglaaWN
import Derived.Test.YtfopdbdamkfglaaWFootNe
import Derived.Test.YtfopdbdamkfglaaWAt
import Derived.Test.YtfopdbdamkfglaaWEqStruct
import Derived.Test.YtfopdbdamkfglaaWRepsOne
import Derived.Test.YtfopdbdamkfglaaWInv
import Derived.Test.YtfopdbdamkfglaaWInvWords
import Derived.Test.YtfopdbdamkfglaaWGuard
import Derived.Test.YtfopdbdamkfglaaWNEv
import Derived.Test.YtfopdbdamkfglaaWMore
import Derived.Test.YtfopdbdamkfglaaWFl
namespace Go.Proofs.Ytfopdbdamkfglaa.QFnExactSmooth
open Go.RowKit Go.Proofs.YtfopdbdamkfglaaW.PrintWords Go.Proofs.YtfopdbdamkfglaaW.PrintLast Go.Proofs.YtfopdbdamkfglaaW.PrintMore
attribute [local go_sem] max2_int min2_int max_two min_two max_three min_three max_four min_four   -- for this text's walks alone
attribute [local go_sem high] go_eql go_neq go_lss go_leq go_gtr go_geq go_store   -- for this text's walks alone
set_option linter.unusedVariables false
set_option linter.unusedSimpArgs false



def errW : Option Int → Value
  | none => .nilIface
  | some c => .iface 0 (.int .i64 c)
theorem errW_none : errW none = .nilIface := rfl
theorem errW_some (c : Int) : errW (some c) = .iface 0 (.int .i64 c) := rfl

theorem info23 : (Try.prog.info? 23).map (fun i => (i.zero, i.size, i.bytes)) = some (some (.float .f64 0), 1, 8) := by kernel_rfl
-- the values' own types

end Go.Proofs.Ytfopdbdamkfglaa.QFnExactSmooth
