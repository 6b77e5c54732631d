/- Lean functions that tell what the Go functions used by one law answer, and for each a proof that the Go code comes to just these answers; no condition. Printed by this session's own program over the kit's printer. -/
import Derived.Test.YtddojikjiebbbaaProg
import Derived.Below
import Derived.Deep.Draws
import Derived.Deep.AppendLies
import Derived.Maps.AppendAt
import Derived.OwnWalk
import Derived.Laws.BytesArg
import Derived.Laws.MakeOwn
import Derived.Laws.OwnMore
import Derived.Deep.OwnRows
import Derived.Tactics
import Derived.Lib.ConvBytes
import Derived.Laws.Slices
import Derived.WalkKit
import Derived.KernelRfl
import Derived.RowKit3
import Derived.Deep.LoopGhost
import Derived.Deep.QuietTactic
import Derived.BigQuiet
import Derived.WideLaws
import Derived.Deep.DeepCutAuto
import Derived.Deep.CutBlock
import Derived.Deep.RegionHeld3
import Derived.Laws.Rows
import Derived.Lib.AppendStr
import Derived.ArgAppend
import Derived.Laws.IdiomCopy
import Derived.OrdersHeld
import Derived.Laws.BitsLemmas
import Derived.RowKit
import Derived.Test.YtddojikjiebbbaaWWords
import Derived.Test.YtddojikjiebbbaaWLast
import Derived.Test.YtddojikjiebbbaaWTab
import Derived.Test.YtddojikjiebbbaaWFour
import Derived.Test.YtddojikjiebbbaaWQPut
import Derived.Test.YtddojikjiebbbaaWApart
import Derived.Test.YtddojikjiebbbaaWArr
import Derived.Test.YtddojikjiebbbaaWZeros
import Derived.Test.YtddojikjiebbbaaWFoot
import Derived.Test.YtddojikjiebbbaaWKept
import Derived.Test.YtddojikjiebbbaaWShare
import Derived.Test.YtddojikjiebbbaaWN
import Derived.Test.YtddojikjiebbbaaWFootNe
import Derived.Test.YtddojikjiebbbaaWAt
import Derived.Test.YtddojikjiebbbaaWEqStruct
import Derived.Test.YtddojikjiebbbaaWRepsOne
import Derived.Test.YtddojikjiebbbaaWInv
import Derived.Test.YtddojikjiebbbaaWInvWords
import Derived.Test.YtddojikjiebbbaaWGuard
import Derived.Test.YtddojikjiebbbaaWNEv
import Derived.Test.YtddojikjiebbbaaWMore
import Derived.Test.YtddojikjiebbbaaWFl
namespace Go.Proofs.Ytddojikjiebbbaa.QFnExactCxOver
open Go.RowKit Go.Proofs.YtddojikjiebbbaaW.PrintWords Go.Proofs.YtddojikjiebbbaaW.PrintLast Go.Proofs.YtddojikjiebbbaaW.PrintMore
attribute [local go_sem] max2_int min2_int max_two min_two max_three min_three max_four min_four   -- for this text's walks alone
attribute [local go_sem high] go_eql go_neq go_lss go_leq go_gtr go_geq go_store   -- for this text's walks alone
set_option linter.unusedVariables false
set_option linter.unusedSimpArgs false



def errW : Option Int → Value
  | none => .nilIface
  | some c => .iface 0 (.int .i64 c)
theorem errW_none : errW none = .nilIface := rfl
theorem errW_some (c : Int) : errW (some c) = .iface 0 (.int .i64 c) := rfl

theorem info22 : (Try.prog.info? 22).map (fun i => (i.zero, i.size, i.bytes)) = some (some (.float .f64 0), 1, 8) := by kernel_rfl
-- the values' own types

end Go.Proofs.Ytddojikjiebbbaa.QFnExactCxOver
