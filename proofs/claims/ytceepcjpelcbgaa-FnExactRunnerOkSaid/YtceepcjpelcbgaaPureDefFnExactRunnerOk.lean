/- The pure statement that the row of the law FnExactRunnerOk comes to: over numbers and lists alone. A definition; nothing is proved here. -/
import Derived.Test.YtceepcjpelcbgaaPFnExactRunnerOkx1
namespace Go.Proofs.Ytceepcjpelcbgaa.PFnExactRunnerOk
open Go.RowKit Go.Proofs.YtceepcjpelcbgaaW.PrintWords
def laws_FnExactRunnerOk.PureR : Prop := ∀ (a0_0 : Int) (a0_1 : Int) (a0_2 : Int) (a0_3 : Int), (-9223372036854775808 ≤ a0_0 ∧ a0_0 ≤ 9223372036854775807) → (-9223372036854775808 ≤ a0_1 ∧ a0_1 ≤ 9223372036854775807) → (-9223372036854775808 ≤ a0_2 ∧ a0_2 ≤ 9223372036854775807) → (-9223372036854775808 ≤ a0_3 ∧ a0_3 ≤ 9223372036854775807) → laws_FnExactRunnerOk.f a0_0 a0_1 a0_2 a0_3 = some true
end Go.Proofs.Ytceepcjpelcbgaa.PFnExactRunnerOk
