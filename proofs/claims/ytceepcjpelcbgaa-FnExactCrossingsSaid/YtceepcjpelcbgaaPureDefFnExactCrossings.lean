/- The pure statement that the row of the law FnExactCrossings comes to: over numbers and lists alone. A definition; nothing is proved here. -/
import Derived.Test.YtceepcjpelcbgaaPFnExactCrossingsx2
namespace Go.Proofs.Ytceepcjpelcbgaa.PFnExactCrossings
open Go.RowKit Go.Proofs.YtceepcjpelcbgaaW.PrintWords
def laws_FnExactCrossings.PureR : Prop := ∀ (l0 : List Int) (a1 : Int), (l0.length ≤ 9223372036854775807 ∧ ∀ y2 ∈ l0, (-9223372036854775808 ≤ y2 ∧ y2 ≤ 9223372036854775807)) → (-9223372036854775808 ≤ a1 ∧ a1 ≤ 9223372036854775807) → ∃ k, laws_FnExactCrossings.f k l0 a1 = some true
end Go.Proofs.Ytceepcjpelcbgaa.PFnExactCrossings
