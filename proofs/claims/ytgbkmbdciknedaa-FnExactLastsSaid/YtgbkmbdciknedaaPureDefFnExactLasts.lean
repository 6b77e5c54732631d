/- The pure statement that the row of the law FnExactLasts comes to: over numbers and lists alone. A definition; nothing is proved here. -/
import Derived.Test.YtgbkmbdciknedaaPFnExactLastsx2
namespace Go.Proofs.Ytgbkmbdciknedaa.PFnExactLasts
open Go.RowKit Go.Proofs.YtgbkmbdciknedaaW.PrintWords
def laws_FnExactLasts.PureR : Prop := ∀ (a0_0 : Int) (a0_1 : Int) (a0_2 : Int) (l1 : List Int), (-9223372036854775808 ≤ a0_0 ∧ a0_0 ≤ 9223372036854775807) → (-9223372036854775808 ≤ a0_1 ∧ a0_1 ≤ 9223372036854775807) → (-9223372036854775808 ≤ a0_2 ∧ a0_2 ≤ 9223372036854775807) → (l1.length ≤ 9223372036854775807 ∧ ∀ y2 ∈ l1, (-9223372036854775808 ≤ y2 ∧ y2 ≤ 9223372036854775807)) → ∃ k, laws_FnExactLasts.f k a0_0 a0_1 a0_2 l1 = some true
end Go.Proofs.Ytgbkmbdciknedaa.PFnExactLasts
