/- The pure statement that the row of the law FnExactGridOk comes to: over numbers and lists alone. A definition; nothing is proved here. -/
import Derived.Test.YtgbkmbdciknedaaQFnExactGridOkx4
namespace Go.Proofs.Ytgbkmbdciknedaa.QFnExactGridOk
open Go.RowKit Go.Proofs.YtgbkmbdciknedaaW.PrintWords
def laws_FnExactGridOk.PureR : Prop := ∀ (l0_0 : List Int) (l0_1 : List Int) (l0_2 : List (List Int)), (l0_0.length ≤ 9223372036854775807 ∧ ∀ y4 ∈ l0_0, (-9223372036854775808 ≤ y4 ∧ y4 ≤ 9223372036854775807)) → (l0_1.length ≤ 9223372036854775807 ∧ ∀ y4 ∈ l0_1, (-9223372036854775808 ≤ y4 ∧ y4 ≤ 9223372036854775807)) → (l0_2.length ≤ 9223372036854775807 ∧ ∀ y4 ∈ l0_2, (y4.length ≤ 9223372036854775807 ∧ ∀ y2 ∈ y4, (-9223372036854775808 ≤ y2 ∧ y2 ≤ 9223372036854775807))) → ∃ k, laws_FnExactGridOk.f k l0_0 l0_1 l0_2 = some true
end Go.Proofs.Ytgbkmbdciknedaa.QFnExactGridOk
