/- The pure statement that the row of the law FnExactEnvelopeOk comes to: over numbers and lists alone. A definition; nothing is proved here. -/
import Derived.Test.YtgbkmbdciknedaaPFnExactEnvelopeOkx4
namespace Go.Proofs.Ytgbkmbdciknedaa.PFnExactEnvelopeOk
open Go.RowKit Go.Proofs.YtgbkmbdciknedaaW.PrintWords
def laws_FnExactEnvelopeOk.PureR : Prop := ∀ (l0_0 : List Int) (l0_1 : List Int) (l0_2 : List Int), (l0_0.length ≤ 9223372036854775807 ∧ ∀ y4 ∈ l0_0, (-9223372036854775808 ≤ y4 ∧ y4 ≤ 9223372036854775807)) → (l0_1.length ≤ 9223372036854775807 ∧ ∀ y4 ∈ l0_1, (-9223372036854775808 ≤ y4 ∧ y4 ≤ 9223372036854775807)) → (l0_2.length ≤ 9223372036854775807 ∧ ∀ y4 ∈ l0_2, (-9223372036854775808 ≤ y4 ∧ y4 ≤ 9223372036854775807)) → ∃ k, laws_FnExactEnvelopeOk.f k l0_0 l0_1 l0_2 = some true
end Go.Proofs.Ytgbkmbdciknedaa.PFnExactEnvelopeOk
