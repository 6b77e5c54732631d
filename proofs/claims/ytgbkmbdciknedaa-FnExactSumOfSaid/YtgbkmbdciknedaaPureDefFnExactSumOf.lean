/- The pure statement that the row of the law FnExactSumOf comes to: over numbers and lists alone. A definition; nothing is proved here. -/
import Derived.Test.YtgbkmbdciknedaaPFnExactSumOfx2
namespace Go.Proofs.Ytgbkmbdciknedaa.PFnExactSumOf
open Go.RowKit Go.Proofs.YtgbkmbdciknedaaW.PrintWords
def laws_FnExactSumOf.PureR : Prop := ∀ (l0 : List S111), (l0.length ≤ 9223372036854775807 ∧ ∀ y2 ∈ l0, ((-9223372036854775808 ≤ y2.f0 ∧ y2.f0 ≤ 9223372036854775807) ∧ (-9223372036854775808 ≤ y2.f1 ∧ y2.f1 ≤ 9223372036854775807))) → ∃ k, laws_FnExactSumOf.f k l0 = some true
end Go.Proofs.Ytgbkmbdciknedaa.PFnExactSumOf
