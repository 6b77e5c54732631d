/- The pure statement that the row of the law FnExactClimbs comes to: over numbers and lists alone. A definition; nothing is proved here. -/
import Derived.Test.YtgbkmbdciknedaaPFnExactClimbsx3
namespace Go.Proofs.Ytgbkmbdciknedaa.PFnExactClimbs
open Go.RowKit Go.Proofs.YtgbkmbdciknedaaW.PrintWords
def laws_FnExactClimbs.PureR : Prop := ∀ (a0 : Int) (l1 : List S126), (-9223372036854775808 ≤ a0 ∧ a0 ≤ 9223372036854775807) → (l1.length ≤ 9223372036854775807 ∧ ∀ y2 ∈ l1, ((-9223372036854775808 ≤ y2.f0 ∧ y2.f0 ≤ 9223372036854775807) ∧ (-9223372036854775808 ≤ y2.f1 ∧ y2.f1 ≤ 9223372036854775807))) → ∃ k, laws_FnExactClimbs.f k a0 l1 = some true
end Go.Proofs.Ytgbkmbdciknedaa.PFnExactClimbs
