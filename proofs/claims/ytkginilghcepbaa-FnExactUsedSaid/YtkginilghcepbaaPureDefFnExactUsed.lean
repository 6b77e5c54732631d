/- The pure statement that the row of the law FnExactUsed comes to: over numbers and lists alone. A definition; nothing is proved here. -/
import Derived.Test.YtkginilghcepbaaQFnExactUsedx10
namespace Go.Proofs.Ytkginilghcepbaa.QFnExactUsed
open Go.RowKit Go.Proofs.YtkginilghcepbaaW.PrintWords
def laws_FnExactUsed.PureR : Prop := ∀ (l0 : List S104) (l1 : List Int), (l0.length ≤ 9223372036854775807 ∧ ∀ y2 ∈ l0, ((-9223372036854775808 ≤ y2.f0 ∧ y2.f0 ≤ 9223372036854775807) ∧ (-9223372036854775808 ≤ y2.f1 ∧ y2.f1 ≤ 9223372036854775807))) → (l1.length ≤ 9223372036854775807 ∧ ∀ y2 ∈ l1, (-9223372036854775808 ≤ y2 ∧ y2 ≤ 9223372036854775807)) → ∃ k, laws_FnExactUsed.f k l0 l1 = some true
end Go.Proofs.Ytkginilghcepbaa.QFnExactUsed
