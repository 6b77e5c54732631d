/- The pure statement that the row of the law FnExactClears comes to: over numbers and lists alone. A definition; nothing is proved here. -/
import Derived.Test.YtnphbpkpjinddaaQFnExactClearsx4
namespace Go.Proofs.Ytnphbpkpjinddaa.QFnExactClears
open Go.RowKit Go.Proofs.YtnphbpkpjinddaaW.PrintWords
def laws_FnExactClears.PureR : Prop := ∀ (a0 : Int) (l1 : List S139) (l2 : List S141) (a3 : Int), (-9223372036854775808 ≤ a0 ∧ a0 ≤ 9223372036854775807) → (l1.length ≤ 9223372036854775807 ∧ ∀ y2 ∈ l1, ((-9223372036854775808 ≤ y2.f0 ∧ y2.f0 ≤ 9223372036854775807) ∧ (-9223372036854775808 ≤ y2.f1 ∧ y2.f1 ≤ 9223372036854775807))) → (l2.length ≤ 9223372036854775807 ∧ ∀ y2 ∈ l2, ((-9223372036854775808 ≤ y2.f0 ∧ y2.f0 ≤ 9223372036854775807) ∧ (-9223372036854775808 ≤ y2.f1 ∧ y2.f1 ≤ 9223372036854775807))) → (-9223372036854775808 ≤ a3 ∧ a3 ≤ 9223372036854775807) → ∃ k, laws_FnExactClears.f k a0 l1 l2 a3 = some true
end Go.Proofs.Ytnphbpkpjinddaa.QFnExactClears
