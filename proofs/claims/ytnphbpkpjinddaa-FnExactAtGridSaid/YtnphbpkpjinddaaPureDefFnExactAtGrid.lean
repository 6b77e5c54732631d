/- The pure statement that the row of the law FnExactAtGrid comes to: over numbers and lists alone. A definition; nothing is proved here. -/
import Derived.Test.YtnphbpkpjinddaaQFnExactAtGridx8
namespace Go.Proofs.Ytnphbpkpjinddaa.QFnExactAtGrid
open Go.RowKit Go.Proofs.YtnphbpkpjinddaaW.PrintWords
def laws_FnExactAtGrid.PureR : Prop := ∀ (l0_0 : List Int) (l0_1 : List Int) (l0_2 : List (List Int)) (a1 : Int) (a2 : Int), (l0_0.length ≤ 9223372036854775807 ∧ ∀ y4 ∈ l0_0, (-9223372036854775808 ≤ y4 ∧ y4 ≤ 9223372036854775807)) → (l0_1.length ≤ 9223372036854775807 ∧ ∀ y4 ∈ l0_1, (-9223372036854775808 ≤ y4 ∧ y4 ≤ 9223372036854775807)) → (l0_2.length ≤ 9223372036854775807 ∧ ∀ y4 ∈ l0_2, (y4.length ≤ 9223372036854775807 ∧ ∀ y2 ∈ y4, (-9223372036854775808 ≤ y2 ∧ y2 ≤ 9223372036854775807))) → (-9223372036854775808 ≤ a1 ∧ a1 ≤ 9223372036854775807) → (-9223372036854775808 ≤ a2 ∧ a2 ≤ 9223372036854775807) → ∃ k, laws_FnExactAtGrid.f k l0_0 l0_1 l0_2 a1 a2 = some true
end Go.Proofs.Ytnphbpkpjinddaa.QFnExactAtGrid
