/- The pure statement that the row of the law FnExactInside comes to: over numbers and lists alone. A definition; nothing is proved here. -/
import Derived.Test.YtnphbpkpjinddaaQFnExactInsidex8
namespace Go.Proofs.Ytnphbpkpjinddaa.QFnExactInside
open Go.RowKit Go.Proofs.YtnphbpkpjinddaaW.PrintWords
def laws_FnExactInside.PureR : Prop := ∀ (l0_0 : List Int) (l0_1 : List Int) (l0_2 : List Int) (a1_0 : Int) (a1_1 : Int), (l0_0.length ≤ 9223372036854775807 ∧ ∀ y4 ∈ l0_0, (-9223372036854775808 ≤ y4 ∧ y4 ≤ 9223372036854775807)) → (l0_1.length ≤ 9223372036854775807 ∧ ∀ y4 ∈ l0_1, (-9223372036854775808 ≤ y4 ∧ y4 ≤ 9223372036854775807)) → (l0_2.length ≤ 9223372036854775807 ∧ ∀ y4 ∈ l0_2, (-9223372036854775808 ≤ y4 ∧ y4 ≤ 9223372036854775807)) → (-9223372036854775808 ≤ a1_0 ∧ a1_0 ≤ 9223372036854775807) → (-9223372036854775808 ≤ a1_1 ∧ a1_1 ≤ 9223372036854775807) → ∃ k, laws_FnExactInside.f k l0_0 l0_1 l0_2 a1_0 a1_1 = some true
end Go.Proofs.Ytnphbpkpjinddaa.QFnExactInside
