/- The pure statement that the row of the law FnExactColdest comes to: over numbers and lists alone. A definition; nothing is proved here. -/
import Derived.Test.YtnphbpkpjinddaaQFnExactColdestx4
namespace Go.Proofs.Ytnphbpkpjinddaa.QFnExactColdest
open Go.RowKit Go.Proofs.YtnphbpkpjinddaaW.PrintWords
def laws_FnExactColdest.PureR : Prop := ∀ (a0_0 : Int) (l0_1 : List Int) (l0_2 : List Int), (-9223372036854775808 ≤ a0_0 ∧ a0_0 ≤ 9223372036854775807) → (l0_1.length ≤ 9223372036854775807 ∧ ∀ y4 ∈ l0_1, (-9223372036854775808 ≤ y4 ∧ y4 ≤ 9223372036854775807)) → (l0_2.length ≤ 9223372036854775807 ∧ ∀ y4 ∈ l0_2, (-9223372036854775808 ≤ y4 ∧ y4 ≤ 9223372036854775807)) → ∃ k, laws_FnExactColdest.f k a0_0 l0_1 l0_2 = some true
end Go.Proofs.Ytnphbpkpjinddaa.QFnExactColdest
