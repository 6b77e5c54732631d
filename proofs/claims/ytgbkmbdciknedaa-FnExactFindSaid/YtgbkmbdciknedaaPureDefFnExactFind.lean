/- The pure statement that the row of the law FnExactFind comes to: over numbers and lists alone. A definition; nothing is proved here. -/
import Derived.Test.YtgbkmbdciknedaaPFnExactFindx4
namespace Go.Proofs.Ytgbkmbdciknedaa.PFnExactFind
open Go.RowKit Go.Proofs.YtgbkmbdciknedaaW.PrintWords
def laws_FnExactFind.PureR : Prop := ∀ (l0_0 : List Int) (l0_1 : List Int) (a1 : Int), (l0_0.length ≤ 9223372036854775807 ∧ ∀ y4 ∈ l0_0, (-9223372036854775808 ≤ y4 ∧ y4 ≤ 9223372036854775807)) → (l0_1.length ≤ 9223372036854775807 ∧ ∀ y4 ∈ l0_1, (-9223372036854775808 ≤ y4 ∧ y4 ≤ 9223372036854775807)) → (-9223372036854775808 ≤ a1 ∧ a1 ≤ 9223372036854775807) → ∃ k, laws_FnExactFind.f k l0_0 l0_1 a1 = some true
end Go.Proofs.Ytgbkmbdciknedaa.PFnExactFind
