/- The pure statement that the row of the law FnQuotient comes to: over numbers and lists alone. A definition; nothing is proved here. -/
import Derived.Test.YtfopdbdamkfglaaQFnQuotientx3
namespace Go.Proofs.Ytfopdbdamkfglaa.QFnQuotient
open Go.RowKit Go.Proofs.YtfopdbdamkfglaaW.PrintWords
def laws_FnQuotient.PureR : Prop := ∀ (l0 : List Int), (l0.length ≤ 9223372036854775807 ∧ ∀ y2 ∈ l0, (0 ≤ y2 ∧ y2 ≤ 255)) → ∃ k, laws_FnQuotient.f k l0 = some true
end Go.Proofs.Ytfopdbdamkfglaa.QFnQuotient
