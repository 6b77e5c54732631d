/- The pure statement that the row of the law FnSizes comes to: over numbers and lists alone. A definition; nothing is proved here. -/
import Derived.Test.YtfopdbdamkfglaaQFnSizesx5
namespace Go.Proofs.Ytfopdbdamkfglaa.QFnSizes
open Go.RowKit Go.Proofs.YtfopdbdamkfglaaW.PrintWords
def laws_FnSizes.PureR : Prop := ∀ (l0 : List Int), (l0.length ≤ 9223372036854775807 ∧ ∀ y2 ∈ l0, (0 ≤ y2 ∧ y2 ≤ 255)) → ∃ k, laws_FnSizes.f k l0 = some true
end Go.Proofs.Ytfopdbdamkfglaa.QFnSizes
