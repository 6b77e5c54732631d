/- The pure statement that the row of the law FnExactMeanOf comes to: over numbers and lists alone. A definition; nothing is proved here. -/
import Derived.Test.YtfopdbdamkfglaaQFnExactMeanOfx2
namespace Go.Proofs.Ytfopdbdamkfglaa.QFnExactMeanOf
open Go.RowKit Go.Proofs.YtfopdbdamkfglaaW.PrintWords
def laws_FnExactMeanOf.PureR : Prop := ∀ (l0 : List Fl), (l0.length ≤ 9223372036854775807 ∧ ∀ y2 ∈ l0, True) → ∃ k, laws_FnExactMeanOf.f k l0 = some true
end Go.Proofs.Ytfopdbdamkfglaa.QFnExactMeanOf
