/- The pure statement that the row of the law FnExactDamped comes to: over numbers and lists alone. A definition; nothing is proved here. -/
import Derived.Test.YtfopdbdamkfglaaQFnExactDampedx2
namespace Go.Proofs.Ytfopdbdamkfglaa.QFnExactDamped
open Go.RowKit Go.Proofs.YtfopdbdamkfglaaW.PrintWords
def laws_FnExactDamped.PureR : Prop := ∀ (l0 : List S32), (l0.length ≤ 9223372036854775807 ∧ ∀ y2 ∈ l0, (True ∧ True)) → ∃ k, laws_FnExactDamped.f k l0 = some true
end Go.Proofs.Ytfopdbdamkfglaa.QFnExactDamped
