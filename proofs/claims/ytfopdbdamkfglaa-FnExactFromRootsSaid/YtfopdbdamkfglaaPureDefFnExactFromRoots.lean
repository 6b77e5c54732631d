/- The pure statement that the row of the law FnExactFromRoots comes to: over numbers and lists alone. A definition; nothing is proved here. -/
import Derived.Test.YtfopdbdamkfglaaQFnExactFromRootsx4
namespace Go.Proofs.Ytfopdbdamkfglaa.QFnExactFromRoots
open Go.RowKit Go.Proofs.YtfopdbdamkfglaaW.PrintWords
def laws_FnExactFromRoots.PureR : Prop := ∀ (l0 : List S32), (l0.length ≤ 9223372036854775807 ∧ ∀ y2 ∈ l0, (True ∧ True)) → ∃ k, laws_FnExactFromRoots.f k l0 = some true
end Go.Proofs.Ytfopdbdamkfglaa.QFnExactFromRoots
