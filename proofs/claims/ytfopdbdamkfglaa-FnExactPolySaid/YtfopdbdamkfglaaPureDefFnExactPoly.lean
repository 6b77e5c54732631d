/- The pure statement that the row of the law FnExactPoly comes to: over numbers and lists alone. A definition; nothing is proved here. -/
import Derived.Test.YtfopdbdamkfglaaQFnExactPolyx4
namespace Go.Proofs.Ytfopdbdamkfglaa.QFnExactPoly
open Go.RowKit Go.Proofs.YtfopdbdamkfglaaW.PrintWords
def laws_FnExactPoly.PureR : Prop := ∀ (l0 : List S32) (a1_0 : Fl) (a1_1 : Fl), (l0.length ≤ 9223372036854775807 ∧ ∀ y2 ∈ l0, (True ∧ True)) → ∃ k, laws_FnExactPoly.f k l0 a1_0 a1_1 = some true
end Go.Proofs.Ytfopdbdamkfglaa.QFnExactPoly
