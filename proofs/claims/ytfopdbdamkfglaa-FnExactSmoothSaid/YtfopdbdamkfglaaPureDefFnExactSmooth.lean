/- The pure statement that the row of the law FnExactSmooth comes to: over numbers and lists alone. A definition; nothing is proved here. -/
import Derived.Test.YtfopdbdamkfglaaQFnExactSmoothx3
namespace Go.Proofs.Ytfopdbdamkfglaa.QFnExactSmooth
open Go.RowKit Go.Proofs.YtfopdbdamkfglaaW.PrintWords
def laws_FnExactSmooth.PureR : Prop := ∀ (l0 : List Fl) (a1 : Fl), (l0.length ≤ 9223372036854775807 ∧ ∀ y2 ∈ l0, True) → ∃ k, laws_FnExactSmooth.f k l0 a1 = some true
end Go.Proofs.Ytfopdbdamkfglaa.QFnExactSmooth
