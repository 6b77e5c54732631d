/- The pure statement that the row of the law FnExactFly comes to: over numbers and lists alone. A definition; nothing is proved here. -/
import Derived.Test.YtfopdbdamkfglaaQFnExactFlyx4
namespace Go.Proofs.Ytfopdbdamkfglaa.QFnExactFly
open Go.RowKit Go.Proofs.YtfopdbdamkfglaaW.PrintWords
def laws_FnExactFly.PureR : Prop := ∀ (a0_0 : Fl) (a0_1 : Fl) (a0_2 : Fl) (a0_3 : Fl) (a1_0 : Fl) (a1_1 : Fl) (a1_2 : Fl) (a1_3 : Fl) (a1_4 : Fl) (l2 : List Fl) (a3 : Fl), (l2.length ≤ 9223372036854775807 ∧ ∀ y2 ∈ l2, True) → ∃ k, laws_FnExactFly.f k a0_0 a0_1 a0_2 a0_3 a1_0 a1_1 a1_2 a1_3 a1_4 l2 a3 = some true
end Go.Proofs.Ytfopdbdamkfglaa.QFnExactFly
