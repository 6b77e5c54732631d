/- The pure statement that the row of the law FnExactFirstOver comes to: over numbers and lists alone. A definition; nothing is proved here. -/
import Derived.Test.YtkginilghcepbaaQFnExactFirstOverx2
namespace Go.Proofs.Ytkginilghcepbaa.QFnExactFirstOver
open Go.RowKit Go.Proofs.YtkginilghcepbaaW.PrintWords
def laws_FnExactFirstOver.PureR : Prop := ∀ (l0 : List S118) (a1 : Fl), (l0.length ≤ 9223372036854775807 ∧ ∀ y2 ∈ l0, (True ∧ True ∧ True ∧ True)) → ∃ k, laws_FnExactFirstOver.f k l0 a1 = some true
end Go.Proofs.Ytkginilghcepbaa.QFnExactFirstOver
