/- The pure statement that the row of the law FnAir comes to: over numbers and lists alone. A definition; nothing is proved here. -/
import Derived.Test.YtkginilghcepbaaQFnAirx5
namespace Go.Proofs.Ytkginilghcepbaa.QFnAir
open Go.RowKit Go.Proofs.YtkginilghcepbaaW.PrintWords
def laws_FnAir.PureR : Prop := ∀ (l0 : List Int), (l0.length ≤ 9223372036854775807 ∧ ∀ y2 ∈ l0, (0 ≤ y2 ∧ y2 ≤ 255)) → ∃ k, laws_FnAir.f k l0 = some true
end Go.Proofs.Ytkginilghcepbaa.QFnAir
