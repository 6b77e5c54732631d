/- The pure statement that the row of the law FnMoments comes to: over numbers and lists alone. A definition; nothing is proved here. -/
import Derived.Test.YtkginilghcepbaaQFnMomentsx5
namespace Go.Proofs.Ytkginilghcepbaa.QFnMoments
open Go.RowKit Go.Proofs.YtkginilghcepbaaW.PrintWords
def laws_FnMoments.PureR : Prop := ∀ (l0 : List Int), (l0.length ≤ 9223372036854775807 ∧ ∀ y2 ∈ l0, (0 ≤ y2 ∧ y2 ≤ 255)) → ∃ k, laws_FnMoments.f k l0 = some true
end Go.Proofs.Ytkginilghcepbaa.QFnMoments
