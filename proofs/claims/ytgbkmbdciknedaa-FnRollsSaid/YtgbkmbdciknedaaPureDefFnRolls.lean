/- The pure statement that the row of the law FnRolls comes to: over numbers and lists alone. A definition; nothing is proved here. -/
import Derived.Test.YtgbkmbdciknedaaQFnRollsx3
namespace Go.Proofs.Ytgbkmbdciknedaa.QFnRolls
open Go.RowKit Go.Proofs.YtgbkmbdciknedaaW.PrintWords
def laws_FnRolls.PureR : Prop := ∀ (l0 : List Int), (l0.length ≤ 9223372036854775807 ∧ ∀ y2 ∈ l0, (0 ≤ y2 ∧ y2 ≤ 255)) → ∃ k, laws_FnRolls.f k l0 = some true
end Go.Proofs.Ytgbkmbdciknedaa.QFnRolls
