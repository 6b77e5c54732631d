/- The pure statement that the row of the law FnBattery comes to: over numbers and lists alone. A definition; nothing is proved here. -/
import Derived.Test.YtceepcjpelcbgaaQFnBatteryx3
namespace Go.Proofs.Ytceepcjpelcbgaa.QFnBattery
open Go.RowKit Go.Proofs.YtceepcjpelcbgaaW.PrintWords
def laws_FnBattery.PureR : Prop := ∀ (l0 : List Int), (l0.length ≤ 9223372036854775807 ∧ ∀ y2 ∈ l0, (0 ≤ y2 ∧ y2 ≤ 255)) → ∃ k, laws_FnBattery.f k l0 = some true
end Go.Proofs.Ytceepcjpelcbgaa.QFnBattery
