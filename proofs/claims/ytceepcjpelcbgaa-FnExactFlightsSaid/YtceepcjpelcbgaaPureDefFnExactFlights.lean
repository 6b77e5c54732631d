/- The pure statement that the row of the law FnExactFlights comes to: over numbers and lists alone. A definition; nothing is proved here. -/
import Derived.Test.YtceepcjpelcbgaaPFnExactFlightsx1
namespace Go.Proofs.Ytceepcjpelcbgaa.PFnExactFlights
open Go.RowKit Go.Proofs.YtceepcjpelcbgaaW.PrintWords
def laws_FnExactFlights.PureR : Prop := ∀ (a0_0 : Int) (a0_1 : Int) (a0_2 : Int), (-9223372036854775808 ≤ a0_0 ∧ a0_0 ≤ 9223372036854775807) → (-9223372036854775808 ≤ a0_1 ∧ a0_1 ≤ 9223372036854775807) → (-9223372036854775808 ≤ a0_2 ∧ a0_2 ≤ 9223372036854775807) → ∃ k, laws_FnExactFlights.f k a0_0 a0_1 a0_2 = some true
end Go.Proofs.Ytceepcjpelcbgaa.PFnExactFlights
