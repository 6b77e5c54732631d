/- The pure statement that the row of the law FnCracks comes to: over numbers and lists alone. A definition; nothing is proved here. -/
import Derived.Test.YtceepcjpelcbgaaPFnCracksx2
namespace Go.Proofs.Ytceepcjpelcbgaa.PFnCracks
open Go.RowKit Go.Proofs.YtceepcjpelcbgaaW.PrintWords
def laws_FnCracks.PureR : Prop := ∀ (l0 : List Int), (l0.length ≤ 9223372036854775807 ∧ ∀ y2 ∈ l0, (0 ≤ y2 ∧ y2 ≤ 255)) → ∃ k, laws_FnCracks.f k l0 = some true
end Go.Proofs.Ytceepcjpelcbgaa.PFnCracks
