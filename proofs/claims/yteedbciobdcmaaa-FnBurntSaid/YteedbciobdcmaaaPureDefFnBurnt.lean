/- The pure statement that the row of the law FnBurnt comes to: over numbers and lists alone. A definition; nothing is proved here. -/
import Derived.Test.YteedbciobdcmaaaQFnBurntx10
namespace Go.Proofs.Yteedbciobdcmaaa.QFnBurnt
open Go.RowKit Go.Proofs.YteedbciobdcmaaaW.PrintWords
def laws_FnBurnt.PureR : Prop := ∀ (l0 : List Int), (l0.length ≤ 9223372036854775807 ∧ ∀ y2 ∈ l0, (0 ≤ y2 ∧ y2 ≤ 255)) → ∃ k, laws_FnBurnt.f k l0 = some true
end Go.Proofs.Yteedbciobdcmaaa.QFnBurnt
