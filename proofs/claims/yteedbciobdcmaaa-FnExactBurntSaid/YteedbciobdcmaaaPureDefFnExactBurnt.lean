/- The pure statement that the row of the law FnExactBurnt comes to: over numbers and lists alone. A definition; nothing is proved here. -/
import Derived.Test.YteedbciobdcmaaaQFnExactBurntx6
namespace Go.Proofs.Yteedbciobdcmaaa.QFnExactBurnt
open Go.RowKit Go.Proofs.YteedbciobdcmaaaW.PrintWords
def laws_FnExactBurnt.PureR : Prop := ∀ (l0 : List S68) (l1 : List S70), (l0.length ≤ 9223372036854775807 ∧ ∀ y2 ∈ l0, ((-9223372036854775808 ≤ y2.f0 ∧ y2.f0 ≤ 9223372036854775807) ∧ (-9223372036854775808 ≤ y2.f1 ∧ y2.f1 ≤ 9223372036854775807))) → (l1.length ≤ 9223372036854775807 ∧ ∀ y2 ∈ l1, ((-9223372036854775808 ≤ y2.f0 ∧ y2.f0 ≤ 9223372036854775807) ∧ (-9223372036854775808 ≤ y2.f1 ∧ y2.f1 ≤ 9223372036854775807))) → ∃ k, laws_FnExactBurnt.f k l0 l1 = some true
end Go.Proofs.Yteedbciobdcmaaa.QFnExactBurnt
