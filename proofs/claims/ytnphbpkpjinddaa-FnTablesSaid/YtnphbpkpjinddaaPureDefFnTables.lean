/- The pure statement that the row of the law FnTables comes to: over numbers and lists alone. A definition; nothing is proved here. -/
import Derived.Test.YtnphbpkpjinddaaQFnTablesx7
namespace Go.Proofs.Ytnphbpkpjinddaa.QFnTables
open Go.RowKit Go.Proofs.YtnphbpkpjinddaaW.PrintWords
def laws_FnTables.PureR : Prop := ∀ (l0 : List Int), (l0.length ≤ 9223372036854775807 ∧ ∀ y2 ∈ l0, (0 ≤ y2 ∧ y2 ≤ 255)) → ∃ k, laws_FnTables.f k l0 = some true
end Go.Proofs.Ytnphbpkpjinddaa.QFnTables
