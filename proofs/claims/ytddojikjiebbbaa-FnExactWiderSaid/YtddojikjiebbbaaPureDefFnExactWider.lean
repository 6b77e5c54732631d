/- The pure statement that the row of the law FnExactWider comes to: over numbers and lists alone. A definition; nothing is proved here. -/
import Derived.Test.YtddojikjiebbbaaQFnExactWiderx1
namespace Go.Proofs.Ytddojikjiebbbaa.QFnExactWider
open Go.RowKit Go.Proofs.YtddojikjiebbbaaW.PrintWords
def laws_FnExactWider.PureR : Prop := ∀ (a0_0 : Fl) (a0_1 : Fl), ∃ k, laws_FnExactWider.f k a0_0 a0_1 = some true
end Go.Proofs.Ytddojikjiebbbaa.QFnExactWider
