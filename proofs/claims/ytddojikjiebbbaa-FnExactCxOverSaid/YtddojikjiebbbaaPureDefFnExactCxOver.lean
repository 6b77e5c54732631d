/- The pure statement that the row of the law FnExactCxOver comes to: over numbers and lists alone. A definition; nothing is proved here. -/
import Derived.Test.YtddojikjiebbbaaQFnExactCxOverx3
namespace Go.Proofs.Ytddojikjiebbbaa.QFnExactCxOver
open Go.RowKit Go.Proofs.YtddojikjiebbbaaW.PrintWords
def laws_FnExactCxOver.PureR : Prop := ∀ (a0_0 : Fl) (a0_1 : Fl) (a1_0 : Fl) (a1_1 : Fl), ∃ k, laws_FnExactCxOver.f k a0_0 a0_1 a1_0 a1_1 = some true
end Go.Proofs.Ytddojikjiebbbaa.QFnExactCxOver
