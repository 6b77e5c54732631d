/- The pure statement that the row of the law FnExactCxSame comes to: over numbers and lists alone. A definition; nothing is proved here. -/
import Derived.Test.YtddojikjiebbbaaQFnExactCxSamex1
namespace Go.Proofs.Ytddojikjiebbbaa.QFnExactCxSame
open Go.RowKit Go.Proofs.YtddojikjiebbbaaW.PrintWords
def laws_FnExactCxSame.PureR : Prop := ∀ (a0_0 : Fl) (a0_1 : Fl) (a1_0 : Fl) (a1_1 : Fl), laws_FnExactCxSame.f a0_0 a0_1 a1_0 a1_1 = some true
end Go.Proofs.Ytddojikjiebbbaa.QFnExactCxSame
