/- The pure statement that the row of the law FnExactLoad5 comes to: over numbers and lists alone. A definition; nothing is proved here. -/
import Derived.Test.YtddojikjiebbbaaQFnExactLoad5x2
namespace Go.Proofs.Ytddojikjiebbbaa.QFnExactLoad5
open Go.RowKit Go.Proofs.YtddojikjiebbbaaW.PrintWords
def laws_FnExactLoad5.PureR : Prop := ∀ (a0_0 : Fl) (a0_1 : Fl) (a0_2 : Fl) (a0_3 : Fl) (a1_0 : Fl) (a1_1 : Fl) (a1_2 : Fl) (a1_3 : Fl) (a1_4 : Fl), ∃ k, laws_FnExactLoad5.f k a0_0 a0_1 a0_2 a0_3 a1_0 a1_1 a1_2 a1_3 a1_4 = some true
end Go.Proofs.Ytddojikjiebbbaa.QFnExactLoad5
