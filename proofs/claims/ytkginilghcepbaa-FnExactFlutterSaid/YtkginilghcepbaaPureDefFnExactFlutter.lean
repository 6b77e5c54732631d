/- The pure statement that the row of the law FnExactFlutter comes to: over numbers and lists alone. A definition; nothing is proved here. -/
import Derived.Test.YtkginilghcepbaaQFnExactFlutterx3
namespace Go.Proofs.Ytkginilghcepbaa.QFnExactFlutter
open Go.RowKit Go.Proofs.YtkginilghcepbaaW.PrintWords
def laws_FnExactFlutter.PureR : Prop := ∀ (a0_0 : Fl) (a0_1 : Fl) (a1_0 : Fl) (a1_1 : Fl) (a2_0 : Fl) (a2_1 : Fl) (a3_0 : Fl) (a3_1 : Fl), ∃ k, laws_FnExactFlutter.f k a0_0 a0_1 a1_0 a1_1 a2_0 a2_1 a3_0 a3_1 = some true
end Go.Proofs.Ytkginilghcepbaa.QFnExactFlutter
