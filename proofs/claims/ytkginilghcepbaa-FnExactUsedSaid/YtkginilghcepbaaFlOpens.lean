/- What a float that can be read as data says in the words of the print's kinds. No condition of its own. -/
import Derived.Test.YtkginilghcepbaaOpens
import Derived.Test.YtkginilghcepbaaWFl
namespace Go.Proofs.Ytkginilghcepbaa.Open
open Go.RowKit Go.ChangeShapes Go.WideShapes Go.Deep Go.Proofs.YtkginilghcepbaaW.PrintWords
set_option linter.unusedVariables false

theorem trod_float {H : Type} {enc : TypeId × Value → H} {P : Program} {w : World} {base : Nat} {spare : Nat → Bool} {held : Bool} {fuel : Nat} {t : TypeId} {cs : List Value} {x : DataW H × List MemPlace} {k : FloatKind}
    (ht : P.underlying t = some (.float k)) (h : DataW.trod enc P w base spare held fuel t cs = some x) : ∃ b, cs = [.float k b] := by
  cases fuel with
  | zero => simp [DataW.trod] at h
  | succ n =>
    unfold DataW.trod at h
    rw [ht] at h
    split at h <;> simp_all
theorem opens_fl {P : Program} {t : TypeId} {k : FloatKind} (h : P.underlying t = some (.float k)) : Opens P (Kd.fl k) t (fun _ => True) := by
  intro H enc w base spare held fuel cs x hx
  obtain ⟨b, rfl⟩ := trod_float h hx
  exact ⟨cn k b, ⟨b, rfl, rfl⟩, trivial⟩
end Go.Proofs.Ytkginilghcepbaa.Open
