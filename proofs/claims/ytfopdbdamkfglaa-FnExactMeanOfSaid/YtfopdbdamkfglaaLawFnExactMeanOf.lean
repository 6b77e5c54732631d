/- Proved here: the law FnExactMeanOf answers true at every input and leaves its arguments as they were; no condition. The walk is the printed one; the statement over numbers and lists is proved in YtfopdbdamkfglaaPureFnExactMeanOf. -/
import Derived.Test.YtfopdbdamkfglaaRows
import Derived.Test.YtfopdbdamkfglaaQFnExactMeanOfx2
import Derived.Test.YtfopdbdamkfglaaPureDefFnExactMeanOf
import Derived.Test.YtfopdbdamkfglaaPureFnExactMeanOf
import Derived.Test.YtfopdbdamkfglaaOpens
import Derived.Test.YtfopdbdamkfglaaFlOpens
import Derived.WalkKit
import Derived.ProofKit
import Derived.OpenShut
import Derived.ShutString
import Derived.ChangeOld
import Derived.Below
import Derived.SizedLaws
import Derived.Deep.Slices
namespace Go.Proofs.Ytfopdbdamkfglaa.fnExactMeanOf
open Go.ChangeShapes Go.WideShapes Go.ChangeAt Go.RowKit Go.Proofs.YtfopdbdamkfglaaW.PrintWords Go.Proofs.Ytfopdbdamkfglaa.Open Go.Proofs.Ytfopdbdamkfglaa.QFnExactMeanOf
set_option linter.unusedVariables false
theorem own : ownKnob Try.prog.godebug = none := by kernel_rfl
theorem laidOut : laidOutB Try.prog = true := by kernel_rfl
theorem o_23 : Opens Try.prog (Kd.fl .f64) 23 (fun x : Fl => True) := opens_fl Try.underlying23
theorem o_22 : Opens Try.prog (Kd.slice 23 (Kd.fl .f64)) 22 (fun x : List Fl => (x.length ≤ 9223372036854775807 ∧ ∀ y1 ∈ x, True)) := opens_slice (cn .f64 0) Try.underlying22 (by kernel_rfl) o_23
set_option maxRecDepth 100000 in
theorem lifted (os : Os) (started : os.Started) (H : Type) (enc : TypeId × Value → H) :
    ReturnsInHanded {} Try.checked os 3 .any (Rows.fnExactMeanOfSpec.pre6 enc Try.prog Try.f3 Rows.fnExactMeanOfRow.domain false) (Rows.fnExactMeanOfSpec.post enc Try.prog Try.f3 false true false false) := by
  refine returnsInHanded_of_change_sized (C := Try.checked) own started (by kernel_rfl) Try.func3
    (ChangeSpec.witness6 (enc := enc) (C := Try.checked) false ⟨#[], #[.slice none 0 0], []⟩ 8 (by kernel_rfl) (by kernel_rfl) (by kernel_rfl) (by kernel_rfl)) ?_
  intro W base args ds gs before hval0 hW hcnd hsz0 _
  have hval : ∀ (j : Nat) t v, Try.f3.params[j]? = some t → args[j]? = some v → Value.okWide Try.prog W .any base t v := hval0
  have hW' := hW
  obtain ⟨p, q, hA0, hV, rfl, hfz, hnd⟩ := hW
  have hA : DataW.TrodAll enc Try.prog W 0 (fun _ => true) true Try.f3.params.toList args.toList ds p := hA0
  rw [Try.params3] at hA hval
  obtain ⟨v0, vs0, d0, ds0, p0, q0, hargs, rfl, rfl, h0, r0⟩ := trodAll_cons hA
  obtain ⟨rfl, rfl, rfl⟩ := trodAll_nil r0
  obtain rfl : args = #[v0] := by cases args; simp_all
  obtain ⟨rfl, rfl⟩ := trodVars_none hV
  have k0 := h0
  have lt0 : ∀ x ∈ p0, x.block < W.heap.size := by obtain ⟨m, hm⟩ := k0; exact DataW.trod_lt m _ _ _ hm
  obtain ⟨fuel0, hf0⟩ := h0
  obtain ⟨a0, len0, cap0, rfl⟩ := okWide_slice Try.underlying22 (hval 0 22 v0 rfl rfl)
  obtain ⟨y0, ⟨A0, c0, e0, l0, g0⟩, w0⟩ := o_22 (cs := [.slice a0 len0 cap0]) (by simpa [Value.cells] using hf0)
  simp only [List.cons.injEq, and_true, Value.slice.injEq] at e0
  obtain ⟨rfl, rfl, rfl⟩ := e0
  obtain ⟨k, h⟩ := Pure.FnExactMeanOf y0 w0
  refine (laws_FnExactMeanOf.calls k _ _ y0 true W g0 l0 h).mono fun e W' ⟨he, bel0⟩ => ?_
  subst he
  have bel : Below W.heap.size W W' := bel0
  exact ⟨_, rfl, _, _, _, [], _, [], hW', trodAll_mk1 (shut_bool Try.underlying4 _), (trodAll_cons_mk (Below.trod laidOut (by kernel_rfl) (of_decide_eq_true (by kernel_rfl)) k0 bel lt0) trodAll_mk0), rfl, bel.frame _, fun h => by cases h⟩
theorem over : Rows.fnExactMeanOfRow.holds Try.pinned (OpenSpec.ofChange Rows.fnExactMeanOfSpec) :=
  OpenClaim.holds_of_wide 3 Try.f3 rfl rfl rfl rfl rfl rfl rfl ⟨rfl, rfl, rfl, rfl, rfl⟩ rfl rfl rfl rfl rfl (by kernel_rfl) Try.func3 (by kernel_rfl)
    (of_decide_eq_true (by kernel_rfl)) (by unfold Func.isWrapper; first | (rw [if_pos (by decide +kernel)]; kernel_rfl) | (rw [if_neg (by decide +kernel)]; exact ⟨rfl, rfl⟩))
    (fun os started H enc _ => lifted os started H enc)
theorem proved : Rows.FnExactMeanOfSaid := over
end Go.Proofs.Ytfopdbdamkfglaa.fnExactMeanOf
namespace Go.Proofs.Ytfopdbdamkfglaa
/-- The row, under a short name, for the claim. -/
theorem fnExactMeanOf_holds : Rows.FnExactMeanOfSaid := fnExactMeanOf.proved
#print axioms fnExactMeanOf_holds
end Go.Proofs.Ytfopdbdamkfglaa
