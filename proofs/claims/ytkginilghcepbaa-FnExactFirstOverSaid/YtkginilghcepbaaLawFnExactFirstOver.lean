/- Proved here: the law FnExactFirstOver answers true at every input and leaves its arguments as they were; no condition. The walk is the printed one; the statement over numbers and lists is proved in YtkginilghcepbaaPureFnExactFirstOver. -/
import Derived.Test.YtkginilghcepbaaRows
import Derived.Test.YtkginilghcepbaaQFnExactFirstOverx2
import Derived.Test.YtkginilghcepbaaPureDefFnExactFirstOver
import Derived.Test.YtkginilghcepbaaPureFnExactFirstOver
import Derived.Test.YtkginilghcepbaaOpens
import Derived.Test.YtkginilghcepbaaFlOpens
import Derived.WalkKit
import Derived.ProofKit
import Derived.OpenShut
import Derived.ShutString
import Derived.ChangeOld
import Derived.Below
import Derived.SizedLaws
import Derived.Deep.Slices
namespace Go.Proofs.Ytkginilghcepbaa.fnExactFirstOver
open Go.ChangeShapes Go.WideShapes Go.ChangeAt Go.RowKit Go.Proofs.YtkginilghcepbaaW.PrintWords Go.Proofs.Ytkginilghcepbaa.Open Go.Proofs.Ytkginilghcepbaa.QFnExactFirstOver
set_option linter.unusedVariables false
theorem own : ownKnob Try.prog.godebug = none := by kernel_rfl
theorem laidOut : laidOutB Try.prog = true := by kernel_rfl
theorem o_36 : Opens Try.prog (Kd.fl .f64) 36 (fun x : Fl => True) := opens_fl Try.underlying36
theorem o_118 : Opens Try.prog k118 118 (fun x : S118 => (True ∧ True ∧ True ∧ True)) := opens_struct (d := (Kd.pair (Kd.fl .f64) (Kd.pair (Kd.fl .f64) (Kd.pair (Kd.fl .f64) (Kd.fl .f64))))) (f := fun x : S118 => (x.f0, x.f1, x.f2, x.f3)) (fun p => ⟨p.1, p.2.1, p.2.2.1, p.2.2.2⟩) (fun _ => rfl) Try.underlying118 (by kernel_rfl) (by kernel_rfl) (opensL_cons (by kernel_rfl) rfl o_36 (opensL_cons (by kernel_rfl) rfl o_36 (opensL_cons (by kernel_rfl) rfl o_36 (opensL_one (by kernel_rfl) o_36))))
theorem o_73 : Opens Try.prog (Kd.slice 118 k118) 73 (fun x : List S118 => (x.length ≤ 9223372036854775807 ∧ ∀ y1 ∈ x, (True ∧ True ∧ True ∧ True))) := opens_slice z118 Try.underlying73 (by kernel_rfl) o_118
set_option maxRecDepth 100000 in
theorem lifted (os : Os) (started : os.Started) (H : Type) (enc : TypeId × Value → H) :
    ReturnsInHanded {} Try.checked os 8 .any (Rows.fnExactFirstOverSpec.pre6 enc Try.prog Try.f8 Rows.fnExactFirstOverRow.domain false) (Rows.fnExactFirstOverSpec.post enc Try.prog Try.f8 false true false false) := by
  refine returnsInHanded_of_change_sized (C := Try.checked) own started (by kernel_rfl) Try.func8
    (ChangeSpec.witness6 (enc := enc) (C := Try.checked) false ⟨#[], #[.slice none 0 0, .float .f64 0], []⟩ 8 (by kernel_rfl) (by kernel_rfl) (by kernel_rfl) (by kernel_rfl)) ?_
  intro W base args ds gs before hval0 hW hcnd hsz0 _
  have hval : ∀ (j : Nat) t v, Try.f8.params[j]? = some t → args[j]? = some v → Value.okWide Try.prog W .any base t v := hval0
  have hW' := hW
  obtain ⟨p, q, hA0, hV, rfl, hfz, hnd⟩ := hW
  have hA : DataW.TrodAll enc Try.prog W 0 (fun _ => true) true Try.f8.params.toList args.toList ds p := hA0
  rw [Try.params8] at hA hval
  obtain ⟨v0, vs0, d0, ds0, p0, q0, hargs, rfl, rfl, h0, r0⟩ := trodAll_cons hA
  obtain ⟨v1, vs1, d1, ds1, p1, q1, rfl, rfl, rfl, h1, r1⟩ := trodAll_cons r0
  obtain ⟨rfl, rfl, rfl⟩ := trodAll_nil r1
  obtain rfl : args = #[v0, v1] := by cases args; simp_all
  obtain ⟨rfl, rfl⟩ := trodVars_none hV
  have k0 := h0
  have lt0 : ∀ x ∈ p0, x.block < W.heap.size := by obtain ⟨m, hm⟩ := k0; exact DataW.trod_lt m _ _ _ hm
  obtain ⟨fuel0, hf0⟩ := h0
  obtain ⟨a0, len0, cap0, rfl⟩ := okWide_slice Try.underlying73 (hval 0 73 v0 rfl rfl)
  obtain ⟨y0, ⟨A0, c0, e0, l0, g0⟩, w0⟩ := o_73 (cs := [.slice a0 len0 cap0]) (by simpa [Value.cells] using hf0)
  simp only [List.cons.injEq, and_true, Value.slice.injEq] at e0
  obtain ⟨rfl, rfl, rfl⟩ := e0
  have k1 := h1
  have lt1 : ∀ x ∈ p1, x.block < W.heap.size := by obtain ⟨m, hm⟩ := k1; exact DataW.trod_lt m _ _ _ hm
  obtain ⟨fuel1, hf1⟩ := h1
  obtain ⟨b1, rfl, _, _, _⟩ := open_float Try.underlying36 (hval 1 36 v1 rfl rfl) k1
  obtain ⟨k, h⟩ := Pure.FnExactFirstOver y0 (cn .f64 b1) w0
  refine (laws_FnExactFirstOver.calls k _ _ y0 b1 (cn .f64 b1) true W g0 l0 rfl h).mono fun e W' ⟨he, bel0⟩ => ?_
  subst he
  have bel : Below W.heap.size W W' := bel0
  exact ⟨_, rfl, _, _, _, [], _, [], hW', trodAll_mk1 (shut_bool Try.underlying4 _), (trodAll_cons_mk (Below.trod laidOut (by kernel_rfl) (of_decide_eq_true (by kernel_rfl)) k0 bel lt0) (trodAll_cons_mk (Below.trod laidOut (by kernel_rfl) (of_decide_eq_true (by kernel_rfl)) k1 bel lt1) trodAll_mk0)), rfl, bel.frame _, fun h => by cases h⟩
theorem over : Rows.fnExactFirstOverRow.holds Try.pinned (OpenSpec.ofChange Rows.fnExactFirstOverSpec) :=
  OpenClaim.holds_of_wide 8 Try.f8 rfl rfl rfl rfl rfl rfl rfl ⟨rfl, rfl, rfl, rfl, rfl⟩ rfl rfl rfl rfl rfl (by kernel_rfl) Try.func8 (by kernel_rfl)
    (of_decide_eq_true (by kernel_rfl)) (by unfold Func.isWrapper; first | (rw [if_pos (by decide +kernel)]; kernel_rfl) | (rw [if_neg (by decide +kernel)]; exact ⟨rfl, rfl⟩))
    (fun os started H enc _ => lifted os started H enc)
theorem proved : Rows.FnExactFirstOverSaid := over
end Go.Proofs.Ytkginilghcepbaa.fnExactFirstOver
namespace Go.Proofs.Ytkginilghcepbaa
/-- The row, under a short name, for the claim. -/
theorem fnExactFirstOver_holds : Rows.FnExactFirstOverSaid := fnExactFirstOver.proved
#print axioms fnExactFirstOver_holds
end Go.Proofs.Ytkginilghcepbaa
