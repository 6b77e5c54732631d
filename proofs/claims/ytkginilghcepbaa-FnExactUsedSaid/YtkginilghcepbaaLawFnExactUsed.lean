/- Proved here: the law FnExactUsed answers true at every input and leaves its arguments as they were; no condition. The walk is the printed one; the statement over numbers and lists is proved in YtkginilghcepbaaPureFnExactUsed. -/
import Derived.Test.YtkginilghcepbaaRows
import Derived.Test.YtkginilghcepbaaQFnExactUsedx10
import Derived.Test.YtkginilghcepbaaPureDefFnExactUsed
import Derived.Test.YtkginilghcepbaaPureFnExactUsed
import Derived.Test.YtkginilghcepbaaOpens
import Derived.Test.YtkginilghcepbaaFlOpens
import Derived.WalkKit
import Derived.ProofKit
import Derived.OpenShut
import Derived.ShutString
import Derived.ChangeOld
import Derived.Below
import Derived.SizedLaws
import Derived.Deep.Slices
namespace Go.Proofs.Ytkginilghcepbaa.fnExactUsed
open Go.ChangeShapes Go.WideShapes Go.ChangeAt Go.RowKit Go.Proofs.YtkginilghcepbaaW.PrintWords Go.Proofs.Ytkginilghcepbaa.Open Go.Proofs.Ytkginilghcepbaa.QFnExactUsed
set_option linter.unusedVariables false
theorem own : ownKnob Try.prog.godebug = none := by kernel_rfl
theorem laidOut : laidOutB Try.prog = true := by kernel_rfl
theorem o_3 : Opens Try.prog (Kd.int .i64) 3 (fun x : Int => (-9223372036854775808 ≤ x ∧ x ≤ 9223372036854775807)) := opens_i64 Try.underlying3
theorem o_104 : Opens Try.prog k104 104 (fun x : S104 => ((-9223372036854775808 ≤ x.f0 ∧ x.f0 ≤ 9223372036854775807) ∧ (-9223372036854775808 ≤ x.f1 ∧ x.f1 ≤ 9223372036854775807))) := opens_struct (d := (Kd.pair (Kd.int .i64) (Kd.int .i64))) (f := fun x : S104 => (x.f0, x.f1)) (fun p => ⟨p.1, p.2⟩) (fun _ => rfl) Try.underlying104 (by kernel_rfl) (by kernel_rfl) (opensL_cons (by kernel_rfl) rfl o_3 (opensL_one (by kernel_rfl) o_3))
theorem o_22 : Opens Try.prog (Kd.slice 104 k104) 22 (fun x : List S104 => (x.length ≤ 9223372036854775807 ∧ ∀ y1 ∈ x, ((-9223372036854775808 ≤ y1.f0 ∧ y1.f0 ≤ 9223372036854775807) ∧ (-9223372036854775808 ≤ y1.f1 ∧ y1.f1 ≤ 9223372036854775807)))) := opens_slice z104 Try.underlying22 (by kernel_rfl) o_104
theorem o_23 : Opens Try.prog (Kd.slice 3 (Kd.int .i64)) 23 (fun x : List Int => (x.length ≤ 9223372036854775807 ∧ ∀ y1 ∈ x, (-9223372036854775808 ≤ y1 ∧ y1 ≤ 9223372036854775807))) := opens_slice (0 : Int) Try.underlying23 (by kernel_rfl) o_3
set_option maxRecDepth 100000 in
theorem lifted (os : Os) (started : os.Started) (H : Type) (enc : TypeId × Value → H) :
    ReturnsInHanded {} Try.checked os 3 .any (Rows.fnExactUsedSpec.pre6 enc Try.prog Try.f3 Rows.fnExactUsedRow.domain false) (Rows.fnExactUsedSpec.post enc Try.prog Try.f3 false true false false) := by
  refine returnsInHanded_of_change_sized (C := Try.checked) own started (by kernel_rfl) Try.func3
    (ChangeSpec.witness6 (enc := enc) (C := Try.checked) false ⟨#[], #[.slice none 0 0, .slice none 0 0], []⟩ 8 (by kernel_rfl) (by kernel_rfl) (by kernel_rfl) (by kernel_rfl)) ?_
  intro W base args ds gs before hval0 hW hcnd hsz0 _
  have hval : ∀ (j : Nat) t v, Try.f3.params[j]? = some t → args[j]? = some v → Value.okWide Try.prog W .any base t v := hval0
  have hW' := hW
  obtain ⟨p, q, hA0, hV, rfl, hfz, hnd⟩ := hW
  have hA : DataW.TrodAll enc Try.prog W 0 (fun _ => true) true Try.f3.params.toList args.toList ds p := hA0
  rw [Try.params3] at hA hval
  obtain ⟨v0, vs0, d0, ds0, p0, q0, hargs, rfl, rfl, h0, r0⟩ := trodAll_cons hA
  obtain ⟨v1, vs1, d1, ds1, p1, q1, rfl, rfl, rfl, h1, r1⟩ := trodAll_cons r0
  obtain ⟨rfl, rfl, rfl⟩ := trodAll_nil r1
  obtain rfl : args = #[v0, v1] := by cases args; simp_all
  obtain ⟨rfl, rfl⟩ := trodVars_none hV
  have k0 := h0
  have lt0 : ∀ x ∈ p0, x.block < W.heap.size := by obtain ⟨m, hm⟩ := k0; exact DataW.trod_lt m _ _ _ hm
  obtain ⟨fuel0, hf0⟩ := h0
  obtain ⟨a0, len0, cap0, rfl⟩ := okWide_slice Try.underlying22 (hval 0 22 v0 rfl rfl)
  obtain ⟨y0, ⟨A0, c0, e0, l0, g0⟩, w0⟩ := o_22 (cs := [.slice a0 len0 cap0]) (by simpa [Value.cells] using hf0)
  simp only [List.cons.injEq, and_true, Value.slice.injEq] at e0
  obtain ⟨rfl, rfl, rfl⟩ := e0
  have k1 := h1
  have lt1 : ∀ x ∈ p1, x.block < W.heap.size := by obtain ⟨m, hm⟩ := k1; exact DataW.trod_lt m _ _ _ hm
  obtain ⟨fuel1, hf1⟩ := h1
  obtain ⟨a1, len1, cap1, rfl⟩ := okWide_slice Try.underlying23 (hval 1 23 v1 rfl rfl)
  obtain ⟨y1, ⟨A1, c1, e1, l1, g1⟩, w1⟩ := o_23 (cs := [.slice a1 len1 cap1]) (by simpa [Value.cells] using hf1)
  simp only [List.cons.injEq, and_true, Value.slice.injEq] at e1
  obtain ⟨rfl, rfl, rfl⟩ := e1
  obtain ⟨k, h⟩ := Pure.FnExactUsed y0 y1 w0 w1
  refine (laws_FnExactUsed.calls k _ _ y0 _ _ y1 true W g0 l0 g1 l1 h).mono fun e W' ⟨he, bel0⟩ => ?_
  subst he
  have bel : Below W.heap.size W W' := bel0
  exact ⟨_, rfl, _, _, _, [], _, [], hW', trodAll_mk1 (shut_bool Try.underlying4 _), (trodAll_cons_mk (Below.trod laidOut (by kernel_rfl) (of_decide_eq_true (by kernel_rfl)) k0 bel lt0) (trodAll_cons_mk (Below.trod laidOut (by kernel_rfl) (of_decide_eq_true (by kernel_rfl)) k1 bel lt1) trodAll_mk0)), rfl, bel.frame _, fun h => by cases h⟩
theorem over : Rows.fnExactUsedRow.holds Try.pinned (OpenSpec.ofChange Rows.fnExactUsedSpec) :=
  OpenClaim.holds_of_wide 3 Try.f3 rfl rfl rfl rfl rfl rfl rfl ⟨rfl, rfl, rfl, rfl, rfl⟩ rfl rfl rfl rfl rfl (by kernel_rfl) Try.func3 (by kernel_rfl)
    (of_decide_eq_true (by kernel_rfl)) (by unfold Func.isWrapper; first | (rw [if_pos (by decide +kernel)]; kernel_rfl) | (rw [if_neg (by decide +kernel)]; exact ⟨rfl, rfl⟩))
    (fun os started H enc _ => lifted os started H enc)
theorem proved : Rows.FnExactUsedSaid := over
end Go.Proofs.Ytkginilghcepbaa.fnExactUsed
namespace Go.Proofs.Ytkginilghcepbaa
/-- The row, under a short name, for the claim. -/
theorem fnExactUsed_holds : Rows.FnExactUsedSaid := fnExactUsed.proved
#print axioms fnExactUsed_holds
end Go.Proofs.Ytkginilghcepbaa
