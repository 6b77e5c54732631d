/- Proved here: the law FnExactGridOk answers true at every input and leaves its arguments as they were; no condition. The walk is the printed one; the statement over numbers and lists is proved in YtgbkmbdciknedaaPureFnExactGridOk. -/
import Derived.Test.YtgbkmbdciknedaaRows
import Derived.Test.YtgbkmbdciknedaaQFnExactGridOkx4
import Derived.Test.YtgbkmbdciknedaaPureDefFnExactGridOk
import Derived.Test.YtgbkmbdciknedaaPureFnExactGridOk
import Derived.Test.YtgbkmbdciknedaaOpens
import Derived.WalkKit
import Derived.ProofKit
import Derived.OpenShut
import Derived.ShutString
import Derived.ChangeOld
import Derived.Below
import Derived.SizedLaws
import Derived.Deep.Slices
namespace Go.Proofs.Ytgbkmbdciknedaa.fnExactGridOk
open Go.ChangeShapes Go.WideShapes Go.ChangeAt Go.RowKit Go.Proofs.YtgbkmbdciknedaaW.PrintWords Go.Proofs.Ytgbkmbdciknedaa.Open Go.Proofs.Ytgbkmbdciknedaa.QFnExactGridOk
set_option linter.unusedVariables false
theorem own : ownKnob Try.prog.godebug = none := by kernel_rfl
theorem laidOut : laidOutB Try.prog = true := by kernel_rfl
theorem o_3 : Opens Try.prog (Kd.int .i64) 3 (fun x : Int => (-9223372036854775808 ≤ x ∧ x ≤ 9223372036854775807)) := opens_i64 Try.underlying3
theorem o_35 : Opens Try.prog (Kd.slice 3 (Kd.int .i64)) 35 (fun x : List Int => (x.length ≤ 9223372036854775807 ∧ ∀ y1 ∈ x, (-9223372036854775808 ≤ y1 ∧ y1 ≤ 9223372036854775807))) := opens_slice (0 : Int) Try.underlying35 (by kernel_rfl) o_3
theorem o_98 : Opens Try.prog (Kd.slice 35 (Kd.slice 3 (Kd.int .i64))) 98 (fun x : List (List Int) => (x.length ≤ 9223372036854775807 ∧ ∀ y1 ∈ x, (y1.length ≤ 9223372036854775807 ∧ ∀ y2 ∈ y1, (-9223372036854775808 ≤ y2 ∧ y2 ≤ 9223372036854775807)))) := opens_slice ([] : List Int) Try.underlying98 (by kernel_rfl) o_35
theorem p_0 : Opens Try.prog (Kd.iso (Kd.pair (Kd.slice 3 (Kd.int .i64)) (Kd.pair (Kd.slice 3 (Kd.int .i64)) (Kd.slice 35 (Kd.slice 3 (Kd.int .i64))))) (fun p : (List Int) × (List Int) × (List (List Int)) => p)) 100 (fun p => (p.1.length ≤ 9223372036854775807 ∧ ∀ y3 ∈ p.1, (-9223372036854775808 ≤ y3 ∧ y3 ≤ 9223372036854775807)) ∧ (p.2.1.length ≤ 9223372036854775807 ∧ ∀ y5 ∈ p.2.1, (-9223372036854775808 ≤ y5 ∧ y5 ≤ 9223372036854775807)) ∧ (p.2.2.length ≤ 9223372036854775807 ∧ ∀ y5 ∈ p.2.2, (y5.length ≤ 9223372036854775807 ∧ ∀ y2 ∈ y5, (-9223372036854775808 ≤ y2 ∧ y2 ≤ 9223372036854775807)))) := opens_struct (d := (Kd.pair (Kd.slice 3 (Kd.int .i64)) (Kd.pair (Kd.slice 3 (Kd.int .i64)) (Kd.slice 35 (Kd.slice 3 (Kd.int .i64)))))) (f := fun p : (List Int) × (List Int) × (List (List Int)) => p) (fun p => p) (fun _ => rfl) Try.underlying100 (by kernel_rfl) (by kernel_rfl) (opensL_cons (by kernel_rfl) rfl o_35 (opensL_cons (by kernel_rfl) rfl o_35 (opensL_one (by kernel_rfl) o_98)))
set_option maxRecDepth 100000 in
theorem lifted (os : Os) (started : os.Started) (H : Type) (enc : TypeId × Value → H) :
    ReturnsInHanded {} Try.checked os 14 .any (Rows.fnExactGridOkSpec.pre6 enc Try.prog Try.f14 Rows.fnExactGridOkRow.domain false) (Rows.fnExactGridOkSpec.post enc Try.prog Try.f14 false true false false) := by
  refine returnsInHanded_of_change_sized (C := Try.checked) own started (by kernel_rfl) Try.func14
    (ChangeSpec.witness6 (enc := enc) (C := Try.checked) false ⟨#[], #[.agg #[.slice none 0 0, .slice none 0 0, .slice none 0 0]], []⟩ 8 (by kernel_rfl) (by kernel_rfl) (by kernel_rfl) (by kernel_rfl)) ?_
  intro W base args ds gs before hval0 hW hcnd hsz0 _
  have hval : ∀ (j : Nat) t v, Try.f14.params[j]? = some t → args[j]? = some v → Value.okWide Try.prog W .any base t v := hval0
  have hW' := hW
  obtain ⟨p, q, hA0, hV, rfl, hfz, hnd⟩ := hW
  have hA : DataW.TrodAll enc Try.prog W 0 (fun _ => true) true Try.f14.params.toList args.toList ds p := hA0
  rw [Try.params14] at hA hval
  obtain ⟨v0, vs0, d0, ds0, p0, q0, hargs, rfl, rfl, h0, r0⟩ := trodAll_cons hA
  obtain ⟨rfl, rfl, rfl⟩ := trodAll_nil r0
  obtain rfl : args = #[v0] := by cases args; simp_all
  obtain ⟨rfl, rfl⟩ := trodVars_none hV
  have k0 := h0
  have lt0 : ∀ x ∈ p0, x.block < W.heap.size := by obtain ⟨m, hm⟩ := k0; exact DataW.trod_lt m _ _ _ hm
  obtain ⟨fuel0, hf0⟩ := h0
  obtain ⟨cs0, rfl, _⟩ := okWide_struct Try.underlying100 (hval 0 100 v0 rfl rfl)
  obtain ⟨y0, K0, w0⟩ := p_0 (cs := cs0.toList) (by simpa [Value.cells] using hf0)
  obtain ⟨_, _, e0, ⟨A0_0, c0_0, rfl, l0_0, g0_0⟩, ⟨_, _, rfl, ⟨A0_1, c0_1, rfl, l0_1, g0_1⟩, ⟨A0_2, c0_2, rfl, l0_2, g0_2⟩⟩⟩ := K0
  obtain rfl : cs0 = #[.slice A0_0 (y0.1).length c0_0, .slice A0_1 (y0.2.1).length c0_1, .slice A0_2 (y0.2.2).length c0_2] := by apply Array.toList_inj.1; rw [e0]; rfl
  obtain ⟨k, h⟩ := Pure.FnExactGridOk (y0.1) (y0.2.1) (y0.2.2) w0.1 w0.2.1 w0.2.2
  refine (laws_FnExactGridOk.calls k _ _ (y0.1) _ _ (y0.2.1) _ _ (y0.2.2) true W g0_0 l0_0 g0_1 l0_1 g0_2 l0_2 h).mono fun e W' ⟨he, bel0⟩ => ?_
  subst he
  have bel : Below W.heap.size W W' := bel0
  exact ⟨_, rfl, _, _, _, [], _, [], hW', trodAll_mk1 (shut_bool Try.underlying4 _), (trodAll_cons_mk (Below.trod laidOut (by kernel_rfl) (of_decide_eq_true (by kernel_rfl)) k0 bel lt0) trodAll_mk0), rfl, bel.frame _, fun h => by cases h⟩
theorem over : Rows.fnExactGridOkRow.holds Try.pinned (OpenSpec.ofChange Rows.fnExactGridOkSpec) :=
  OpenClaim.holds_of_wide 14 Try.f14 rfl rfl rfl rfl rfl rfl rfl ⟨rfl, rfl, rfl, rfl, rfl⟩ rfl rfl rfl rfl rfl (by kernel_rfl) Try.func14 (by kernel_rfl)
    (of_decide_eq_true (by kernel_rfl)) (by unfold Func.isWrapper; first | (rw [if_pos (by decide +kernel)]; kernel_rfl) | (rw [if_neg (by decide +kernel)]; exact ⟨rfl, rfl⟩))
    (fun os started H enc _ => lifted os started H enc)
theorem proved : Rows.FnExactGridOkSaid := over
end Go.Proofs.Ytgbkmbdciknedaa.fnExactGridOk
namespace Go.Proofs.Ytgbkmbdciknedaa
/-- The row, under a short name, for the claim. -/
theorem fnExactGridOk_holds : Rows.FnExactGridOkSaid := fnExactGridOk.proved
#print axioms fnExactGridOk_holds
end Go.Proofs.Ytgbkmbdciknedaa
