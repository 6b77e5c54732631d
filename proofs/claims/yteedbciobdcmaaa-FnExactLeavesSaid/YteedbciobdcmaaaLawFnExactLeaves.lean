/- Proved here: the law FnExactLeaves answers true at every input and leaves its arguments as they were; no condition. The walk is the printed one; the statement over numbers and lists is proved in YteedbciobdcmaaaPureFnExactLeaves. -/
import Derived.Test.YteedbciobdcmaaaRows
import Derived.Test.YteedbciobdcmaaaQFnExactLeavesx17
import Derived.Test.YteedbciobdcmaaaPureDefFnExactLeaves
import Derived.Test.YteedbciobdcmaaaPureFnExactLeaves
import Derived.Test.YteedbciobdcmaaaOpens
import Derived.WalkKit
import Derived.ProofKit
import Derived.OpenShut
import Derived.ShutString
import Derived.ChangeOld
import Derived.Below
import Derived.SizedLaws
import Derived.Deep.Slices
namespace Go.Proofs.Yteedbciobdcmaaa.fnExactLeaves
open Go.ChangeShapes Go.WideShapes Go.ChangeAt Go.RowKit Go.Proofs.YteedbciobdcmaaaW.PrintWords Go.Proofs.Yteedbciobdcmaaa.Open Go.Proofs.Yteedbciobdcmaaa.QFnExactLeaves
set_option linter.unusedVariables false
theorem own : ownKnob Try.prog.godebug = none := by kernel_rfl
theorem laidOut : laidOutB Try.prog = true := by kernel_rfl
theorem o_3 : Opens Try.prog (Kd.int .i64) 3 (fun x : Int => (-9223372036854775808 ≤ x ∧ x ≤ 9223372036854775807)) := opens_i64 Try.underlying3
theorem o_22 : Opens Try.prog (Kd.slice 3 (Kd.int .i64)) 22 (fun x : List Int => (x.length ≤ 9223372036854775807 ∧ ∀ y1 ∈ x, (-9223372036854775808 ≤ y1 ∧ y1 ≤ 9223372036854775807))) := opens_slice (0 : Int) Try.underlying22 (by kernel_rfl) o_3
theorem o_68 : Opens Try.prog k68 68 (fun x : S68 => ((-9223372036854775808 ≤ x.f0 ∧ x.f0 ≤ 9223372036854775807) ∧ (-9223372036854775808 ≤ x.f1 ∧ x.f1 ≤ 9223372036854775807))) := opens_struct (d := (Kd.pair (Kd.int .i64) (Kd.int .i64))) (f := fun x : S68 => (x.f0, x.f1)) (fun p => ⟨p.1, p.2⟩) (fun _ => rfl) Try.underlying68 (by kernel_rfl) (by kernel_rfl) (opensL_cons (by kernel_rfl) rfl o_3 (opensL_one (by kernel_rfl) o_3))
theorem o_27 : Opens Try.prog (Kd.slice 68 k68) 27 (fun x : List S68 => (x.length ≤ 9223372036854775807 ∧ ∀ y1 ∈ x, ((-9223372036854775808 ≤ y1.f0 ∧ y1.f0 ≤ 9223372036854775807) ∧ (-9223372036854775808 ≤ y1.f1 ∧ y1.f1 ≤ 9223372036854775807)))) := opens_slice z68 Try.underlying27 (by kernel_rfl) o_68
theorem o_70 : Opens Try.prog k70 70 (fun x : S70 => ((-9223372036854775808 ≤ x.f0 ∧ x.f0 ≤ 9223372036854775807) ∧ (-9223372036854775808 ≤ x.f1 ∧ x.f1 ≤ 9223372036854775807))) := opens_struct (d := (Kd.pair (Kd.int .i64) (Kd.int .i64))) (f := fun x : S70 => (x.f0, x.f1)) (fun p => ⟨p.1, p.2⟩) (fun _ => rfl) Try.underlying70 (by kernel_rfl) (by kernel_rfl) (opensL_cons (by kernel_rfl) rfl o_3 (opensL_one (by kernel_rfl) o_3))
theorem o_28 : Opens Try.prog (Kd.slice 70 k70) 28 (fun x : List S70 => (x.length ≤ 9223372036854775807 ∧ ∀ y1 ∈ x, ((-9223372036854775808 ≤ y1.f0 ∧ y1.f0 ≤ 9223372036854775807) ∧ (-9223372036854775808 ≤ y1.f1 ∧ y1.f1 ≤ 9223372036854775807)))) := opens_slice z70 Try.underlying28 (by kernel_rfl) o_70
theorem p_0 : Opens Try.prog (Kd.iso (Kd.pair (Kd.slice 3 (Kd.int .i64)) (Kd.pair (Kd.slice 3 (Kd.int .i64)) (Kd.slice 3 (Kd.int .i64)))) (fun p : (List Int) × (List Int) × (List Int) => p)) 24 (fun p => (p.1.length ≤ 9223372036854775807 ∧ ∀ y3 ∈ p.1, (-9223372036854775808 ≤ y3 ∧ y3 ≤ 9223372036854775807)) ∧ (p.2.1.length ≤ 9223372036854775807 ∧ ∀ y5 ∈ p.2.1, (-9223372036854775808 ≤ y5 ∧ y5 ≤ 9223372036854775807)) ∧ (p.2.2.length ≤ 9223372036854775807 ∧ ∀ y5 ∈ p.2.2, (-9223372036854775808 ≤ y5 ∧ y5 ≤ 9223372036854775807))) := opens_struct (d := (Kd.pair (Kd.slice 3 (Kd.int .i64)) (Kd.pair (Kd.slice 3 (Kd.int .i64)) (Kd.slice 3 (Kd.int .i64))))) (f := fun p : (List Int) × (List Int) × (List Int) => p) (fun p => p) (fun _ => rfl) Try.underlying24 (by kernel_rfl) (by kernel_rfl) (opensL_cons (by kernel_rfl) rfl o_22 (opensL_cons (by kernel_rfl) rfl o_22 (opensL_one (by kernel_rfl) o_22)))
theorem p_1 : Opens Try.prog (Kd.iso (Kd.pair (Kd.int .i64) (Kd.int .i64)) (fun p : Int × Int => p)) 26 (fun p => (-9223372036854775808 ≤ p.1 ∧ p.1 ≤ 9223372036854775807) ∧ (-9223372036854775808 ≤ p.2 ∧ p.2 ≤ 9223372036854775807)) := opens_struct (d := (Kd.pair (Kd.int .i64) (Kd.int .i64))) (f := fun p : Int × Int => p) (fun p => p) (fun _ => rfl) Try.underlying26 (by kernel_rfl) (by kernel_rfl) (opensL_cons (by kernel_rfl) rfl o_3 (opensL_one (by kernel_rfl) o_3))
set_option maxRecDepth 100000 in
theorem lifted (os : Os) (started : os.Started) (H : Type) (enc : TypeId × Value → H) :
    ReturnsInHanded {} Try.checked os 3 .any (Rows.fnExactLeavesSpec.pre6 enc Try.prog Try.f3 Rows.fnExactLeavesRow.domain false) (Rows.fnExactLeavesSpec.post enc Try.prog Try.f3 false true false false) := by
  refine returnsInHanded_of_change_sized (C := Try.checked) own started (by kernel_rfl) Try.func3
    (ChangeSpec.witness6 (enc := enc) (C := Try.checked) false ⟨#[], #[.agg #[.slice none 0 0, .slice none 0 0, .slice none 0 0], .agg #[.int .i64 0, .int .i64 0], .slice none 0 0, .slice none 0 0], []⟩ 8 (by kernel_rfl) (by kernel_rfl) (by kernel_rfl) (by kernel_rfl)) ?_
  intro W base args ds gs before hval0 hW hcnd hsz0 _
  have hval : ∀ (j : Nat) t v, Try.f3.params[j]? = some t → args[j]? = some v → Value.okWide Try.prog W .any base t v := hval0
  have hW' := hW
  obtain ⟨p, q, hA0, hV, rfl, hfz, hnd⟩ := hW
  have hA : DataW.TrodAll enc Try.prog W 0 (fun _ => true) true Try.f3.params.toList args.toList ds p := hA0
  rw [Try.params3] at hA hval
  obtain ⟨v0, vs0, d0, ds0, p0, q0, hargs, rfl, rfl, h0, r0⟩ := trodAll_cons hA
  obtain ⟨v1, vs1, d1, ds1, p1, q1, rfl, rfl, rfl, h1, r1⟩ := trodAll_cons r0
  obtain ⟨v2, vs2, d2, ds2, p2, q2, rfl, rfl, rfl, h2, r2⟩ := trodAll_cons r1
  obtain ⟨v3, vs3, d3, ds3, p3, q3, rfl, rfl, rfl, h3, r3⟩ := trodAll_cons r2
  obtain ⟨rfl, rfl, rfl⟩ := trodAll_nil r3
  obtain rfl : args = #[v0, v1, v2, v3] := by cases args; simp_all
  obtain ⟨rfl, rfl⟩ := trodVars_none hV
  have k0 := h0
  have lt0 : ∀ x ∈ p0, x.block < W.heap.size := by obtain ⟨m, hm⟩ := k0; exact DataW.trod_lt m _ _ _ hm
  obtain ⟨fuel0, hf0⟩ := h0
  obtain ⟨cs0, rfl, _⟩ := okWide_struct Try.underlying24 (hval 0 24 v0 rfl rfl)
  obtain ⟨y0, K0, w0⟩ := p_0 (cs := cs0.toList) (by simpa [Value.cells] using hf0)
  obtain ⟨_, _, e0, ⟨A0_0, c0_0, rfl, l0_0, g0_0⟩, ⟨_, _, rfl, ⟨A0_1, c0_1, rfl, l0_1, g0_1⟩, ⟨A0_2, c0_2, rfl, l0_2, g0_2⟩⟩⟩ := K0
  obtain rfl : cs0 = #[.slice A0_0 (y0.1).length c0_0, .slice A0_1 (y0.2.1).length c0_1, .slice A0_2 (y0.2.2).length c0_2] := by apply Array.toList_inj.1; rw [e0]; rfl
  have k1 := h1
  have lt1 : ∀ x ∈ p1, x.block < W.heap.size := by obtain ⟨m, hm⟩ := k1; exact DataW.trod_lt m _ _ _ hm
  obtain ⟨fuel1, hf1⟩ := h1
  obtain ⟨cs1, rfl, _⟩ := okWide_struct Try.underlying26 (hval 1 26 v1 rfl rfl)
  obtain ⟨y1, K1, w1⟩ := p_1 (cs := cs1.toList) (by simpa [Value.cells] using hf1)
  obtain ⟨_, _, e1, rfl, rfl⟩ := K1
  obtain rfl : cs1 = #[.int .i64 (y1.1), .int .i64 (y1.2)] := by apply Array.toList_inj.1; rw [e1]; rfl
  have k2 := h2
  have lt2 : ∀ x ∈ p2, x.block < W.heap.size := by obtain ⟨m, hm⟩ := k2; exact DataW.trod_lt m _ _ _ hm
  obtain ⟨fuel2, hf2⟩ := h2
  obtain ⟨a2, len2, cap2, rfl⟩ := okWide_slice Try.underlying27 (hval 2 27 v2 rfl rfl)
  obtain ⟨y2, ⟨A2, c2, e2, l2, g2⟩, w2⟩ := o_27 (cs := [.slice a2 len2 cap2]) (by simpa [Value.cells] using hf2)
  simp only [List.cons.injEq, and_true, Value.slice.injEq] at e2
  obtain ⟨rfl, rfl, rfl⟩ := e2
  have k3 := h3
  have lt3 : ∀ x ∈ p3, x.block < W.heap.size := by obtain ⟨m, hm⟩ := k3; exact DataW.trod_lt m _ _ _ hm
  obtain ⟨fuel3, hf3⟩ := h3
  obtain ⟨a3, len3, cap3, rfl⟩ := okWide_slice Try.underlying28 (hval 3 28 v3 rfl rfl)
  obtain ⟨y3, ⟨A3, c3, e3, l3, g3⟩, w3⟩ := o_28 (cs := [.slice a3 len3 cap3]) (by simpa [Value.cells] using hf3)
  simp only [List.cons.injEq, and_true, Value.slice.injEq] at e3
  obtain ⟨rfl, rfl, rfl⟩ := e3
  obtain ⟨k, h⟩ := Pure.FnExactLeaves (y0.1) (y0.2.1) (y0.2.2) (y1.1) (y1.2) y2 y3 w0.1 w0.2.1 w0.2.2 w1.1 w1.2 w2 w3
  refine (laws_FnExactLeaves.calls k _ _ (y0.1) _ _ (y0.2.1) _ _ (y0.2.2) (y1.1) (y1.2) _ _ y2 _ _ y3 true W g0_0 l0_0 g0_1 l0_1 g0_2 l0_2 g2 l2 g3 l3 h).mono fun e W' ⟨he, bel0⟩ => ?_
  subst he
  have bel : Below W.heap.size W W' := bel0
  exact ⟨_, rfl, _, _, _, [], _, [], hW', trodAll_mk1 (shut_bool Try.underlying4 _), (trodAll_cons_mk (Below.trod laidOut (by kernel_rfl) (of_decide_eq_true (by kernel_rfl)) k0 bel lt0) (trodAll_cons_mk (Below.trod laidOut (by kernel_rfl) (of_decide_eq_true (by kernel_rfl)) k1 bel lt1) (trodAll_cons_mk (Below.trod laidOut (by kernel_rfl) (of_decide_eq_true (by kernel_rfl)) k2 bel lt2) (trodAll_cons_mk (Below.trod laidOut (by kernel_rfl) (of_decide_eq_true (by kernel_rfl)) k3 bel lt3) trodAll_mk0)))), rfl, bel.frame _, fun h => by cases h⟩
theorem over : Rows.fnExactLeavesRow.holds Try.pinned (OpenSpec.ofChange Rows.fnExactLeavesSpec) :=
  OpenClaim.holds_of_wide 3 Try.f3 rfl rfl rfl rfl rfl rfl rfl ⟨rfl, rfl, rfl, rfl, rfl⟩ rfl rfl rfl rfl rfl (by kernel_rfl) Try.func3 (by kernel_rfl)
    (of_decide_eq_true (by kernel_rfl)) (by unfold Func.isWrapper; first | (rw [if_pos (by decide +kernel)]; kernel_rfl) | (rw [if_neg (by decide +kernel)]; exact ⟨rfl, rfl⟩))
    (fun os started H enc _ => lifted os started H enc)
theorem proved : Rows.FnExactLeavesSaid := over
end Go.Proofs.Yteedbciobdcmaaa.fnExactLeaves
namespace Go.Proofs.Yteedbciobdcmaaa
/-- The row, under a short name, for the claim. -/
theorem fnExactLeaves_holds : Rows.FnExactLeavesSaid := fnExactLeaves.proved
#print axioms fnExactLeaves_holds
end Go.Proofs.Yteedbciobdcmaaa
