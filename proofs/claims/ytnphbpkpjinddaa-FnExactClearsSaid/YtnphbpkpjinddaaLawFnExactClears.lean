/- Proved here: the law FnExactClears answers true at every input and leaves its arguments as they were; no condition. The walk is the printed one; the statement over numbers and lists is proved in YtnphbpkpjinddaaPureFnExactClears. -/
import Derived.Test.YtnphbpkpjinddaaRows
import Derived.Test.YtnphbpkpjinddaaQFnExactClearsx4
import Derived.Test.YtnphbpkpjinddaaPureDefFnExactClears
import Derived.Test.YtnphbpkpjinddaaPureFnExactClears
import Derived.Test.YtnphbpkpjinddaaOpens
import Derived.WalkKit
import Derived.ProofKit
import Derived.OpenShut
import Derived.ShutString
import Derived.ChangeOld
import Derived.Below
import Derived.SizedLaws
import Derived.Deep.Slices
namespace Go.Proofs.Ytnphbpkpjinddaa.fnExactClears
open Go.ChangeShapes Go.WideShapes Go.ChangeAt Go.RowKit Go.Proofs.YtnphbpkpjinddaaW.PrintWords Go.Proofs.Ytnphbpkpjinddaa.Open Go.Proofs.Ytnphbpkpjinddaa.QFnExactClears
set_option linter.unusedVariables false
theorem own : ownKnob Try.prog.godebug = none := by kernel_rfl
theorem laidOut : laidOutB Try.prog = true := by kernel_rfl
theorem o_3 : Opens Try.prog (Kd.int .i64) 3 (fun x : Int => (-9223372036854775808 ≤ x ∧ x ≤ 9223372036854775807)) := opens_i64 Try.underlying3
theorem o_139 : Opens Try.prog k139 139 (fun x : S139 => ((-9223372036854775808 ≤ x.f0 ∧ x.f0 ≤ 9223372036854775807) ∧ (-9223372036854775808 ≤ x.f1 ∧ x.f1 ≤ 9223372036854775807))) := opens_struct (d := (Kd.pair (Kd.int .i64) (Kd.int .i64))) (f := fun x : S139 => (x.f0, x.f1)) (fun p => ⟨p.1, p.2⟩) (fun _ => rfl) Try.underlying139 (by kernel_rfl) (by kernel_rfl) (opensL_cons (by kernel_rfl) rfl o_3 (opensL_one (by kernel_rfl) o_3))
theorem o_86 : Opens Try.prog (Kd.slice 139 k139) 86 (fun x : List S139 => (x.length ≤ 9223372036854775807 ∧ ∀ y1 ∈ x, ((-9223372036854775808 ≤ y1.f0 ∧ y1.f0 ≤ 9223372036854775807) ∧ (-9223372036854775808 ≤ y1.f1 ∧ y1.f1 ≤ 9223372036854775807)))) := opens_slice z139 Try.underlying86 (by kernel_rfl) o_139
theorem o_141 : Opens Try.prog k141 141 (fun x : S141 => ((-9223372036854775808 ≤ x.f0 ∧ x.f0 ≤ 9223372036854775807) ∧ (-9223372036854775808 ≤ x.f1 ∧ x.f1 ≤ 9223372036854775807))) := opens_struct (d := (Kd.pair (Kd.int .i64) (Kd.int .i64))) (f := fun x : S141 => (x.f0, x.f1)) (fun p => ⟨p.1, p.2⟩) (fun _ => rfl) Try.underlying141 (by kernel_rfl) (by kernel_rfl) (opensL_cons (by kernel_rfl) rfl o_3 (opensL_one (by kernel_rfl) o_3))
theorem o_87 : Opens Try.prog (Kd.slice 141 k141) 87 (fun x : List S141 => (x.length ≤ 9223372036854775807 ∧ ∀ y1 ∈ x, ((-9223372036854775808 ≤ y1.f0 ∧ y1.f0 ≤ 9223372036854775807) ∧ (-9223372036854775808 ≤ y1.f1 ∧ y1.f1 ≤ 9223372036854775807)))) := opens_slice z141 Try.underlying87 (by kernel_rfl) o_141
set_option maxRecDepth 100000 in
theorem lifted (os : Os) (started : os.Started) (H : Type) (enc : TypeId × Value → H) :
    ReturnsInHanded {} Try.checked os 11 .any (Rows.fnExactClearsSpec.pre6 enc Try.prog Try.f11 Rows.fnExactClearsRow.domain false) (Rows.fnExactClearsSpec.post enc Try.prog Try.f11 false true false false) := by
  refine returnsInHanded_of_change_sized (C := Try.checked) own started (by kernel_rfl) Try.func11
    (ChangeSpec.witness6 (enc := enc) (C := Try.checked) false ⟨#[], #[.int .i64 0, .slice none 0 0, .slice none 0 0, .int .i64 0], []⟩ 8 (by kernel_rfl) (by kernel_rfl) (by kernel_rfl) (by kernel_rfl)) ?_
  intro W base args ds gs before hval0 hW hcnd hsz0 _
  have hval : ∀ (j : Nat) t v, Try.f11.params[j]? = some t → args[j]? = some v → Value.okWide Try.prog W .any base t v := hval0
  have hW' := hW
  obtain ⟨p, q, hA0, hV, rfl, hfz, hnd⟩ := hW
  have hA : DataW.TrodAll enc Try.prog W 0 (fun _ => true) true Try.f11.params.toList args.toList ds p := hA0
  rw [Try.params11] at hA hval
  obtain ⟨v0, vs0, d0, ds0, p0, q0, hargs, rfl, rfl, h0, r0⟩ := trodAll_cons hA
  obtain ⟨v1, vs1, d1, ds1, p1, q1, rfl, rfl, rfl, h1, r1⟩ := trodAll_cons r0
  obtain ⟨v2, vs2, d2, ds2, p2, q2, rfl, rfl, rfl, h2, r2⟩ := trodAll_cons r1
  obtain ⟨v3, vs3, d3, ds3, p3, q3, rfl, rfl, rfl, h3, r3⟩ := trodAll_cons r2
  obtain ⟨rfl, rfl, rfl⟩ := trodAll_nil r3
  obtain rfl : args = #[v0, v1, v2, v3] := by cases args; simp_all
  obtain ⟨rfl, rfl⟩ := trodVars_none hV
  have k0 := h0
  have lt0 : ∀ x ∈ p0, x.block < W.heap.size := by obtain ⟨m, hm⟩ := k0; exact DataW.trod_lt m _ _ _ hm
  obtain ⟨fuel0, hf0⟩ := h0
  obtain ⟨a0, rfl, _, _, _⟩ := open_int Try.underlying3 (hval 0 3 v0 rfl rfl) k0
  obtain ⟨b0, hb0, w0⟩ := o_3 hf0
  obtain rfl : a0 = b0 := by have e : [Value.int .i64 a0] = [Value.int .i64 b0] := hb0; simpa using e
  have k1 := h1
  have lt1 : ∀ x ∈ p1, x.block < W.heap.size := by obtain ⟨m, hm⟩ := k1; exact DataW.trod_lt m _ _ _ hm
  obtain ⟨fuel1, hf1⟩ := h1
  obtain ⟨a1, len1, cap1, rfl⟩ := okWide_slice Try.underlying86 (hval 1 86 v1 rfl rfl)
  obtain ⟨y1, ⟨A1, c1, e1, l1, g1⟩, w1⟩ := o_86 (cs := [.slice a1 len1 cap1]) (by simpa [Value.cells] using hf1)
  simp only [List.cons.injEq, and_true, Value.slice.injEq] at e1
  obtain ⟨rfl, rfl, rfl⟩ := e1
  have k2 := h2
  have lt2 : ∀ x ∈ p2, x.block < W.heap.size := by obtain ⟨m, hm⟩ := k2; exact DataW.trod_lt m _ _ _ hm
  obtain ⟨fuel2, hf2⟩ := h2
  obtain ⟨a2, len2, cap2, rfl⟩ := okWide_slice Try.underlying87 (hval 2 87 v2 rfl rfl)
  obtain ⟨y2, ⟨A2, c2, e2, l2, g2⟩, w2⟩ := o_87 (cs := [.slice a2 len2 cap2]) (by simpa [Value.cells] using hf2)
  simp only [List.cons.injEq, and_true, Value.slice.injEq] at e2
  obtain ⟨rfl, rfl, rfl⟩ := e2
  have k3 := h3
  have lt3 : ∀ x ∈ p3, x.block < W.heap.size := by obtain ⟨m, hm⟩ := k3; exact DataW.trod_lt m _ _ _ hm
  obtain ⟨fuel3, hf3⟩ := h3
  obtain ⟨a3, rfl, _, _, _⟩ := open_int Try.underlying3 (hval 3 3 v3 rfl rfl) k3
  obtain ⟨b3, hb3, w3⟩ := o_3 hf3
  obtain rfl : a3 = b3 := by have e : [Value.int .i64 a3] = [Value.int .i64 b3] := hb3; simpa using e
  obtain ⟨k, h⟩ := Pure.FnExactClears a0 y1 y2 a3 w0 w1 w2 w3
  refine (laws_FnExactClears.calls k a0 _ _ y1 _ _ y2 a3 true W g1 l1 g2 l2 h).mono fun e W' ⟨he, bel0⟩ => ?_
  subst he
  have bel : Below W.heap.size W W' := bel0
  exact ⟨_, rfl, _, _, _, [], _, [], hW', trodAll_mk1 (shut_bool Try.underlying4 _), (trodAll_cons_mk (Below.trod laidOut (by kernel_rfl) (of_decide_eq_true (by kernel_rfl)) k0 bel lt0) (trodAll_cons_mk (Below.trod laidOut (by kernel_rfl) (of_decide_eq_true (by kernel_rfl)) k1 bel lt1) (trodAll_cons_mk (Below.trod laidOut (by kernel_rfl) (of_decide_eq_true (by kernel_rfl)) k2 bel lt2) (trodAll_cons_mk (Below.trod laidOut (by kernel_rfl) (of_decide_eq_true (by kernel_rfl)) k3 bel lt3) trodAll_mk0)))), rfl, bel.frame _, fun h => by cases h⟩
theorem over : Rows.fnExactClearsRow.holds Try.pinned (OpenSpec.ofChange Rows.fnExactClearsSpec) :=
  OpenClaim.holds_of_wide 11 Try.f11 rfl rfl rfl rfl rfl rfl rfl ⟨rfl, rfl, rfl, rfl, rfl⟩ rfl rfl rfl rfl rfl (by kernel_rfl) Try.func11 (by kernel_rfl)
    (of_decide_eq_true (by kernel_rfl)) (by unfold Func.isWrapper; first | (rw [if_pos (by decide +kernel)]; kernel_rfl) | (rw [if_neg (by decide +kernel)]; exact ⟨rfl, rfl⟩))
    (fun os started H enc _ => lifted os started H enc)
theorem proved : Rows.FnExactClearsSaid := over
end Go.Proofs.Ytnphbpkpjinddaa.fnExactClears
namespace Go.Proofs.Ytnphbpkpjinddaa
/-- The row, under a short name, for the claim. -/
theorem fnExactClears_holds : Rows.FnExactClearsSaid := fnExactClears.proved
#print axioms fnExactClears_holds
end Go.Proofs.Ytnphbpkpjinddaa
