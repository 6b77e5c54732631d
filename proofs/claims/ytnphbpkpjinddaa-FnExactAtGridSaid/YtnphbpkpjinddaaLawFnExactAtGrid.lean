/- Proved here: the law FnExactAtGrid answers true at every input and leaves its arguments as they were; no condition. The walk is the printed one; the statement over numbers and lists is proved in YtnphbpkpjinddaaPureFnExactAtGrid. -/
import Derived.Test.YtnphbpkpjinddaaRows
import Derived.Test.YtnphbpkpjinddaaQFnExactAtGridx8
import Derived.Test.YtnphbpkpjinddaaPureDefFnExactAtGrid
import Derived.Test.YtnphbpkpjinddaaPureFnExactAtGrid
import Derived.Test.YtnphbpkpjinddaaOpens
import Derived.WalkKit
import Derived.ProofKit
import Derived.OpenShut
import Derived.ShutString
import Derived.ChangeOld
import Derived.Below
import Derived.SizedLaws
import Derived.Deep.Slices
namespace Go.Proofs.Ytnphbpkpjinddaa.fnExactAtGrid
open Go.ChangeShapes Go.WideShapes Go.ChangeAt Go.RowKit Go.Proofs.YtnphbpkpjinddaaW.PrintWords Go.Proofs.Ytnphbpkpjinddaa.Open Go.Proofs.Ytnphbpkpjinddaa.QFnExactAtGrid
set_option linter.unusedVariables false
theorem own : ownKnob Try.prog.godebug = none := by kernel_rfl
theorem laidOut : laidOutB Try.prog = true := by kernel_rfl
theorem o_3 : Opens Try.prog (Kd.int .i64) 3 (fun x : Int => (-9223372036854775808 ≤ x ∧ x ≤ 9223372036854775807)) := opens_i64 Try.underlying3
theorem o_22 : Opens Try.prog (Kd.slice 3 (Kd.int .i64)) 22 (fun x : List Int => (x.length ≤ 9223372036854775807 ∧ ∀ y1 ∈ x, (-9223372036854775808 ≤ y1 ∧ y1 ≤ 9223372036854775807))) := opens_slice (0 : Int) Try.underlying22 (by kernel_rfl) o_3
theorem o_70 : Opens Try.prog (Kd.slice 22 (Kd.slice 3 (Kd.int .i64))) 70 (fun x : List (List Int) => (x.length ≤ 9223372036854775807 ∧ ∀ y1 ∈ x, (y1.length ≤ 9223372036854775807 ∧ ∀ y2 ∈ y1, (-9223372036854775808 ≤ y2 ∧ y2 ≤ 9223372036854775807)))) := opens_slice ([] : List Int) Try.underlying70 (by kernel_rfl) o_22
theorem p_0 : Opens Try.prog (Kd.iso (Kd.pair (Kd.slice 3 (Kd.int .i64)) (Kd.pair (Kd.slice 3 (Kd.int .i64)) (Kd.slice 22 (Kd.slice 3 (Kd.int .i64))))) (fun p : (List Int) × (List Int) × (List (List Int)) => p)) 72 (fun p => (p.1.length ≤ 9223372036854775807 ∧ ∀ y3 ∈ p.1, (-9223372036854775808 ≤ y3 ∧ y3 ≤ 9223372036854775807)) ∧ (p.2.1.length ≤ 9223372036854775807 ∧ ∀ y5 ∈ p.2.1, (-9223372036854775808 ≤ y5 ∧ y5 ≤ 9223372036854775807)) ∧ (p.2.2.length ≤ 9223372036854775807 ∧ ∀ y5 ∈ p.2.2, (y5.length ≤ 9223372036854775807 ∧ ∀ y2 ∈ y5, (-9223372036854775808 ≤ y2 ∧ y2 ≤ 9223372036854775807)))) := opens_struct (d := (Kd.pair (Kd.slice 3 (Kd.int .i64)) (Kd.pair (Kd.slice 3 (Kd.int .i64)) (Kd.slice 22 (Kd.slice 3 (Kd.int .i64)))))) (f := fun p : (List Int) × (List Int) × (List (List Int)) => p) (fun p => p) (fun _ => rfl) Try.underlying72 (by kernel_rfl) (by kernel_rfl) (opensL_cons (by kernel_rfl) rfl o_22 (opensL_cons (by kernel_rfl) rfl o_22 (opensL_one (by kernel_rfl) o_70)))
set_option maxRecDepth 100000 in
theorem lifted (os : Os) (started : os.Started) (H : Type) (enc : TypeId × Value → H) :
    ReturnsInHanded {} Try.checked os 9 .any (Rows.fnExactAtGridSpec.pre6 enc Try.prog Try.f9 Rows.fnExactAtGridRow.domain false) (Rows.fnExactAtGridSpec.post enc Try.prog Try.f9 false true false false) := by
  refine returnsInHanded_of_change_sized (C := Try.checked) own started (by kernel_rfl) Try.func9
    (ChangeSpec.witness6 (enc := enc) (C := Try.checked) false ⟨#[], #[.agg #[.slice none 0 0, .slice none 0 0, .slice none 0 0], .int .i64 0, .int .i64 0], []⟩ 8 (by kernel_rfl) (by kernel_rfl) (by kernel_rfl) (by kernel_rfl)) ?_
  intro W base args ds gs before hval0 hW hcnd hsz0 _
  have hval : ∀ (j : Nat) t v, Try.f9.params[j]? = some t → args[j]? = some v → Value.okWide Try.prog W .any base t v := hval0
  have hW' := hW
  obtain ⟨p, q, hA0, hV, rfl, hfz, hnd⟩ := hW
  have hA : DataW.TrodAll enc Try.prog W 0 (fun _ => true) true Try.f9.params.toList args.toList ds p := hA0
  rw [Try.params9] at hA hval
  obtain ⟨v0, vs0, d0, ds0, p0, q0, hargs, rfl, rfl, h0, r0⟩ := trodAll_cons hA
  obtain ⟨v1, vs1, d1, ds1, p1, q1, rfl, rfl, rfl, h1, r1⟩ := trodAll_cons r0
  obtain ⟨v2, vs2, d2, ds2, p2, q2, rfl, rfl, rfl, h2, r2⟩ := trodAll_cons r1
  obtain ⟨rfl, rfl, rfl⟩ := trodAll_nil r2
  obtain rfl : args = #[v0, v1, v2] := by cases args; simp_all
  obtain ⟨rfl, rfl⟩ := trodVars_none hV
  have k0 := h0
  have lt0 : ∀ x ∈ p0, x.block < W.heap.size := by obtain ⟨m, hm⟩ := k0; exact DataW.trod_lt m _ _ _ hm
  obtain ⟨fuel0, hf0⟩ := h0
  obtain ⟨cs0, rfl, _⟩ := okWide_struct Try.underlying72 (hval 0 72 v0 rfl rfl)
  obtain ⟨y0, K0, w0⟩ := p_0 (cs := cs0.toList) (by simpa [Value.cells] using hf0)
  obtain ⟨_, _, e0, ⟨A0_0, c0_0, rfl, l0_0, g0_0⟩, ⟨_, _, rfl, ⟨A0_1, c0_1, rfl, l0_1, g0_1⟩, ⟨A0_2, c0_2, rfl, l0_2, g0_2⟩⟩⟩ := K0
  obtain rfl : cs0 = #[.slice A0_0 (y0.1).length c0_0, .slice A0_1 (y0.2.1).length c0_1, .slice A0_2 (y0.2.2).length c0_2] := by apply Array.toList_inj.1; rw [e0]; rfl
  have k1 := h1
  have lt1 : ∀ x ∈ p1, x.block < W.heap.size := by obtain ⟨m, hm⟩ := k1; exact DataW.trod_lt m _ _ _ hm
  obtain ⟨fuel1, hf1⟩ := h1
  obtain ⟨a1, rfl, _, _, _⟩ := open_int Try.underlying3 (hval 1 3 v1 rfl rfl) k1
  obtain ⟨b1, hb1, w1⟩ := o_3 hf1
  obtain rfl : a1 = b1 := by have e : [Value.int .i64 a1] = [Value.int .i64 b1] := hb1; simpa using e
  have k2 := h2
  have lt2 : ∀ x ∈ p2, x.block < W.heap.size := by obtain ⟨m, hm⟩ := k2; exact DataW.trod_lt m _ _ _ hm
  obtain ⟨fuel2, hf2⟩ := h2
  obtain ⟨a2, rfl, _, _, _⟩ := open_int Try.underlying3 (hval 2 3 v2 rfl rfl) k2
  obtain ⟨b2, hb2, w2⟩ := o_3 hf2
  obtain rfl : a2 = b2 := by have e : [Value.int .i64 a2] = [Value.int .i64 b2] := hb2; simpa using e
  obtain ⟨k, h⟩ := Pure.FnExactAtGrid (y0.1) (y0.2.1) (y0.2.2) a1 a2 w0.1 w0.2.1 w0.2.2 w1 w2
  refine (laws_FnExactAtGrid.calls k _ _ (y0.1) _ _ (y0.2.1) _ _ (y0.2.2) a1 a2 true W g0_0 l0_0 g0_1 l0_1 g0_2 l0_2 h).mono fun e W' ⟨he, bel0⟩ => ?_
  subst he
  have bel : Below W.heap.size W W' := bel0
  exact ⟨_, rfl, _, _, _, [], _, [], hW', trodAll_mk1 (shut_bool Try.underlying4 _), (trodAll_cons_mk (Below.trod laidOut (by kernel_rfl) (of_decide_eq_true (by kernel_rfl)) k0 bel lt0) (trodAll_cons_mk (Below.trod laidOut (by kernel_rfl) (of_decide_eq_true (by kernel_rfl)) k1 bel lt1) (trodAll_cons_mk (Below.trod laidOut (by kernel_rfl) (of_decide_eq_true (by kernel_rfl)) k2 bel lt2) trodAll_mk0))), rfl, bel.frame _, fun h => by cases h⟩
theorem over : Rows.fnExactAtGridRow.holds Try.pinned (OpenSpec.ofChange Rows.fnExactAtGridSpec) :=
  OpenClaim.holds_of_wide 9 Try.f9 rfl rfl rfl rfl rfl rfl rfl ⟨rfl, rfl, rfl, rfl, rfl⟩ rfl rfl rfl rfl rfl (by kernel_rfl) Try.func9 (by kernel_rfl)
    (of_decide_eq_true (by kernel_rfl)) (by unfold Func.isWrapper; first | (rw [if_pos (by decide +kernel)]; kernel_rfl) | (rw [if_neg (by decide +kernel)]; exact ⟨rfl, rfl⟩))
    (fun os started H enc _ => lifted os started H enc)
theorem proved : Rows.FnExactAtGridSaid := over
end Go.Proofs.Ytnphbpkpjinddaa.fnExactAtGrid
namespace Go.Proofs.Ytnphbpkpjinddaa
/-- The row, under a short name, for the claim. -/
theorem fnExactAtGrid_holds : Rows.FnExactAtGridSaid := fnExactAtGrid.proved
#print axioms fnExactAtGrid_holds
end Go.Proofs.Ytnphbpkpjinddaa
