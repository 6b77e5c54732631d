/- Proved here: the law FnExactFind answers true at every input and leaves its arguments as they were; no condition. The walk is the printed one; the statement over numbers and lists is proved in YtgbkmbdciknedaaPureFnExactFind. -/
import Derived.Test.YtgbkmbdciknedaaRows
import Derived.Test.YtgbkmbdciknedaaPFnExactFindx4
import Derived.Test.YtgbkmbdciknedaaPureDefFnExactFind
import Derived.Test.YtgbkmbdciknedaaPureFnExactFind
import Derived.Test.YtgbkmbdciknedaaOpens
import Derived.WalkKit
import Derived.ProofKit
import Derived.OpenShut
import Derived.ShutString
import Derived.ChangeOld
import Derived.Below
import Derived.SizedLaws
import Derived.Deep.Slices
namespace Go.Proofs.Ytgbkmbdciknedaa.fnExactFind
open Go.ChangeShapes Go.WideShapes Go.ChangeAt Go.RowKit Go.Proofs.YtgbkmbdciknedaaW.PrintWords Go.Proofs.Ytgbkmbdciknedaa.Open Go.Proofs.Ytgbkmbdciknedaa.PFnExactFind
set_option linter.unusedVariables false
theorem own : ownKnob Try.prog.godebug = none := by kernel_rfl
theorem laidOut : laidOutB Try.prog = true := by kernel_rfl
theorem o_3 : Opens Try.prog (Kd.int .i64) 3 (fun x : Int => (-9223372036854775808 ≤ x ∧ x ≤ 9223372036854775807)) := opens_i64 Try.underlying3
theorem o_35 : Opens Try.prog (Kd.slice 3 (Kd.int .i64)) 35 (fun x : List Int => (x.length ≤ 9223372036854775807 ∧ ∀ y1 ∈ x, (-9223372036854775808 ≤ y1 ∧ y1 ≤ 9223372036854775807))) := opens_slice (0 : Int) Try.underlying35 (by kernel_rfl) o_3
theorem p_0 : Opens Try.prog (Kd.iso (Kd.pair (Kd.slice 3 (Kd.int .i64)) (Kd.slice 3 (Kd.int .i64))) (fun p : (List Int) × (List Int) => p)) 55 (fun p => (p.1.length ≤ 9223372036854775807 ∧ ∀ y3 ∈ p.1, (-9223372036854775808 ≤ y3 ∧ y3 ≤ 9223372036854775807)) ∧ (p.2.length ≤ 9223372036854775807 ∧ ∀ y3 ∈ p.2, (-9223372036854775808 ≤ y3 ∧ y3 ≤ 9223372036854775807))) := opens_struct (d := (Kd.pair (Kd.slice 3 (Kd.int .i64)) (Kd.slice 3 (Kd.int .i64)))) (f := fun p : (List Int) × (List Int) => p) (fun p => p) (fun _ => rfl) Try.underlying55 (by kernel_rfl) (by kernel_rfl) (opensL_cons (by kernel_rfl) rfl o_35 (opensL_one (by kernel_rfl) o_35))
set_option maxRecDepth 100000 in
theorem lifted (os : Os) (started : os.Started) (H : Type) (enc : TypeId × Value → H) :
    ReturnsInHanded {} Try.checked os 11 .any (Rows.fnExactFindSpec.pre6 enc Try.prog Try.f11 Rows.fnExactFindRow.domain false) (Rows.fnExactFindSpec.post enc Try.prog Try.f11 false true false false) := by
  refine returnsInHanded_of_change_sized (C := Try.checked) own started (by kernel_rfl) Try.func11
    (ChangeSpec.witness6 (enc := enc) (C := Try.checked) false ⟨#[], #[.agg #[.slice none 0 0, .slice none 0 0], .int .i64 0], []⟩ 8 (by kernel_rfl) (by kernel_rfl) (by kernel_rfl) (by kernel_rfl)) ?_
  intro W base args ds gs before hval0 hW hcnd hsz0 _
  have hval : ∀ (j : Nat) t v, Try.f11.params[j]? = some t → args[j]? = some v → Value.okWide Try.prog W .any base t v := hval0
  have hW' := hW
  obtain ⟨p, q, hA0, hV, rfl, hfz, hnd⟩ := hW
  have hA : DataW.TrodAll enc Try.prog W 0 (fun _ => true) true Try.f11.params.toList args.toList ds p := hA0
  rw [Try.params11] at hA hval
  obtain ⟨v0, vs0, d0, ds0, p0, q0, hargs, rfl, rfl, h0, r0⟩ := trodAll_cons hA
  obtain ⟨v1, vs1, d1, ds1, p1, q1, rfl, rfl, rfl, h1, r1⟩ := trodAll_cons r0
  obtain ⟨rfl, rfl, rfl⟩ := trodAll_nil r1
  obtain rfl : args = #[v0, v1] := by cases args; simp_all
  obtain ⟨rfl, rfl⟩ := trodVars_none hV
  have k0 := h0
  have lt0 : ∀ x ∈ p0, x.block < W.heap.size := by obtain ⟨m, hm⟩ := k0; exact DataW.trod_lt m _ _ _ hm
  obtain ⟨fuel0, hf0⟩ := h0
  obtain ⟨cs0, rfl, _⟩ := okWide_struct Try.underlying55 (hval 0 55 v0 rfl rfl)
  obtain ⟨y0, K0, w0⟩ := p_0 (cs := cs0.toList) (by simpa [Value.cells] using hf0)
  obtain ⟨_, _, e0, ⟨A0_0, c0_0, rfl, l0_0, g0_0⟩, ⟨A0_1, c0_1, rfl, l0_1, g0_1⟩⟩ := K0
  obtain rfl : cs0 = #[.slice A0_0 (y0.1).length c0_0, .slice A0_1 (y0.2).length c0_1] := by apply Array.toList_inj.1; rw [e0]; rfl
  have k1 := h1
  have lt1 : ∀ x ∈ p1, x.block < W.heap.size := by obtain ⟨m, hm⟩ := k1; exact DataW.trod_lt m _ _ _ hm
  obtain ⟨fuel1, hf1⟩ := h1
  obtain ⟨a1, rfl, _, _, _⟩ := open_int Try.underlying3 (hval 1 3 v1 rfl rfl) k1
  obtain ⟨b1, hb1, w1⟩ := o_3 hf1
  obtain rfl : a1 = b1 := by have e : [Value.int .i64 a1] = [Value.int .i64 b1] := hb1; simpa using e
  obtain ⟨k, h⟩ := Pure.FnExactFind (y0.1) (y0.2) a1 w0.1 w0.2 w1
  refine (laws_FnExactFind.calls k _ _ (y0.1) _ _ (y0.2) a1 true W g0_0 l0_0 g0_1 l0_1 h).mono fun e W' ⟨he, bel0⟩ => ?_
  subst he
  have bel : Below W.heap.size W W' := bel0
  exact ⟨_, rfl, _, _, _, [], _, [], hW', trodAll_mk1 (shut_bool Try.underlying4 _), (trodAll_cons_mk (Below.trod laidOut (by kernel_rfl) (of_decide_eq_true (by kernel_rfl)) k0 bel lt0) (trodAll_cons_mk (Below.trod laidOut (by kernel_rfl) (of_decide_eq_true (by kernel_rfl)) k1 bel lt1) trodAll_mk0)), rfl, bel.frame _, fun h => by cases h⟩
theorem over : Rows.fnExactFindRow.holds Try.pinned (OpenSpec.ofChange Rows.fnExactFindSpec) :=
  OpenClaim.holds_of_wide 11 Try.f11 rfl rfl rfl rfl rfl rfl rfl ⟨rfl, rfl, rfl, rfl, rfl⟩ rfl rfl rfl rfl rfl (by kernel_rfl) Try.func11 (by kernel_rfl)
    (of_decide_eq_true (by kernel_rfl)) (by unfold Func.isWrapper; first | (rw [if_pos (by decide +kernel)]; kernel_rfl) | (rw [if_neg (by decide +kernel)]; exact ⟨rfl, rfl⟩))
    (fun os started H enc _ => lifted os started H enc)
theorem proved : Rows.FnExactFindSaid := over
end Go.Proofs.Ytgbkmbdciknedaa.fnExactFind
namespace Go.Proofs.Ytgbkmbdciknedaa
/-- The row, under a short name, for the claim. -/
theorem fnExactFind_holds : Rows.FnExactFindSaid := fnExactFind.proved
#print axioms fnExactFind_holds
end Go.Proofs.Ytgbkmbdciknedaa
