/- Proved here: the law FnExactPoly answers true at every input and leaves its arguments as they were; no condition. The walk is the printed one; the statement over numbers and lists is proved in YtfopdbdamkfglaaPureFnExactPoly. -/
import Derived.Test.YtfopdbdamkfglaaRows
import Derived.Test.YtfopdbdamkfglaaQFnExactPolyx4
import Derived.Test.YtfopdbdamkfglaaPureDefFnExactPoly
import Derived.Test.YtfopdbdamkfglaaPureFnExactPoly
import Derived.Test.YtfopdbdamkfglaaOpens
import Derived.Test.YtfopdbdamkfglaaFlOpens
import Derived.WalkKit
import Derived.ProofKit
import Derived.OpenShut
import Derived.ShutString
import Derived.ChangeOld
import Derived.Below
import Derived.SizedLaws
import Derived.Deep.Slices
namespace Go.Proofs.Ytfopdbdamkfglaa.fnExactPoly
open Go.ChangeShapes Go.WideShapes Go.ChangeAt Go.RowKit Go.Proofs.YtfopdbdamkfglaaW.PrintWords Go.Proofs.Ytfopdbdamkfglaa.Open Go.Proofs.Ytfopdbdamkfglaa.QFnExactPoly
set_option linter.unusedVariables false
theorem own : ownKnob Try.prog.godebug = none := by kernel_rfl
theorem laidOut : laidOutB Try.prog = true := by kernel_rfl
theorem o_23 : Opens Try.prog (Kd.fl .f64) 23 (fun x : Fl => True) := opens_fl Try.underlying23
theorem o_32 : Opens Try.prog k32 32 (fun x : S32 => (True ∧ True)) := opens_struct (d := (Kd.pair (Kd.fl .f64) (Kd.fl .f64))) (f := fun x : S32 => (x.f0, x.f1)) (fun p => ⟨p.1, p.2⟩) (fun _ => rfl) Try.underlying32 (by kernel_rfl) (by kernel_rfl) (opensL_cons (by kernel_rfl) rfl o_23 (opensL_one (by kernel_rfl) o_23))
theorem o_30 : Opens Try.prog (Kd.slice 32 k32) 30 (fun x : List S32 => (x.length ≤ 9223372036854775807 ∧ ∀ y1 ∈ x, (True ∧ True))) := opens_slice z32 Try.underlying30 (by kernel_rfl) o_32
theorem p_1 : Opens Try.prog (Kd.iso (Kd.pair (Kd.fl .f64) (Kd.fl .f64)) (fun p : Fl × Fl => p)) 32 (fun p => True ∧ True) := opens_struct (d := (Kd.pair (Kd.fl .f64) (Kd.fl .f64))) (f := fun p : Fl × Fl => p) (fun p => p) (fun _ => rfl) Try.underlying32 (by kernel_rfl) (by kernel_rfl) (opensL_cons (by kernel_rfl) rfl o_23 (opensL_one (by kernel_rfl) o_23))
set_option maxRecDepth 100000 in
theorem lifted (os : Os) (started : os.Started) (H : Type) (enc : TypeId × Value → H) :
    ReturnsInHanded {} Try.checked os 4 .any (Rows.fnExactPolySpec.pre6 enc Try.prog Try.f4 Rows.fnExactPolyRow.domain false) (Rows.fnExactPolySpec.post enc Try.prog Try.f4 false true false false) := by
  refine returnsInHanded_of_change_sized (C := Try.checked) own started (by kernel_rfl) Try.func4
    (ChangeSpec.witness6 (enc := enc) (C := Try.checked) false ⟨#[], #[.slice none 0 0, .agg #[.float .f64 0, .float .f64 0]], []⟩ 8 (by kernel_rfl) (by kernel_rfl) (by kernel_rfl) (by kernel_rfl)) ?_
  intro W base args ds gs before hval0 hW hcnd hsz0 _
  have hval : ∀ (j : Nat) t v, Try.f4.params[j]? = some t → args[j]? = some v → Value.okWide Try.prog W .any base t v := hval0
  have hW' := hW
  obtain ⟨p, q, hA0, hV, rfl, hfz, hnd⟩ := hW
  have hA : DataW.TrodAll enc Try.prog W 0 (fun _ => true) true Try.f4.params.toList args.toList ds p := hA0
  rw [Try.params4] at hA hval
  obtain ⟨v0, vs0, d0, ds0, p0, q0, hargs, rfl, rfl, h0, r0⟩ := trodAll_cons hA
  obtain ⟨v1, vs1, d1, ds1, p1, q1, rfl, rfl, rfl, h1, r1⟩ := trodAll_cons r0
  obtain ⟨rfl, rfl, rfl⟩ := trodAll_nil r1
  obtain rfl : args = #[v0, v1] := by cases args; simp_all
  obtain ⟨rfl, rfl⟩ := trodVars_none hV
  have k0 := h0
  have lt0 : ∀ x ∈ p0, x.block < W.heap.size := by obtain ⟨m, hm⟩ := k0; exact DataW.trod_lt m _ _ _ hm
  obtain ⟨fuel0, hf0⟩ := h0
  obtain ⟨a0, len0, cap0, rfl⟩ := okWide_slice Try.underlying30 (hval 0 30 v0 rfl rfl)
  obtain ⟨y0, ⟨A0, c0, e0, l0, g0⟩, w0⟩ := o_30 (cs := [.slice a0 len0 cap0]) (by simpa [Value.cells] using hf0)
  simp only [List.cons.injEq, and_true, Value.slice.injEq] at e0
  obtain ⟨rfl, rfl, rfl⟩ := e0
  have k1 := h1
  have lt1 : ∀ x ∈ p1, x.block < W.heap.size := by obtain ⟨m, hm⟩ := k1; exact DataW.trod_lt m _ _ _ hm
  obtain ⟨fuel1, hf1⟩ := h1
  obtain ⟨cs1, rfl, _⟩ := okWide_struct Try.underlying32 (hval 1 32 v1 rfl rfl)
  obtain ⟨y1, K1, w1⟩ := p_1 (cs := cs1.toList) (by simpa [Value.cells] using hf1)
  obtain ⟨_, _, e1, ⟨b1_0, rfl, hF1_0⟩, ⟨b1_1, rfl, hF1_1⟩⟩ := K1
  obtain rfl : cs1 = #[.float .f64 b1_0, .float .f64 b1_1] := by apply Array.toList_inj.1; rw [e1]; rfl
  obtain ⟨k, h⟩ := Pure.FnExactPoly y0 (y1.1) (y1.2) w0
  refine (laws_FnExactPoly.calls k _ _ y0 b1_0 (y1.1) b1_1 (y1.2) true W g0 l0 hF1_0 hF1_1 h).mono fun e W' ⟨he, bel0⟩ => ?_
  subst he
  have bel : Below W.heap.size W W' := bel0
  exact ⟨_, rfl, _, _, _, [], _, [], hW', trodAll_mk1 (shut_bool Try.underlying4 _), (trodAll_cons_mk (Below.trod laidOut (by kernel_rfl) (of_decide_eq_true (by kernel_rfl)) k0 bel lt0) (trodAll_cons_mk (Below.trod laidOut (by kernel_rfl) (of_decide_eq_true (by kernel_rfl)) k1 bel lt1) trodAll_mk0)), rfl, bel.frame _, fun h => by cases h⟩
theorem over : Rows.fnExactPolyRow.holds Try.pinned (OpenSpec.ofChange Rows.fnExactPolySpec) :=
  OpenClaim.holds_of_wide 4 Try.f4 rfl rfl rfl rfl rfl rfl rfl ⟨rfl, rfl, rfl, rfl, rfl⟩ rfl rfl rfl rfl rfl (by kernel_rfl) Try.func4 (by kernel_rfl)
    (of_decide_eq_true (by kernel_rfl)) (by unfold Func.isWrapper; first | (rw [if_pos (by decide +kernel)]; kernel_rfl) | (rw [if_neg (by decide +kernel)]; exact ⟨rfl, rfl⟩))
    (fun os started H enc _ => lifted os started H enc)
theorem proved : Rows.FnExactPolySaid := over
end Go.Proofs.Ytfopdbdamkfglaa.fnExactPoly
namespace Go.Proofs.Ytfopdbdamkfglaa
/-- The row, under a short name, for the claim. -/
theorem fnExactPoly_holds : Rows.FnExactPolySaid := fnExactPoly.proved
#print axioms fnExactPoly_holds
end Go.Proofs.Ytfopdbdamkfglaa
