/- Proved here: the law FnExactFlutter answers true at every input and leaves its arguments as they were; no condition. The walk is the printed one; the statement over numbers and lists is proved in YtkginilghcepbaaPureFnExactFlutter. -/
import Derived.Test.YtkginilghcepbaaRows
import Derived.Test.YtkginilghcepbaaQFnExactFlutterx3
import Derived.Test.YtkginilghcepbaaPureDefFnExactFlutter
import Derived.Test.YtkginilghcepbaaPureFnExactFlutter
import Derived.Test.YtkginilghcepbaaOpens
import Derived.Test.YtkginilghcepbaaFlOpens
import Derived.WalkKit
import Derived.ProofKit
import Derived.OpenShut
import Derived.ShutString
import Derived.ChangeOld
import Derived.Below
import Derived.SizedLaws
import Derived.Deep.Slices
namespace Go.Proofs.Ytkginilghcepbaa.fnExactFlutter
open Go.ChangeShapes Go.WideShapes Go.ChangeAt Go.RowKit Go.Proofs.YtkginilghcepbaaW.PrintWords Go.Proofs.Ytkginilghcepbaa.Open Go.Proofs.Ytkginilghcepbaa.QFnExactFlutter
set_option linter.unusedVariables false
theorem own : ownKnob Try.prog.godebug = none := by kernel_rfl
theorem laidOut : laidOutB Try.prog = true := by kernel_rfl
theorem o_36 : Opens Try.prog (Kd.fl .f64) 36 (fun x : Fl => True) := opens_fl Try.underlying36
theorem p_0 : Opens Try.prog (Kd.iso (Kd.pair (Kd.fl .f64) (Kd.fl .f64)) (fun p : Fl × Fl => p)) 38 (fun p => True ∧ True) := opens_struct (d := (Kd.pair (Kd.fl .f64) (Kd.fl .f64))) (f := fun p : Fl × Fl => p) (fun p => p) (fun _ => rfl) Try.underlying38 (by kernel_rfl) (by kernel_rfl) (opensL_cons (by kernel_rfl) rfl o_36 (opensL_one (by kernel_rfl) o_36))
theorem p_1 : Opens Try.prog (Kd.iso (Kd.pair (Kd.fl .f64) (Kd.fl .f64)) (fun p : Fl × Fl => p)) 38 (fun p => True ∧ True) := opens_struct (d := (Kd.pair (Kd.fl .f64) (Kd.fl .f64))) (f := fun p : Fl × Fl => p) (fun p => p) (fun _ => rfl) Try.underlying38 (by kernel_rfl) (by kernel_rfl) (opensL_cons (by kernel_rfl) rfl o_36 (opensL_one (by kernel_rfl) o_36))
theorem p_2 : Opens Try.prog (Kd.iso (Kd.pair (Kd.fl .f64) (Kd.fl .f64)) (fun p : Fl × Fl => p)) 38 (fun p => True ∧ True) := opens_struct (d := (Kd.pair (Kd.fl .f64) (Kd.fl .f64))) (f := fun p : Fl × Fl => p) (fun p => p) (fun _ => rfl) Try.underlying38 (by kernel_rfl) (by kernel_rfl) (opensL_cons (by kernel_rfl) rfl o_36 (opensL_one (by kernel_rfl) o_36))
theorem p_3 : Opens Try.prog (Kd.iso (Kd.pair (Kd.fl .f64) (Kd.fl .f64)) (fun p : Fl × Fl => p)) 38 (fun p => True ∧ True) := opens_struct (d := (Kd.pair (Kd.fl .f64) (Kd.fl .f64))) (f := fun p : Fl × Fl => p) (fun p => p) (fun _ => rfl) Try.underlying38 (by kernel_rfl) (by kernel_rfl) (opensL_cons (by kernel_rfl) rfl o_36 (opensL_one (by kernel_rfl) o_36))
set_option maxRecDepth 100000 in
theorem lifted (os : Os) (started : os.Started) (H : Type) (enc : TypeId × Value → H) :
    ReturnsInHanded {} Try.checked os 4 .any (Rows.fnExactFlutterSpec.pre6 enc Try.prog Try.f4 Rows.fnExactFlutterRow.domain false) (Rows.fnExactFlutterSpec.post enc Try.prog Try.f4 false true false false) := by
  refine returnsInHanded_of_change_sized (C := Try.checked) own started (by kernel_rfl) Try.func4
    (ChangeSpec.witness6 (enc := enc) (C := Try.checked) false ⟨#[], #[.agg #[.float .f64 0, .float .f64 0], .agg #[.float .f64 0, .float .f64 0], .agg #[.float .f64 0, .float .f64 0], .agg #[.float .f64 0, .float .f64 0]], []⟩ 8 (by kernel_rfl) (by kernel_rfl) (by kernel_rfl) (by kernel_rfl)) ?_
  intro W base args ds gs before hval0 hW hcnd hsz0 _
  have hval : ∀ (j : Nat) t v, Try.f4.params[j]? = some t → args[j]? = some v → Value.okWide Try.prog W .any base t v := hval0
  have hW' := hW
  obtain ⟨p, q, hA0, hV, rfl, hfz, hnd⟩ := hW
  have hA : DataW.TrodAll enc Try.prog W 0 (fun _ => true) true Try.f4.params.toList args.toList ds p := hA0
  rw [Try.params4] at hA hval
  obtain ⟨v0, vs0, d0, ds0, p0, q0, hargs, rfl, rfl, h0, r0⟩ := trodAll_cons hA
  obtain ⟨v1, vs1, d1, ds1, p1, q1, rfl, rfl, rfl, h1, r1⟩ := trodAll_cons r0
  obtain ⟨v2, vs2, d2, ds2, p2, q2, rfl, rfl, rfl, h2, r2⟩ := trodAll_cons r1
  obtain ⟨v3, vs3, d3, ds3, p3, q3, rfl, rfl, rfl, h3, r3⟩ := trodAll_cons r2
  obtain ⟨rfl, rfl, rfl⟩ := trodAll_nil r3
  obtain rfl : args = #[v0, v1, v2, v3] := by cases args; simp_all
  obtain ⟨rfl, rfl⟩ := trodVars_none hV
  have k0 := h0
  have lt0 : ∀ x ∈ p0, x.block < W.heap.size := by obtain ⟨m, hm⟩ := k0; exact DataW.trod_lt m _ _ _ hm
  obtain ⟨fuel0, hf0⟩ := h0
  obtain ⟨cs0, rfl, _⟩ := okWide_struct Try.underlying38 (hval 0 38 v0 rfl rfl)
  obtain ⟨y0, K0, w0⟩ := p_0 (cs := cs0.toList) (by simpa [Value.cells] using hf0)
  obtain ⟨_, _, e0, ⟨b0_0, rfl, hF0_0⟩, ⟨b0_1, rfl, hF0_1⟩⟩ := K0
  obtain rfl : cs0 = #[.float .f64 b0_0, .float .f64 b0_1] := by apply Array.toList_inj.1; rw [e0]; rfl
  have k1 := h1
  have lt1 : ∀ x ∈ p1, x.block < W.heap.size := by obtain ⟨m, hm⟩ := k1; exact DataW.trod_lt m _ _ _ hm
  obtain ⟨fuel1, hf1⟩ := h1
  obtain ⟨cs1, rfl, _⟩ := okWide_struct Try.underlying38 (hval 1 38 v1 rfl rfl)
  obtain ⟨y1, K1, w1⟩ := p_1 (cs := cs1.toList) (by simpa [Value.cells] using hf1)
  obtain ⟨_, _, e1, ⟨b1_0, rfl, hF1_0⟩, ⟨b1_1, rfl, hF1_1⟩⟩ := K1
  obtain rfl : cs1 = #[.float .f64 b1_0, .float .f64 b1_1] := by apply Array.toList_inj.1; rw [e1]; rfl
  have k2 := h2
  have lt2 : ∀ x ∈ p2, x.block < W.heap.size := by obtain ⟨m, hm⟩ := k2; exact DataW.trod_lt m _ _ _ hm
  obtain ⟨fuel2, hf2⟩ := h2
  obtain ⟨cs2, rfl, _⟩ := okWide_struct Try.underlying38 (hval 2 38 v2 rfl rfl)
  obtain ⟨y2, K2, w2⟩ := p_2 (cs := cs2.toList) (by simpa [Value.cells] using hf2)
  obtain ⟨_, _, e2, ⟨b2_0, rfl, hF2_0⟩, ⟨b2_1, rfl, hF2_1⟩⟩ := K2
  obtain rfl : cs2 = #[.float .f64 b2_0, .float .f64 b2_1] := by apply Array.toList_inj.1; rw [e2]; rfl
  have k3 := h3
  have lt3 : ∀ x ∈ p3, x.block < W.heap.size := by obtain ⟨m, hm⟩ := k3; exact DataW.trod_lt m _ _ _ hm
  obtain ⟨fuel3, hf3⟩ := h3
  obtain ⟨cs3, rfl, _⟩ := okWide_struct Try.underlying38 (hval 3 38 v3 rfl rfl)
  obtain ⟨y3, K3, w3⟩ := p_3 (cs := cs3.toList) (by simpa [Value.cells] using hf3)
  obtain ⟨_, _, e3, ⟨b3_0, rfl, hF3_0⟩, ⟨b3_1, rfl, hF3_1⟩⟩ := K3
  obtain rfl : cs3 = #[.float .f64 b3_0, .float .f64 b3_1] := by apply Array.toList_inj.1; rw [e3]; rfl
  obtain ⟨k, h⟩ := Pure.FnExactFlutter (y0.1) (y0.2) (y1.1) (y1.2) (y2.1) (y2.2) (y3.1) (y3.2) 
  refine (laws_FnExactFlutter.calls k b0_0 (y0.1) b0_1 (y0.2) b1_0 (y1.1) b1_1 (y1.2) b2_0 (y2.1) b2_1 (y2.2) b3_0 (y3.1) b3_1 (y3.2) true W hF0_0 hF0_1 hF1_0 hF1_1 hF2_0 hF2_1 hF3_0 hF3_1 h).mono fun e W' ⟨he, bel0⟩ => ?_
  subst he
  have bel : Below W.heap.size W W' := bel0
  exact ⟨_, rfl, _, _, _, [], _, [], hW', trodAll_mk1 (shut_bool Try.underlying4 _), (trodAll_cons_mk (Below.trod laidOut (by kernel_rfl) (of_decide_eq_true (by kernel_rfl)) k0 bel lt0) (trodAll_cons_mk (Below.trod laidOut (by kernel_rfl) (of_decide_eq_true (by kernel_rfl)) k1 bel lt1) (trodAll_cons_mk (Below.trod laidOut (by kernel_rfl) (of_decide_eq_true (by kernel_rfl)) k2 bel lt2) (trodAll_cons_mk (Below.trod laidOut (by kernel_rfl) (of_decide_eq_true (by kernel_rfl)) k3 bel lt3) trodAll_mk0)))), rfl, bel.frame _, fun h => by cases h⟩
theorem over : Rows.fnExactFlutterRow.holds Try.pinned (OpenSpec.ofChange Rows.fnExactFlutterSpec) :=
  OpenClaim.holds_of_wide 4 Try.f4 rfl rfl rfl rfl rfl rfl rfl ⟨rfl, rfl, rfl, rfl, rfl⟩ rfl rfl rfl rfl rfl (by kernel_rfl) Try.func4 (by kernel_rfl)
    (of_decide_eq_true (by kernel_rfl)) (by unfold Func.isWrapper; first | (rw [if_pos (by decide +kernel)]; kernel_rfl) | (rw [if_neg (by decide +kernel)]; exact ⟨rfl, rfl⟩))
    (fun os started H enc _ => lifted os started H enc)
theorem proved : Rows.FnExactFlutterSaid := over
end Go.Proofs.Ytkginilghcepbaa.fnExactFlutter
namespace Go.Proofs.Ytkginilghcepbaa
/-- The row, under a short name, for the claim. -/
theorem fnExactFlutter_holds : Rows.FnExactFlutterSaid := fnExactFlutter.proved
#print axioms fnExactFlutter_holds
end Go.Proofs.Ytkginilghcepbaa
