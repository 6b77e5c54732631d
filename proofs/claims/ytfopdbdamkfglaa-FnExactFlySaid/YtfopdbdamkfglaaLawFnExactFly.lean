/- Proved here: the law FnExactFly answers true at every input and leaves its arguments as they were; no condition. The walk is the printed one; the statement over numbers and lists is proved in YtfopdbdamkfglaaPureFnExactFly. -/
import Derived.Test.YtfopdbdamkfglaaRows
import Derived.Test.YtfopdbdamkfglaaQFnExactFlyx4
import Derived.Test.YtfopdbdamkfglaaPureDefFnExactFly
import Derived.Test.YtfopdbdamkfglaaPureFnExactFly
import Derived.Test.YtfopdbdamkfglaaOpens
import Derived.Test.YtfopdbdamkfglaaFlOpens
import Derived.WalkKit
import Derived.ProofKit
import Derived.OpenShut
import Derived.ShutString
import Derived.ChangeOld
import Derived.Below
import Derived.SizedLaws
import Derived.Deep.Slices
namespace Go.Proofs.Ytfopdbdamkfglaa.fnExactFly
open Go.ChangeShapes Go.WideShapes Go.ChangeAt Go.RowKit Go.Proofs.YtfopdbdamkfglaaW.PrintWords Go.Proofs.Ytfopdbdamkfglaa.Open Go.Proofs.Ytfopdbdamkfglaa.QFnExactFly
set_option linter.unusedVariables false
theorem own : ownKnob Try.prog.godebug = none := by kernel_rfl
theorem laidOut : laidOutB Try.prog = true := by kernel_rfl
theorem o_23 : Opens Try.prog (Kd.fl .f64) 23 (fun x : Fl => True) := opens_fl Try.underlying23
theorem o_22 : Opens Try.prog (Kd.slice 23 (Kd.fl .f64)) 22 (fun x : List Fl => (x.length ≤ 9223372036854775807 ∧ ∀ y1 ∈ x, True)) := opens_slice (cn .f64 0) Try.underlying22 (by kernel_rfl) o_23
theorem p_0 : Opens Try.prog (Kd.iso (Kd.pair (Kd.fl .f64) (Kd.pair (Kd.fl .f64) (Kd.pair (Kd.fl .f64) (Kd.fl .f64)))) (fun p : Fl × Fl × Fl × Fl => p)) 60 (fun p => True ∧ True ∧ True ∧ True) := opens_struct (d := (Kd.pair (Kd.fl .f64) (Kd.pair (Kd.fl .f64) (Kd.pair (Kd.fl .f64) (Kd.fl .f64))))) (f := fun p : Fl × Fl × Fl × Fl => p) (fun p => p) (fun _ => rfl) Try.underlying60 (by kernel_rfl) (by kernel_rfl) (opensL_cons (by kernel_rfl) rfl o_23 (opensL_cons (by kernel_rfl) rfl o_23 (opensL_cons (by kernel_rfl) rfl o_23 (opensL_one (by kernel_rfl) o_23))))
theorem p_1 : Opens Try.prog (Kd.iso (Kd.pair (Kd.fl .f64) (Kd.pair (Kd.fl .f64) (Kd.pair (Kd.fl .f64) (Kd.pair (Kd.fl .f64) (Kd.fl .f64))))) (fun p : Fl × Fl × Fl × Fl × Fl => p)) 62 (fun p => True ∧ True ∧ True ∧ True ∧ True) := opens_struct (d := (Kd.pair (Kd.fl .f64) (Kd.pair (Kd.fl .f64) (Kd.pair (Kd.fl .f64) (Kd.pair (Kd.fl .f64) (Kd.fl .f64)))))) (f := fun p : Fl × Fl × Fl × Fl × Fl => p) (fun p => p) (fun _ => rfl) Try.underlying62 (by kernel_rfl) (by kernel_rfl) (opensL_cons (by kernel_rfl) rfl o_23 (opensL_cons (by kernel_rfl) rfl o_23 (opensL_cons (by kernel_rfl) rfl o_23 (opensL_cons (by kernel_rfl) rfl o_23 (opensL_one (by kernel_rfl) o_23)))))
set_option maxRecDepth 100000 in
theorem lifted (os : Os) (started : os.Started) (H : Type) (enc : TypeId × Value → H) :
    ReturnsInHanded {} Try.checked os 9 .any (Rows.fnExactFlySpec.pre6 enc Try.prog Try.f9 Rows.fnExactFlyRow.domain false) (Rows.fnExactFlySpec.post enc Try.prog Try.f9 false true false false) := by
  refine returnsInHanded_of_change_sized (C := Try.checked) own started (by kernel_rfl) Try.func9
    (ChangeSpec.witness6 (enc := enc) (C := Try.checked) false ⟨#[], #[.agg #[.float .f64 0, .float .f64 0, .float .f64 0, .float .f64 0], .agg #[.float .f64 0, .float .f64 0, .float .f64 0, .float .f64 0, .float .f64 0], .slice none 0 0, .float .f64 0], []⟩ 8 (by kernel_rfl) (by kernel_rfl) (by kernel_rfl) (by kernel_rfl)) ?_
  intro W base args ds gs before hval0 hW hcnd hsz0 _
  have hval : ∀ (j : Nat) t v, Try.f9.params[j]? = some t → args[j]? = some v → Value.okWide Try.prog W .any base t v := hval0
  have hW' := hW
  obtain ⟨p, q, hA0, hV, rfl, hfz, hnd⟩ := hW
  have hA : DataW.TrodAll enc Try.prog W 0 (fun _ => true) true Try.f9.params.toList args.toList ds p := hA0
  rw [Try.params9] at hA hval
  obtain ⟨v0, vs0, d0, ds0, p0, q0, hargs, rfl, rfl, h0, r0⟩ := trodAll_cons hA
  obtain ⟨v1, vs1, d1, ds1, p1, q1, rfl, rfl, rfl, h1, r1⟩ := trodAll_cons r0
  obtain ⟨v2, vs2, d2, ds2, p2, q2, rfl, rfl, rfl, h2, r2⟩ := trodAll_cons r1
  obtain ⟨v3, vs3, d3, ds3, p3, q3, rfl, rfl, rfl, h3, r3⟩ := trodAll_cons r2
  obtain ⟨rfl, rfl, rfl⟩ := trodAll_nil r3
  obtain rfl : args = #[v0, v1, v2, v3] := by cases args; simp_all
  obtain ⟨rfl, rfl⟩ := trodVars_none hV
  have k0 := h0
  have lt0 : ∀ x ∈ p0, x.block < W.heap.size := by obtain ⟨m, hm⟩ := k0; exact DataW.trod_lt m _ _ _ hm
  obtain ⟨fuel0, hf0⟩ := h0
  obtain ⟨cs0, rfl, _⟩ := okWide_struct Try.underlying60 (hval 0 60 v0 rfl rfl)
  obtain ⟨y0, K0, w0⟩ := p_0 (cs := cs0.toList) (by simpa [Value.cells] using hf0)
  obtain ⟨_, _, e0, ⟨b0_0, rfl, hF0_0⟩, ⟨_, _, rfl, ⟨b0_1, rfl, hF0_1⟩, ⟨_, _, rfl, ⟨b0_2, rfl, hF0_2⟩, ⟨b0_3, rfl, hF0_3⟩⟩⟩⟩ := K0
  obtain rfl : cs0 = #[.float .f64 b0_0, .float .f64 b0_1, .float .f64 b0_2, .float .f64 b0_3] := by apply Array.toList_inj.1; rw [e0]; rfl
  have k1 := h1
  have lt1 : ∀ x ∈ p1, x.block < W.heap.size := by obtain ⟨m, hm⟩ := k1; exact DataW.trod_lt m _ _ _ hm
  obtain ⟨fuel1, hf1⟩ := h1
  obtain ⟨cs1, rfl, _⟩ := okWide_struct Try.underlying62 (hval 1 62 v1 rfl rfl)
  obtain ⟨y1, K1, w1⟩ := p_1 (cs := cs1.toList) (by simpa [Value.cells] using hf1)
  obtain ⟨_, _, e1, ⟨b1_0, rfl, hF1_0⟩, ⟨_, _, rfl, ⟨b1_1, rfl, hF1_1⟩, ⟨_, _, rfl, ⟨b1_2, rfl, hF1_2⟩, ⟨_, _, rfl, ⟨b1_3, rfl, hF1_3⟩, ⟨b1_4, rfl, hF1_4⟩⟩⟩⟩⟩ := K1
  obtain rfl : cs1 = #[.float .f64 b1_0, .float .f64 b1_1, .float .f64 b1_2, .float .f64 b1_3, .float .f64 b1_4] := by apply Array.toList_inj.1; rw [e1]; rfl
  have k2 := h2
  have lt2 : ∀ x ∈ p2, x.block < W.heap.size := by obtain ⟨m, hm⟩ := k2; exact DataW.trod_lt m _ _ _ hm
  obtain ⟨fuel2, hf2⟩ := h2
  obtain ⟨a2, len2, cap2, rfl⟩ := okWide_slice Try.underlying22 (hval 2 22 v2 rfl rfl)
  obtain ⟨y2, ⟨A2, c2, e2, l2, g2⟩, w2⟩ := o_22 (cs := [.slice a2 len2 cap2]) (by simpa [Value.cells] using hf2)
  simp only [List.cons.injEq, and_true, Value.slice.injEq] at e2
  obtain ⟨rfl, rfl, rfl⟩ := e2
  have k3 := h3
  have lt3 : ∀ x ∈ p3, x.block < W.heap.size := by obtain ⟨m, hm⟩ := k3; exact DataW.trod_lt m _ _ _ hm
  obtain ⟨fuel3, hf3⟩ := h3
  obtain ⟨b3, rfl, _, _, _⟩ := open_float Try.underlying23 (hval 3 23 v3 rfl rfl) k3
  obtain ⟨k, h⟩ := Pure.FnExactFly (y0.1) (y0.2.1) (y0.2.2.1) (y0.2.2.2) (y1.1) (y1.2.1) (y1.2.2.1) (y1.2.2.2.1) (y1.2.2.2.2) y2 (cn .f64 b3) w2
  refine (laws_FnExactFly.calls k b0_0 (y0.1) b0_1 (y0.2.1) b0_2 (y0.2.2.1) b0_3 (y0.2.2.2) b1_0 (y1.1) b1_1 (y1.2.1) b1_2 (y1.2.2.1) b1_3 (y1.2.2.2.1) b1_4 (y1.2.2.2.2) _ _ y2 b3 (cn .f64 b3) true W hF0_0 hF0_1 hF0_2 hF0_3 hF1_0 hF1_1 hF1_2 hF1_3 hF1_4 g2 l2 rfl h).mono fun e W' ⟨he, bel0⟩ => ?_
  subst he
  have bel : Below W.heap.size W W' := bel0
  exact ⟨_, rfl, _, _, _, [], _, [], hW', trodAll_mk1 (shut_bool Try.underlying4 _), (trodAll_cons_mk (Below.trod laidOut (by kernel_rfl) (of_decide_eq_true (by kernel_rfl)) k0 bel lt0) (trodAll_cons_mk (Below.trod laidOut (by kernel_rfl) (of_decide_eq_true (by kernel_rfl)) k1 bel lt1) (trodAll_cons_mk (Below.trod laidOut (by kernel_rfl) (of_decide_eq_true (by kernel_rfl)) k2 bel lt2) (trodAll_cons_mk (Below.trod laidOut (by kernel_rfl) (of_decide_eq_true (by kernel_rfl)) k3 bel lt3) trodAll_mk0)))), rfl, bel.frame _, fun h => by cases h⟩
theorem over : Rows.fnExactFlyRow.holds Try.pinned (OpenSpec.ofChange Rows.fnExactFlySpec) :=
  OpenClaim.holds_of_wide 9 Try.f9 rfl rfl rfl rfl rfl rfl rfl ⟨rfl, rfl, rfl, rfl, rfl⟩ rfl rfl rfl rfl rfl (by kernel_rfl) Try.func9 (by kernel_rfl)
    (of_decide_eq_true (by kernel_rfl)) (by unfold Func.isWrapper; first | (rw [if_pos (by decide +kernel)]; kernel_rfl) | (rw [if_neg (by decide +kernel)]; exact ⟨rfl, rfl⟩))
    (fun os started H enc _ => lifted os started H enc)
theorem proved : Rows.FnExactFlySaid := over
end Go.Proofs.Ytfopdbdamkfglaa.fnExactFly
namespace Go.Proofs.Ytfopdbdamkfglaa
/-- The row, under a short name, for the claim. -/
theorem fnExactFly_holds : Rows.FnExactFlySaid := fnExactFly.proved
#print axioms fnExactFly_holds
end Go.Proofs.Ytfopdbdamkfglaa
