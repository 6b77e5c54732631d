/- Proved here: the law FnExactWider answers true at every input and leaves its arguments as they were; no condition. The walk is the printed one; the statement over numbers and lists is proved in YtddojikjiebbbaaPureFnExactWider. -/
import Derived.Test.YtddojikjiebbbaaRows
import Derived.Test.YtddojikjiebbbaaQFnExactWiderx1
import Derived.Test.YtddojikjiebbbaaPureDefFnExactWider
import Derived.Test.YtddojikjiebbbaaPureFnExactWider
import Derived.Test.YtddojikjiebbbaaOpens
import Derived.Test.YtddojikjiebbbaaFlOpens
import Derived.WalkKit
import Derived.ProofKit
import Derived.OpenShut
import Derived.ShutString
import Derived.ChangeOld
import Derived.Below
import Derived.SizedLaws
import Derived.Deep.Slices
namespace Go.Proofs.Ytddojikjiebbbaa.fnExactWider
open Go.ChangeShapes Go.WideShapes Go.ChangeAt Go.RowKit Go.Proofs.YtddojikjiebbbaaW.PrintWords Go.Proofs.Ytddojikjiebbbaa.Open Go.Proofs.Ytddojikjiebbbaa.QFnExactWider
set_option linter.unusedVariables false
theorem own : ownKnob Try.prog.godebug = none := by kernel_rfl
theorem laidOut : laidOutB Try.prog = true := by kernel_rfl
theorem o_36 : Opens Try.prog (Kd.fl .f32) 36 (fun x : Fl => True) := opens_fl Try.underlying36
theorem p_0 : Opens Try.prog (Kd.iso (Kd.pair (Kd.fl .f32) (Kd.fl .f32)) (fun p : Fl × Fl => p)) 42 (fun p => True ∧ True) := opens_struct (d := (Kd.pair (Kd.fl .f32) (Kd.fl .f32))) (f := fun p : Fl × Fl => p) (fun p => p) (fun _ => rfl) Try.underlying42 (by kernel_rfl) (by kernel_rfl) (opensL_cons (by kernel_rfl) rfl o_36 (opensL_one (by kernel_rfl) o_36))
set_option maxRecDepth 100000 in
theorem lifted (os : Os) (started : os.Started) (H : Type) (enc : TypeId × Value → H) :
    ReturnsInHanded {} Try.checked os 8 .any (Rows.fnExactWiderSpec.pre6 enc Try.prog Try.f8 Rows.fnExactWiderRow.domain false) (Rows.fnExactWiderSpec.post enc Try.prog Try.f8 false true false false) := by
  refine returnsInHanded_of_change_sized (C := Try.checked) own started (by kernel_rfl) Try.func8
    (ChangeSpec.witness6 (enc := enc) (C := Try.checked) false ⟨#[], #[.agg #[.float .f32 0, .float .f32 0]], []⟩ 8 (by kernel_rfl) (by kernel_rfl) (by kernel_rfl) (by kernel_rfl)) ?_
  intro W base args ds gs before hval0 hW hcnd hsz0 _
  have hval : ∀ (j : Nat) t v, Try.f8.params[j]? = some t → args[j]? = some v → Value.okWide Try.prog W .any base t v := hval0
  have hW' := hW
  obtain ⟨p, q, hA0, hV, rfl, hfz, hnd⟩ := hW
  have hA : DataW.TrodAll enc Try.prog W 0 (fun _ => true) true Try.f8.params.toList args.toList ds p := hA0
  rw [Try.params8] at hA hval
  obtain ⟨v0, vs0, d0, ds0, p0, q0, hargs, rfl, rfl, h0, r0⟩ := trodAll_cons hA
  obtain ⟨rfl, rfl, rfl⟩ := trodAll_nil r0
  obtain rfl : args = #[v0] := by cases args; simp_all
  obtain ⟨rfl, rfl⟩ := trodVars_none hV
  have k0 := h0
  have lt0 : ∀ x ∈ p0, x.block < W.heap.size := by obtain ⟨m, hm⟩ := k0; exact DataW.trod_lt m _ _ _ hm
  obtain ⟨fuel0, hf0⟩ := h0
  obtain ⟨cs0, rfl, _⟩ := okWide_struct Try.underlying42 (hval 0 42 v0 rfl rfl)
  obtain ⟨y0, K0, w0⟩ := p_0 (cs := cs0.toList) (by simpa [Value.cells] using hf0)
  obtain ⟨_, _, e0, ⟨b0_0, rfl, hF0_0⟩, ⟨b0_1, rfl, hF0_1⟩⟩ := K0
  obtain rfl : cs0 = #[.float .f32 b0_0, .float .f32 b0_1] := by apply Array.toList_inj.1; rw [e0]; rfl
  obtain ⟨k, h⟩ := Pure.FnExactWider (y0.1) (y0.2) 
  refine (laws_FnExactWider.calls k b0_0 (y0.1) b0_1 (y0.2) true W hF0_0 hF0_1 h).mono fun e W' ⟨he, bel0⟩ => ?_
  subst he
  have bel : Below W.heap.size W W' := bel0
  exact ⟨_, rfl, _, _, _, [], _, [], hW', trodAll_mk1 (shut_bool Try.underlying4 _), (trodAll_cons_mk (Below.trod laidOut (by kernel_rfl) (of_decide_eq_true (by kernel_rfl)) k0 bel lt0) trodAll_mk0), rfl, bel.frame _, fun h => by cases h⟩
theorem over : Rows.fnExactWiderRow.holds Try.pinned (OpenSpec.ofChange Rows.fnExactWiderSpec) :=
  OpenClaim.holds_of_wide 8 Try.f8 rfl rfl rfl rfl rfl rfl rfl ⟨rfl, rfl, rfl, rfl, rfl⟩ rfl rfl rfl rfl rfl (by kernel_rfl) Try.func8 (by kernel_rfl)
    (of_decide_eq_true (by kernel_rfl)) (by unfold Func.isWrapper; first | (rw [if_pos (by decide +kernel)]; kernel_rfl) | (rw [if_neg (by decide +kernel)]; exact ⟨rfl, rfl⟩))
    (fun os started H enc _ => lifted os started H enc)
theorem proved : Rows.FnExactWiderSaid := over
end Go.Proofs.Ytddojikjiebbbaa.fnExactWider
namespace Go.Proofs.Ytddojikjiebbbaa
/-- The row, under a short name, for the claim. -/
theorem fnExactWider_holds : Rows.FnExactWiderSaid := fnExactWider.proved
#print axioms fnExactWider_holds
end Go.Proofs.Ytddojikjiebbbaa
