/- Proved here: the law FnExactFromRoots answers true at every input and leaves its arguments as they were; no condition. The walk is the printed one; the statement over numbers and lists is proved in YtfopdbdamkfglaaPureFnExactFromRoots. -/
import Derived.Test.YtfopdbdamkfglaaRows
import Derived.Test.YtfopdbdamkfglaaQFnExactFromRootsx4
import Derived.Test.YtfopdbdamkfglaaPureDefFnExactFromRoots
import Derived.Test.YtfopdbdamkfglaaPureFnExactFromRoots
import Derived.Test.YtfopdbdamkfglaaOpens
import Derived.Test.YtfopdbdamkfglaaFlOpens
import Derived.WalkKit
import Derived.ProofKit
import Derived.OpenShut
import Derived.ShutString
import Derived.ChangeOld
import Derived.Below
import Derived.SizedLaws
import Derived.Deep.Slices
namespace Go.Proofs.Ytfopdbdamkfglaa.fnExactFromRoots
open Go.ChangeShapes Go.WideShapes Go.ChangeAt Go.RowKit Go.Proofs.YtfopdbdamkfglaaW.PrintWords Go.Proofs.Ytfopdbdamkfglaa.Open Go.Proofs.Ytfopdbdamkfglaa.QFnExactFromRoots
set_option linter.unusedVariables false
theorem own : ownKnob Try.prog.godebug = none := by kernel_rfl
theorem laidOut : laidOutB Try.prog = true := by kernel_rfl
theorem o_23 : Opens Try.prog (Kd.fl .f64) 23 (fun x : Fl => True) := opens_fl Try.underlying23
theorem o_32 : Opens Try.prog k32 32 (fun x : S32 => (True ∧ True)) := opens_struct (d := (Kd.pair (Kd.fl .f64) (Kd.fl .f64))) (f := fun x : S32 => (x.f0, x.f1)) (fun p => ⟨p.1, p.2⟩) (fun _ => rfl) Try.underlying32 (by kernel_rfl) (by kernel_rfl) (opensL_cons (by kernel_rfl) rfl o_23 (opensL_one (by kernel_rfl) o_23))
theorem o_30 : Opens Try.prog (Kd.slice 32 k32) 30 (fun x : List S32 => (x.length ≤ 9223372036854775807 ∧ ∀ y1 ∈ x, (True ∧ True))) := opens_slice z32 Try.underlying30 (by kernel_rfl) o_32
set_option maxRecDepth 100000 in
theorem lifted (os : Os) (started : os.Started) (H : Type) (enc : TypeId × Value → H) :
    ReturnsInHanded {} Try.checked os 8 .any (Rows.fnExactFromRootsSpec.pre6 enc Try.prog Try.f8 Rows.fnExactFromRootsRow.domain false) (Rows.fnExactFromRootsSpec.post enc Try.prog Try.f8 false true false false) := by
  refine returnsInHanded_of_change_sized (C := Try.checked) own started (by kernel_rfl) Try.func8
    (ChangeSpec.witness6 (enc := enc) (C := Try.checked) false ⟨#[], #[.slice none 0 0], []⟩ 8 (by kernel_rfl) (by kernel_rfl) (by kernel_rfl) (by kernel_rfl)) ?_
  intro W base args ds gs before hval0 hW hcnd hsz0 _
  have hval : ∀ (j : Nat) t v, Try.f8.params[j]? = some t → args[j]? = some v → Value.okWide Try.prog W .any base t v := hval0
  have hW' := hW
  obtain ⟨p, q, hA0, hV, rfl, hfz, hnd⟩ := hW
  have hA : DataW.TrodAll enc Try.prog W 0 (fun _ => true) true Try.f8.params.toList args.toList ds p := hA0
  rw [Try.params8] at hA hval
  obtain ⟨v0, vs0, d0, ds0, p0, q0, hargs, rfl, rfl, h0, r0⟩ := trodAll_cons hA
  obtain ⟨rfl, rfl, rfl⟩ := trodAll_nil r0
  obtain rfl : args = #[v0] := by cases args; simp_all
  obtain ⟨rfl, rfl⟩ := trodVars_none hV
  have k0 := h0
  have lt0 : ∀ x ∈ p0, x.block < W.heap.size := by obtain ⟨m, hm⟩ := k0; exact DataW.trod_lt m _ _ _ hm
  obtain ⟨fuel0, hf0⟩ := h0
  obtain ⟨a0, len0, cap0, rfl⟩ := okWide_slice Try.underlying30 (hval 0 30 v0 rfl rfl)
  obtain ⟨y0, ⟨A0, c0, e0, l0, g0⟩, w0⟩ := o_30 (cs := [.slice a0 len0 cap0]) (by simpa [Value.cells] using hf0)
  simp only [List.cons.injEq, and_true, Value.slice.injEq] at e0
  obtain ⟨rfl, rfl, rfl⟩ := e0
  obtain ⟨k, h⟩ := Pure.FnExactFromRoots y0 w0
  refine (laws_FnExactFromRoots.calls k _ _ y0 true W g0 l0 h).mono fun e W' ⟨he, bel0⟩ => ?_
  subst he
  have bel : Below W.heap.size W W' := bel0
  exact ⟨_, rfl, _, _, _, [], _, [], hW', trodAll_mk1 (shut_bool Try.underlying4 _), (trodAll_cons_mk (Below.trod laidOut (by kernel_rfl) (of_decide_eq_true (by kernel_rfl)) k0 bel lt0) trodAll_mk0), rfl, bel.frame _, fun h => by cases h⟩
theorem over : Rows.fnExactFromRootsRow.holds Try.pinned (OpenSpec.ofChange Rows.fnExactFromRootsSpec) :=
  OpenClaim.holds_of_wide 8 Try.f8 rfl rfl rfl rfl rfl rfl rfl ⟨rfl, rfl, rfl, rfl, rfl⟩ rfl rfl rfl rfl rfl (by kernel_rfl) Try.func8 (by kernel_rfl)
    (of_decide_eq_true (by kernel_rfl)) (by unfold Func.isWrapper; first | (rw [if_pos (by decide +kernel)]; kernel_rfl) | (rw [if_neg (by decide +kernel)]; exact ⟨rfl, rfl⟩))
    (fun os started H enc _ => lifted os started H enc)
theorem proved : Rows.FnExactFromRootsSaid := over
end Go.Proofs.Ytfopdbdamkfglaa.fnExactFromRoots
namespace Go.Proofs.Ytfopdbdamkfglaa
/-- The row, under a short name, for the claim. -/
theorem fnExactFromRoots_holds : Rows.FnExactFromRootsSaid := fnExactFromRoots.proved
#print axioms fnExactFromRoots_holds
end Go.Proofs.Ytfopdbdamkfglaa
