/- Lean functions that tell what the Go functions used by one law answer, and for each a proof that the Go code comes to just these answers; no condition. Printed by this session's own program over the kit's printer. -/
import Derived.Test.YtfopdbdamkfglaaQFnSizesx0
import Derived.Test.YtfopdbdamkfglaaQFnSizesx1
import Derived.Test.YtfopdbdamkfglaaQFnSizesx2
import Derived.Test.YtfopdbdamkfglaaQFnSizesx4
namespace Go.Proofs.Ytfopdbdamkfglaa.QFnSizes
open Go.RowKit Go.Proofs.YtfopdbdamkfglaaW.PrintWords Go.Proofs.YtfopdbdamkfglaaW.PrintLast Go.Proofs.YtfopdbdamkfglaaW.PrintMore
attribute [local go_sem] max2_int min2_int max_two min_two max_three min_three max_four min_four   -- for this text's walks alone
attribute [local go_sem high] go_eql go_neq go_lss go_leq go_gtr go_geq go_store   -- for this text's walks alone
set_option linter.unusedVariables false
set_option linter.unusedSimpArgs false

/-! ### laws_FnSizes: function 12 -/
mutual
def laws_FnSizes.j0 : Nat → List Int → Bool → Option (Bool)
  | 0, _, _ => none
  | k + 1, x0, x53 => if x53 = true then (some false) else ((spec_DrawCxTimes.f k x0).bind fun bt336 => ((impl_CxTimes.f bt336.1 bt336.2.1 bt336.2.2.1 bt336.2.2.2).bind fun bt342 => ((impl_CxTimes.f bt336.2.2.1 bt336.2.2.2 bt336.1 bt336.2.1).bind fun bt344 => ((impl_CxAdd.f bt336.1 bt336.2.1 bt336.2.2.1 bt336.2.2.2).bind fun bt348 => ((impl_CxAdd.f bt336.2.2.1 bt336.2.2.2 bt336.1 bt336.2.1).bind fun bt350 => ((laws_sameBits.f bt342.1 bt344.1).bind fun t354 => (if t354 = true then ((laws_sameBits.f bt342.2 bt344.2).bind fun t355 => (if t355 = true then ((laws_sameBits.f bt348.1 bt350.1).bind fun t356 => (if t356 = true then ((laws_sameBits.f bt348.2 bt350.2).bind fun t357 => (laws_FnSizes.j1 k x0 (!t357))) else (laws_FnSizes.j1 k x0 true))) else (laws_FnSizes.j1 k x0 true))) else (laws_FnSizes.j1 k x0 true))))))))
def laws_FnSizes.j1 : Nat → List Int → Bool → Option (Bool)
  | 0, _, _ => none
  | k + 1, x0, x100 => if x100 = true then (some false) else ((spec_DrawSmallRoots.f k x0).bind fun t358 => ((impl_FromRoots.f k t358).bind fun bt361 => (if bt361.2 = true then (laws_FnSizes.j2 k t358 bt361.1 ((bt361.1.length : Int) != (wrap64 ((t358.length : Int) + 1)))) else (laws_FnSizes.j2 k t358 bt361.1 true))))
def laws_FnSizes.j2 : Nat → List (S34) → List (S34) → Bool → Option (Bool)
  | 0, _, _, _ => none
  | k + 1, x11, x12, x117 => if x117 = true then (some false) else (laws_FnSizes.l0 k x11 x12 0)
def laws_FnSizes.l0 : Nat → List (S34) → List (S34) → Int → Option (Bool)
  | 0, _, _, _ => none
  | k + 1, x11, x12, x14 => if x14 < (x11.length : Int) then (if 0 ≤ x14 then ((impl_Poly.f k x12 ((rd_T34 x11 x14).f0) ((rd_T34 x11 x14).f1)).bind fun bt366 => (if bt366.2.2 = true then (if (fcmp .neq .f64 bt366.1 (cn .f64 0)) = true then (laws_FnSizes.j4 k x11 x12 x14 true) else (laws_FnSizes.j4 k x11 x12 x14 (fcmp .neq .f64 bt366.2.1 (cn .f64 0)))) else (laws_FnSizes.j4 k x11 x12 x14 true))) else (none)) else ((impl_Damped.f k x11).bind fun bt370 => (laws_FnSizes.l1 k x11 x12 bt370.1 bt370.2 0 0))
def laws_FnSizes.j4 : Nat → List (S34) → List (S34) → Int → Bool → Option (Bool)
  | 0, _, _, _, _ => none
  | k + 1, x11, x12, x14, x144 => if x144 = true then (some false) else (laws_FnSizes.l0 k x11 x12 (wrap64 (x14 + 1)))
def laws_FnSizes.l1 : Nat → List (S34) → List (S34) → Int → Bool → Int → Int → Option (Bool)
  | 0, _, _, _, _, _, _ => none
  | k + 1, x11, x12, x17, x18, x19, x20 => if x20 < (x11.length : Int) then (if 0 ≤ x20 then (if (fcmp .lss .f64 ((rd_T34 x11 x20).f0) (cn .f64 0)) = true then (laws_FnSizes.l1 k x11 x12 x17 x18 (wrap64 (x19 + 1)) (wrap64 (x20 + 1))) else (laws_FnSizes.l1 k x11 x12 x17 x18 x19 (wrap64 (x20 + 1)))) else (none)) else (if x18 = true then (if x17 = x19 then (if 0 < (x12.length : Int) then (if (fcmp .eql .f64 ((rd_T34 x12 0).f0) (cn .f64 4607182418800017408)) = true then (some (fcmp .eql .f64 ((rd_T34 x12 0).f1) (cn .f64 0))) else (some false)) else (none)) else (some false)) else (some false))
end
def laws_FnSizes.f (k : Nat) (l0 : List Int) : Option (Bool) := (laws_big.f l0).bind fun t327 => (if t327 = true then (some true) else ((spec_DrawWider.f k l0).bind fun bt328 => ((impl_Wider.f bt328.1 bt328.2).bind fun bt331 => ((impl_Sharper.f bt331.1 bt331.2).bind fun bt333 => (if (fcmp .neq .f32 bt333.1 bt328.1) = true then (if (fcmp .eql .f32 bt328.1 bt328.1) = true then (laws_FnSizes.j0 k l0 true) else (if (fcmp .neq .f32 bt333.2 bt328.2) = true then (laws_FnSizes.j0 k l0 (fcmp .eql .f32 bt328.2 bt328.2)) else (laws_FnSizes.j0 k l0 false))) else (if (fcmp .neq .f32 bt333.2 bt328.2) = true then (laws_FnSizes.j0 k l0 (fcmp .eql .f32 bt328.2 bt328.2)) else (laws_FnSizes.j0 k l0 false)))))))
theorem laws_FnSizes.mono_l : ∀ k, (∀ y0 y1, LeO (laws_FnSizes.j0 k y0 y1) (laws_FnSizes.j0 (k + 1) y0 y1)) ∧ (∀ y0 y1, LeO (laws_FnSizes.j1 k y0 y1) (laws_FnSizes.j1 (k + 1) y0 y1)) ∧ (∀ y0 y1 y2, LeO (laws_FnSizes.j2 k y0 y1 y2) (laws_FnSizes.j2 (k + 1) y0 y1 y2)) ∧ (∀ y0 y1 y2, LeO (laws_FnSizes.l0 k y0 y1 y2) (laws_FnSizes.l0 (k + 1) y0 y1 y2)) ∧ (∀ y0 y1 y2 y3, LeO (laws_FnSizes.j4 k y0 y1 y2 y3) (laws_FnSizes.j4 (k + 1) y0 y1 y2 y3)) ∧ (∀ y0 y1 y2 y3 y4 y5, LeO (laws_FnSizes.l1 k y0 y1 y2 y3 y4 y5) (laws_FnSizes.l1 (k + 1) y0 y1 y2 y3 y4 y5))
  | 0 => ⟨fun _ _ r h => by simp [laws_FnSizes.j0] at h, fun _ _ r h => by simp [laws_FnSizes.j1] at h, fun _ _ _ r h => by simp [laws_FnSizes.j2] at h, fun _ _ _ r h => by simp [laws_FnSizes.l0] at h, fun _ _ _ _ r h => by simp [laws_FnSizes.j4] at h, fun _ _ _ _ _ _ r h => by simp [laws_FnSizes.l1] at h⟩
  | k + 1 => by
    obtain ⟨ih0, ih1, ih2, ih3, ih4, ih5⟩ := laws_FnSizes.mono_l k
    refine ⟨?_, ?_, ?_, ?_, ?_, ?_⟩
    · intro y0 y1
      unfold laws_FnSizes.j0
      repeat' first
      | (with_reducible exact ih0 _ _)
      | (with_reducible exact ih1 _ _)
      | (with_reducible exact ih2 _ _ _)
      | (with_reducible exact ih3 _ _ _)
      | (with_reducible exact ih4 _ _ _ _)
      | (with_reducible exact ih5 _ _ _ _ _ _)
      | (with_reducible exact impl_Damped.mono _ _)
      | (with_reducible exact impl_FromRoots.mono _ _)
      | (with_reducible exact impl_Poly.mono _ _ _ _)
      | (with_reducible exact spec_DrawCxTimes.mono _ _)
      | (with_reducible exact spec_DrawSmallRoots.mono _ _)
      | (with_reducible exact spec_DrawWider.mono _ _)
      | (with_reducible exact LeO.refl _)
      | (with_reducible exact LeO.none _)
      | (with_reducible refine LeO.ite ?_ ?_)
      | (with_reducible refine LeO.bind ?_ (fun _ => ?_))
      | exact ih0 _ _
      | exact ih1 _ _
      | exact ih2 _ _ _
      | exact ih3 _ _ _
      | exact ih4 _ _ _ _
      | exact ih5 _ _ _ _ _ _
      | exact impl_Damped.mono _ _
      | exact impl_FromRoots.mono _ _
      | exact impl_Poly.mono _ _ _ _
      | exact spec_DrawCxTimes.mono _ _
      | exact spec_DrawSmallRoots.mono _ _
      | exact spec_DrawWider.mono _ _
      | exact LeO.none _
      | refine LeO.ite ?_ ?_
      | refine LeO.bind ?_ (fun _ => ?_)
    · intro y0 y1
      unfold laws_FnSizes.j1
      repeat' first
      | (with_reducible exact ih0 _ _)
      | (with_reducible exact ih1 _ _)
      | (with_reducible exact ih2 _ _ _)
      | (with_reducible exact ih3 _ _ _)
      | (with_reducible exact ih4 _ _ _ _)
      | (with_reducible exact ih5 _ _ _ _ _ _)
      | (with_reducible exact impl_Damped.mono _ _)
      | (with_reducible exact impl_FromRoots.mono _ _)
      | (with_reducible exact impl_Poly.mono _ _ _ _)
      | (with_reducible exact spec_DrawCxTimes.mono _ _)
      | (with_reducible exact spec_DrawSmallRoots.mono _ _)
      | (with_reducible exact spec_DrawWider.mono _ _)
      | (with_reducible exact LeO.refl _)
      | (with_reducible exact LeO.none _)
      | (with_reducible refine LeO.ite ?_ ?_)
      | (with_reducible refine LeO.bind ?_ (fun _ => ?_))
      | exact ih0 _ _
      | exact ih1 _ _
      | exact ih2 _ _ _
      | exact ih3 _ _ _
      | exact ih4 _ _ _ _
      | exact ih5 _ _ _ _ _ _
      | exact impl_Damped.mono _ _
      | exact impl_FromRoots.mono _ _
      | exact impl_Poly.mono _ _ _ _
      | exact spec_DrawCxTimes.mono _ _
      | exact spec_DrawSmallRoots.mono _ _
      | exact spec_DrawWider.mono _ _
      | exact LeO.none _
      | refine LeO.ite ?_ ?_
      | refine LeO.bind ?_ (fun _ => ?_)
    · intro y0 y1 y2
      unfold laws_FnSizes.j2
      repeat' first
      | (with_reducible exact ih0 _ _)
      | (with_reducible exact ih1 _ _)
      | (with_reducible exact ih2 _ _ _)
      | (with_reducible exact ih3 _ _ _)
      | (with_reducible exact ih4 _ _ _ _)
      | (with_reducible exact ih5 _ _ _ _ _ _)
      | (with_reducible exact impl_Damped.mono _ _)
      | (with_reducible exact impl_FromRoots.mono _ _)
      | (with_reducible exact impl_Poly.mono _ _ _ _)
      | (with_reducible exact spec_DrawCxTimes.mono _ _)
      | (with_reducible exact spec_DrawSmallRoots.mono _ _)
      | (with_reducible exact spec_DrawWider.mono _ _)
      | (with_reducible exact LeO.refl _)
      | (with_reducible exact LeO.none _)
      | (with_reducible refine LeO.ite ?_ ?_)
      | (with_reducible refine LeO.bind ?_ (fun _ => ?_))
      | exact ih0 _ _
      | exact ih1 _ _
      | exact ih2 _ _ _
      | exact ih3 _ _ _
      | exact ih4 _ _ _ _
      | exact ih5 _ _ _ _ _ _
      | exact impl_Damped.mono _ _
      | exact impl_FromRoots.mono _ _
      | exact impl_Poly.mono _ _ _ _
      | exact spec_DrawCxTimes.mono _ _
      | exact spec_DrawSmallRoots.mono _ _
      | exact spec_DrawWider.mono _ _
      | exact LeO.none _
      | refine LeO.ite ?_ ?_
      | refine LeO.bind ?_ (fun _ => ?_)
    · intro y0 y1 y2
      unfold laws_FnSizes.l0
      repeat' first
      | (with_reducible exact ih0 _ _)
      | (with_reducible exact ih1 _ _)
      | (with_reducible exact ih2 _ _ _)
      | (with_reducible exact ih3 _ _ _)
      | (with_reducible exact ih4 _ _ _ _)
      | (with_reducible exact ih5 _ _ _ _ _ _)
      | (with_reducible exact impl_Damped.mono _ _)
      | (with_reducible exact impl_FromRoots.mono _ _)
      | (with_reducible exact impl_Poly.mono _ _ _ _)
      | (with_reducible exact spec_DrawCxTimes.mono _ _)
      | (with_reducible exact spec_DrawSmallRoots.mono _ _)
      | (with_reducible exact spec_DrawWider.mono _ _)
      | (with_reducible exact LeO.refl _)
      | (with_reducible exact LeO.none _)
      | (with_reducible refine LeO.ite ?_ ?_)
      | (with_reducible refine LeO.bind ?_ (fun _ => ?_))
      | exact ih0 _ _
      | exact ih1 _ _
      | exact ih2 _ _ _
      | exact ih3 _ _ _
      | exact ih4 _ _ _ _
      | exact ih5 _ _ _ _ _ _
      | exact impl_Damped.mono _ _
      | exact impl_FromRoots.mono _ _
      | exact impl_Poly.mono _ _ _ _
      | exact spec_DrawCxTimes.mono _ _
      | exact spec_DrawSmallRoots.mono _ _
      | exact spec_DrawWider.mono _ _
      | exact LeO.none _
      | refine LeO.ite ?_ ?_
      | refine LeO.bind ?_ (fun _ => ?_)
    · intro y0 y1 y2 y3
      unfold laws_FnSizes.j4
      repeat' first
      | (with_reducible exact ih0 _ _)
      | (with_reducible exact ih1 _ _)
      | (with_reducible exact ih2 _ _ _)
      | (with_reducible exact ih3 _ _ _)
      | (with_reducible exact ih4 _ _ _ _)
      | (with_reducible exact ih5 _ _ _ _ _ _)
      | (with_reducible exact impl_Damped.mono _ _)
      | (with_reducible exact impl_FromRoots.mono _ _)
      | (with_reducible exact impl_Poly.mono _ _ _ _)
      | (with_reducible exact spec_DrawCxTimes.mono _ _)
      | (with_reducible exact spec_DrawSmallRoots.mono _ _)
      | (with_reducible exact spec_DrawWider.mono _ _)
      | (with_reducible exact LeO.refl _)
      | (with_reducible exact LeO.none _)
      | (with_reducible refine LeO.ite ?_ ?_)
      | (with_reducible refine LeO.bind ?_ (fun _ => ?_))
      | exact ih0 _ _
      | exact ih1 _ _
      | exact ih2 _ _ _
      | exact ih3 _ _ _
      | exact ih4 _ _ _ _
      | exact ih5 _ _ _ _ _ _
      | exact impl_Damped.mono _ _
      | exact impl_FromRoots.mono _ _
      | exact impl_Poly.mono _ _ _ _
      | exact spec_DrawCxTimes.mono _ _
      | exact spec_DrawSmallRoots.mono _ _
      | exact spec_DrawWider.mono _ _
      | exact LeO.none _
      | refine LeO.ite ?_ ?_
      | refine LeO.bind ?_ (fun _ => ?_)
    · intro y0 y1 y2 y3 y4 y5
      unfold laws_FnSizes.l1
      repeat' first
      | (with_reducible exact ih0 _ _)
      | (with_reducible exact ih1 _ _)
      | (with_reducible exact ih2 _ _ _)
      | (with_reducible exact ih3 _ _ _)
      | (with_reducible exact ih4 _ _ _ _)
      | (with_reducible exact ih5 _ _ _ _ _ _)
      | (with_reducible exact impl_Damped.mono _ _)
      | (with_reducible exact impl_FromRoots.mono _ _)
      | (with_reducible exact impl_Poly.mono _ _ _ _)
      | (with_reducible exact spec_DrawCxTimes.mono _ _)
      | (with_reducible exact spec_DrawSmallRoots.mono _ _)
      | (with_reducible exact spec_DrawWider.mono _ _)
      | (with_reducible exact LeO.refl _)
      | (with_reducible exact LeO.none _)
      | (with_reducible refine LeO.ite ?_ ?_)
      | (with_reducible refine LeO.bind ?_ (fun _ => ?_))
      | exact ih0 _ _
      | exact ih1 _ _
      | exact ih2 _ _ _
      | exact ih3 _ _ _
      | exact ih4 _ _ _ _
      | exact ih5 _ _ _ _ _ _
      | exact impl_Damped.mono _ _
      | exact impl_FromRoots.mono _ _
      | exact impl_Poly.mono _ _ _ _
      | exact spec_DrawCxTimes.mono _ _
      | exact spec_DrawSmallRoots.mono _ _
      | exact spec_DrawWider.mono _ _
      | exact LeO.none _
      | refine LeO.ite ?_ ?_
      | refine LeO.bind ?_ (fun _ => ?_)
theorem laws_FnSizes.mono : ∀ a0 k, LeO (laws_FnSizes.f k a0) (laws_FnSizes.f (k + 1) a0) := by
  intro a0 k
  obtain ⟨ih0, ih1, ih2, ih3, ih4, ih5⟩ := laws_FnSizes.mono_l k
  unfold laws_FnSizes.f
  repeat' first
      | (with_reducible exact ih0 _ _)
      | (with_reducible exact ih1 _ _)
      | (with_reducible exact ih2 _ _ _)
      | (with_reducible exact ih3 _ _ _)
      | (with_reducible exact ih4 _ _ _ _)
      | (with_reducible exact ih5 _ _ _ _ _ _)
      | (with_reducible exact impl_Damped.mono _ _)
      | (with_reducible exact impl_FromRoots.mono _ _)
      | (with_reducible exact impl_Poly.mono _ _ _ _)
      | (with_reducible exact spec_DrawCxTimes.mono _ _)
      | (with_reducible exact spec_DrawSmallRoots.mono _ _)
      | (with_reducible exact spec_DrawWider.mono _ _)
      | (with_reducible exact LeO.refl _)
      | (with_reducible exact LeO.none _)
      | (with_reducible refine LeO.ite ?_ ?_)
      | (with_reducible refine LeO.bind ?_ (fun _ => ?_))
      | exact ih0 _ _
      | exact ih1 _ _
      | exact ih2 _ _ _
      | exact ih3 _ _ _
      | exact ih4 _ _ _ _
      | exact ih5 _ _ _ _ _ _
      | exact impl_Damped.mono _ _
      | exact impl_FromRoots.mono _ _
      | exact impl_Poly.mono _ _ _ _
      | exact spec_DrawCxTimes.mono _ _
      | exact spec_DrawSmallRoots.mono _ _
      | exact spec_DrawWider.mono _ _
      | exact LeO.none _
      | refine LeO.ite ?_ ?_
      | refine LeO.bind ?_ (fun _ => ?_)
def laws_FnSizes.T8 : Bool × List (List Nat × List Nat) := (true, [([], []), ([], []), ([0, 1], [0, 1]), ([], []), ([], []), ([3, 4, 2], [3, 4]), ([], []), ([], []), ([6, 2, 5, 0, 1, 2, 6, 7], [2, 6]), ([7, 5, 8, 0, 1, 2, 3, 4, 5, 6, 7, 8], [5, 7])])
def laws_FnSizes.B8 : List Nat := [0, 0, 3, 0, 0, 31, 0, 0, 255, 511]
theorem laws_FnSizes.tab8 : rtab .any (opsOf Try.f12 8) = laws_FnSizes.T8 := by kernel_rfl
theorem laws_FnSizes.bits8 : waitsOk laws_FnSizes.T8.2 laws_FnSizes.B8 = true := by kernel_rfl
def laws_FnSizes.T9 : Bool × List (List Nat × List Nat) := (true, [([], []), ([], []), ([0, 1], [0, 1]), ([], []), ([], []), ([3, 4, 2], [3, 4]), ([], []), ([], []), ([6, 2, 5, 0, 1, 2, 6, 7], [2, 6]), ([7, 5, 8, 0, 1, 2, 3, 4, 5, 6, 7, 8], [5, 7])])
def laws_FnSizes.B9 : List Nat := [0, 0, 3, 0, 0, 31, 0, 0, 255, 511]
theorem laws_FnSizes.tab9 : rtab .any (opsOf Try.f12 9) = laws_FnSizes.T9 := by kernel_rfl
theorem laws_FnSizes.bits9 : waitsOk laws_FnSizes.T9.2 laws_FnSizes.B9 = true := by kernel_rfl
set_option maxHeartbeats 8000000 in
set_option maxRecDepth 100000 in
theorem laws_FnSizes.calls (k : Nat) (A0 : Option Addr) (c0 : Nat) (l0 : List Int) (r : Bool) (w : World) (hr0 : Kd.C (Kd.int .u8) w A0 l0.length l0) (hc0 : l0.length ≤ c0) (h : laws_FnSizes.f k l0 = some r) :
    Calls Try.prog 12 #[.slice A0 l0.length c0] w fun e w' => e = .returned (.bool r) ∧ Below w.heap.size w w' := by
  have hu80 := Try.underlying80
  have hu34 := Try.underlying34
  have HR0 := Aside0.mk hr0
  have HC0 := Aside0.mk hc0
  clear hr0 hc0
  have HB := Aside0.mk (Below.refl w.heap.size w)
  have H : ((laws_big.f l0).bind fun t327 => (if t327 = true then (some true) else ((spec_DrawWider.f k l0).bind fun bt328 => ((impl_Wider.f bt328.1 bt328.2).bind fun bt331 => ((impl_Sharper.f bt331.1 bt331.2).bind fun bt333 => (if (fcmp .neq .f32 bt333.1 bt328.1) = true then (if (fcmp .eql .f32 bt328.1 bt328.1) = true then (laws_FnSizes.j0 k l0 true) else (if (fcmp .neq .f32 bt333.2 bt328.2) = true then (laws_FnSizes.j0 k l0 (fcmp .eql .f32 bt328.2 bt328.2)) else (laws_FnSizes.j0 k l0 false))) else (if (fcmp .neq .f32 bt333.2 bt328.2) = true then (laws_FnSizes.j0 k l0 (fcmp .eql .f32 bt328.2 bt328.2)) else (laws_FnSizes.j0 k l0 false)))))))) = some r := h
  clear h
  replace H := Option.bind_eq_some_iff.mp H
  obtain ⟨t327, A20, H⟩ := H
  replace H : (if t327 = true then (some true) else ((spec_DrawWider.f k l0).bind fun bt328 => ((impl_Wider.f bt328.1 bt328.2).bind fun bt331 => ((impl_Sharper.f bt331.1 bt331.2).bind fun bt333 => (if (fcmp .neq .f32 bt333.1 bt328.1) = true then (if (fcmp .eql .f32 bt328.1 bt328.1) = true then (laws_FnSizes.j0 k l0 true) else (if (fcmp .neq .f32 bt333.2 bt328.2) = true then (laws_FnSizes.j0 k l0 (fcmp .eql .f32 bt328.2 bt328.2)) else (laws_FnSizes.j0 k l0 false))) else (if (fcmp .neq .f32 bt333.2 bt328.2) = true then (laws_FnSizes.j0 k l0 (fcmp .eql .f32 bt328.2 bt328.2)) else (laws_FnSizes.j0 k l0 false))))))) = some r := H
  have A2 := Aside0.mk A20
  clear A20
  by_cases c3 : t327 = true
  · subst c3
    have H1 : (some true) = some r := by rw [if_pos rfl] at H; exact H
    clear H
    have H := H1
    clear H1
    obtain rfl := Option.some.inj H
    go_enter Try.func12, Try.ntmps12
    go_wp2_with (first | ((with_reducible refine gate_callee (f := 48) rfl ?_); refine goesL_ (some 22) rfl rfl Try.func48 (by kernel_rfl) rfl #[.slice A0 l0.length c0] rfl (by (try simp only [List.map_toArray, List.map_cons, List.map_nil]); first | done | rfl | (simp only [List.length_drop, List.length_take]; rfl)) ?_; (with_reducible refine (laws_big.calls _ _ l0 true _ ?side1 ?side2 A2.out).mono ?_); (case side1 => repeat (first | exact HR0.out | (with_reducible refine Kd.C_alloc ?_ _) | (with_reducible refine Kd.C_drewN ?_ _) | (with_reducible refine Kd.C_drew ?_))); (case side2 => exact HC0.out); rintro e w' ⟨rfl, ⟨nd, rfl⟩⟩; refine ⟨_, rfl, ?_⟩))
    go_ret
    exact ⟨by first | rfl | (simp [errW_none, errW_some] <;> rfl) | (simp [*, errW_none, errW_some] <;> rfl), by repeat (first | (with_reducible first | exact HB.out | apply below_alloc | apply pw_below_drewN | apply below_drew1) | exact HB.out)⟩
  · replace c3 := Bool.eq_false_iff.mpr c3
    subst c3
    have H1 : ((spec_DrawWider.f k l0).bind fun bt328 => ((impl_Wider.f bt328.1 bt328.2).bind fun bt331 => ((impl_Sharper.f bt331.1 bt331.2).bind fun bt333 => (if (fcmp .neq .f32 bt333.1 bt328.1) = true then (if (fcmp .eql .f32 bt328.1 bt328.1) = true then (laws_FnSizes.j0 k l0 true) else (if (fcmp .neq .f32 bt333.2 bt328.2) = true then (laws_FnSizes.j0 k l0 (fcmp .eql .f32 bt328.2 bt328.2)) else (laws_FnSizes.j0 k l0 false))) else (if (fcmp .neq .f32 bt333.2 bt328.2) = true then (laws_FnSizes.j0 k l0 (fcmp .eql .f32 bt328.2 bt328.2)) else (laws_FnSizes.j0 k l0 false)))))) = some r := by rw [if_neg (show ¬ (false = true) by decide)] at H; exact H
    clear H
    have H := H1
    clear H1
    replace H := Option.bind_eq_some_iff.mp H
    obtain ⟨⟨t328, t329⟩, A40, H⟩ := H
    replace H : ((impl_Wider.f t328 t329).bind fun bt331 => ((impl_Sharper.f bt331.1 bt331.2).bind fun bt333 => (if (fcmp .neq .f32 bt333.1 t328) = true then (if (fcmp .eql .f32 t328 t328) = true then (laws_FnSizes.j0 k l0 true) else (if (fcmp .neq .f32 bt333.2 t329) = true then (laws_FnSizes.j0 k l0 (fcmp .eql .f32 t329 t329)) else (laws_FnSizes.j0 k l0 false))) else (if (fcmp .neq .f32 bt333.2 t329) = true then (laws_FnSizes.j0 k l0 (fcmp .eql .f32 t329 t329)) else (laws_FnSizes.j0 k l0 false))))) = some r := H
    have A4 := Aside0.mk A40
    clear A40
    replace H := Option.bind_eq_some_iff.mp H
    obtain ⟨⟨t331, t332⟩, A50, H⟩ := H
    replace H : ((impl_Sharper.f t331 t332).bind fun bt333 => (if (fcmp .neq .f32 bt333.1 t328) = true then (if (fcmp .eql .f32 t328 t328) = true then (laws_FnSizes.j0 k l0 true) else (if (fcmp .neq .f32 bt333.2 t329) = true then (laws_FnSizes.j0 k l0 (fcmp .eql .f32 t329 t329)) else (laws_FnSizes.j0 k l0 false))) else (if (fcmp .neq .f32 bt333.2 t329) = true then (laws_FnSizes.j0 k l0 (fcmp .eql .f32 t329 t329)) else (laws_FnSizes.j0 k l0 false)))) = some r := H
    have A5 := Aside0.mk A50
    clear A50
    replace H := Option.bind_eq_some_iff.mp H
    obtain ⟨⟨t333, t334⟩, A60, H⟩ := H
    replace H : (if (fcmp .neq .f32 t333 t328) = true then (if (fcmp .eql .f32 t328 t328) = true then (laws_FnSizes.j0 k l0 true) else (if (fcmp .neq .f32 t334 t329) = true then (laws_FnSizes.j0 k l0 (fcmp .eql .f32 t329 t329)) else (laws_FnSizes.j0 k l0 false))) else (if (fcmp .neq .f32 t334 t329) = true then (laws_FnSizes.j0 k l0 (fcmp .eql .f32 t329 t329)) else (laws_FnSizes.j0 k l0 false))) = some r := H
    have A6 := Aside0.mk A60
    clear A60
    have HC7 := Aside0.mk H
    clear H
    go_enter Try.func12, Try.ntmps12
    go_upto_region 5 with (first | ((with_reducible refine gate_callee (f := 48) rfl ?_); refine goesL_ (some 22) rfl rfl Try.func48 (by kernel_rfl) rfl #[.slice A0 l0.length c0] rfl (by (try simp only [List.map_toArray, List.map_cons, List.map_nil]); first | done | rfl | (simp only [List.length_drop, List.length_take]; rfl)) ?_; (with_reducible refine (laws_big.calls _ _ l0 false _ ?side1 ?side2 A2.out).mono ?_); (case side1 => repeat (first | exact HR0.out | (with_reducible refine Kd.C_alloc ?_ _) | (with_reducible refine Kd.C_drewN ?_ _) | (with_reducible refine Kd.C_drew ?_))); (case side2 => exact HC0.out); rintro e w' ⟨rfl, ⟨nd, rfl⟩⟩; refine ⟨_, rfl, ?_⟩) | ((with_reducible refine gate_callee (f := 56) rfl ?_); refine goesL_ (some 24) rfl rfl Try.func56 (by kernel_rfl) rfl #[.slice A0 l0.length c0] rfl (by (try simp only [List.map_toArray, List.map_cons, List.map_nil]); first | done | rfl | (simp only [List.length_drop, List.length_take]; rfl)) ?_; (with_reducible refine (spec_DrawWider.calls k _ _ l0 t328 t329 _ ?side1 ?side2 A4.out).mono ?_); (case side1 => repeat (first | exact HR0.out | (with_reducible refine Kd.C_alloc ?_ _) | (with_reducible refine Kd.C_drewN ?_ _) | (with_reducible refine Kd.C_drew ?_))); (case side2 => exact HC0.out); rintro e w8 ⟨b_t328, b_t329, rfl, hF_t328, hF_t329, hb⟩; refine ⟨_, rfl, ?_⟩; have n0_ := Aside0.mk (below_step (by repeat (first | (with_reducible first | exact HB.out | apply below_alloc | apply pw_below_drewN | apply below_drew1) | exact HB.out)) hb); clear HB; have HB := n0_; clear n0_; (try clear hb); (try clear hb2); (try clear hk); (try clear hi)) | ((with_reducible refine gate_dst (N := 3) rfl ?_); (try (refine gate_guard (by rfl) ?_; dsimp only)); refine box_event ?hg (N := 3) ?hd (cs := #[.float .f32 0, .float .f32 0]) (t := 80) ?hr ?_; (case hd => rfl); (case hg => rfl); (case hr => first | (go_simp; done) | (go_simp; rfl)); intro gb330 hg w9 hbox hb; have n0_ := Aside0.mk (below_step (by exact HB.out) hb); have n1_ := Aside0.mk (hbox); have n2_ := Aside0.mk ((by rw [hg]; exact (below_size (by exact HB.out)) : w.heap.size ≤ gb330)); have n3_ := Aside0.mk ((n2_.out)); clear HB; have HB := n0_; have BK330 := n1_; have GW330 := n2_; have GE330 := n3_; clear n0_ n1_ n2_ n3_; clear hb hbox hg; have hcz10_0 : w9.cell? ⟨gb330, 0, none⟩ = some (.float .f32 0) := (blk_cell BK330.out 0).trans rfl; have hcz10_1 : w9.cell? ⟨gb330, 1, none⟩ = some (.float .f32 0) := (blk_cell BK330.out 1).trans rfl; have hfz10_0 := blk_frozen BK330.out 0; have hfz10_1 := blk_frozen BK330.out 1) | ((with_reducible refine gate_callee (f := 58) rfl ?_); refine goesL_ (some 26) rfl rfl Try.func58 (by kernel_rfl) rfl #[.agg #[.float .f32 b_t328, .float .f32 b_t329]] rfl (by (try simp only [List.map_toArray, List.map_cons, List.map_nil]); first | done | rfl | (simp only [List.length_drop, List.length_take]; rfl)) ?_; (with_reducible refine (impl_Wider.calls b_t328 t328 b_t329 t329 t331 t332 _ ?side1 ?side2 A5.out).mono ?_); (case side1 => exact hF_t328); (case side2 => exact hF_t329); rintro e w11 ⟨b_t331, b_t332, rfl, hF_t331, hF_t332, hb⟩; refine ⟨_, rfl, ?_⟩; have n0_ := Aside0.mk (blk_below (g := gb330) (o := .cells #[.float .f32 b_t328, .float .f32 b_t329] 80 (0, 0)) (by (with_reducible repeat (first | refine blk_drewN ?_ _ | refine blk_drew ?_ | refine blk_alloc ?_ _)); refine blk_put (cs := #[.float .f32 b_t328, .float .f32 0]) ?_ 1 _ rfl; (with_reducible repeat (first | refine blk_drewN ?_ _ | refine blk_drew ?_ | refine blk_alloc ?_ _)); refine blk_put (cs := #[.float .f32 0, .float .f32 0]) ?_ 0 _ rfl; (with_reducible repeat (first | refine blk_drewN ?_ _ | refine blk_drew ?_ | refine blk_alloc ?_ _)); exact BK330.out) hb); have n1_ := Aside0.mk (below_step (by repeat (first | (with_reducible first | exact HB.out | apply below_alloc | apply pw_below_drewN | apply below_drew1 | refine below_set ?_ GE330.out) | exact HB.out)) hb); clear BK330; clear HB; have BK330 := n0_; have HB := n1_; clear n0_ n1_; (try clear hb); (try clear hb2); (try clear hk); (try clear hi)) | ((with_reducible refine gate_callee (f := 57) rfl ?_); refine goesL_ (some 27) rfl rfl Try.func57 (by kernel_rfl) rfl #[.agg #[.float .f64 b_t331, .float .f64 b_t332]] rfl (by (try simp only [List.map_toArray, List.map_cons, List.map_nil]); first | done | rfl | (simp only [List.length_drop, List.length_take]; rfl)) ?_; (with_reducible refine (impl_Sharper.calls b_t331 t331 b_t332 t332 t333 t334 _ ?side1 ?side2 A6.out).mono ?_); (case side1 => exact hF_t331); (case side2 => exact hF_t332); rintro e w12 ⟨b_t333, b_t334, rfl, hF_t333, hF_t334, hb⟩; refine ⟨_, rfl, ?_⟩; have n0_ := Aside0.mk (blk_below (g := gb330) (o := .cells #[.float .f32 b_t328, .float .f32 b_t329] 80 (0, 0)) (by exact BK330.out) hb); have n1_ := Aside0.mk (below_step (by exact HB.out) hb); clear BK330; clear HB; have BK330 := n0_; have HB := n1_; clear n0_ n1_; (try clear hb); (try clear hb2); (try clear hk); (try clear hi)) | ((with_reducible refine gate_dst (N := 4) rfl ?_); (try (refine gate_guard (by rfl) ?_; dsimp only)); refine box_event ?hg (N := 4) ?hd (cs := #[.float .f32 0, .float .f32 0]) (t := 80) ?hr ?_; (case hd => rfl); (case hg => rfl); (case hr => first | (go_simp; done) | (go_simp; rfl)); intro gb335 hg w13 hbox hb; have n0_ := Aside0.mk (blk_below (g := gb330) (o := .cells #[.float .f32 b_t328, .float .f32 b_t329] 80 (0, 0)) (by exact BK330.out) hb); have n1_ := Aside0.mk (below_step (by exact HB.out) hb); have n2_ := Aside0.mk (hbox); have n3_ := Aside0.mk ((by rw [hg]; exact (below_size (by exact HB.out)) : w.heap.size ≤ gb335)); have n4_ := Aside0.mk ((n3_.out)); have n5_ := Aside0.mk ((by rw [hg]; exact Nat.ne_of_lt (blk_lt (g := gb330) (o := .cells #[.float .f32 b_t328, .float .f32 b_t329] 80 (0, 0)) (by exact BK330.out)) : gb330 ≠ gb335)); have n6_ := Aside0.mk ((n5_.out.symm)); clear BK330; clear HB; have BK330 := n0_; have HB := n1_; have BK335 := n2_; have GW335 := n3_; have GE335 := n4_; have NB330_335 := n5_; have NB335_330 := n6_; clear n0_ n1_ n2_ n3_ n4_ n5_ n6_; clear hb hbox hg; have hnb14 := NB335_330.out; have hnc14 := NB330_335.out; have hcz15_0 : w13.cell? ⟨gb335, 0, none⟩ = some (.float .f32 0) := (blk_cell BK335.out 0).trans rfl; have hcz15_1 : w13.cell? ⟨gb335, 1, none⟩ = some (.float .f32 0) := (blk_cell BK335.out 1).trans rfl; have hfz15_0 := blk_frozen BK335.out 0; have hfz15_1 := blk_frozen BK335.out 1))
    (try simp only [Act.put, List.setIfInBounds_toArray, List.set_cons_zero, List.set_cons_succ])
    go_cut [53] (fun v53 wc => ∃ (kq : Nat) (x53_6 : Bool), v53 = .bool x53_6 ∧ Aside0 (laws_FnSizes.j0 kq l0 x53_6 = some r) ∧ Aside0 (kq ≤ k) ∧ Aside0 (wc.heap[gb330]? = some (.cells #[.float .f32 b_t328, .float .f32 b_t329] 80 (0, 0))) ∧ Aside0 (wc.heap[gb335]? = some (.cells #[.float .f32 b_t333, .float .f32 b_t334] 80 (0, 0))) ∧ Aside0 (Below w.heap.size w wc))
    case first =>
      have H := HC7.out
      clear HC7
      by_cases c16 : (fcmp .neq .f32 t333 t328) = true
      · rw [if_pos c16] at H
        have c16b0 : (fcmp .neq .f32 t333 t328) = true := c16
        clear c16
        (first | rw [c16b0] | (simp only [i64_w, i32_w]; rw [c16b0]) | skip)
        by_cases c17 : (fcmp .eql .f32 t328 t328) = true
        · rw [if_pos c17] at H
          have c17b0 : (fcmp .eql .f32 t328 t328) = true := c17
          clear c17
          have H' := Aside0.mk H
          clear H
          have hnb18 := NB335_330.out
          have hnc18 := NB330_335.out
          have hcz19_0 : w13.cell? ⟨gb335, 0, none⟩ = some (.float .f32 0) := (blk_cell BK335.out 0).trans rfl
          have hcz19_1 : w13.cell? ⟨gb335, 1, none⟩ = some (.float .f32 0) := (blk_cell BK335.out 1).trans rfl
          have hfz19_0 := blk_frozen BK335.out 0
          have hfz19_1 := blk_frozen BK335.out 1
          have hcz20_0 : w13.cell? ⟨gb330, 0, none⟩ = some (.float .f32 b_t328) := (blk_cell BK330.out 0).trans rfl
          have hcz20_1 : w13.cell? ⟨gb330, 1, none⟩ = some (.float .f32 b_t329) := (blk_cell BK330.out 1).trans rfl
          have hfz20_0 := blk_frozen BK330.out 0
          have hfz20_1 := blk_frozen BK330.out 1
          go_wp2
          go_meet
          case rel => exact ⟨_, (true), (by first | rfl | (simp; done) | (simp [*]; done)), H', ⟨by first | omega | exact Nat.le_refl _⟩, ⟨by (with_reducible repeat (first | refine blk_drewN ?_ _ | refine blk_drew ?_ | refine blk_alloc ?_ _)); refine blk_far ?_ NB330_335.out _; (with_reducible repeat (first | refine blk_drewN ?_ _ | refine blk_drew ?_ | refine blk_alloc ?_ _)); refine blk_far ?_ NB330_335.out _; (with_reducible repeat (first | refine blk_drewN ?_ _ | refine blk_drew ?_ | refine blk_alloc ?_ _)); exact BK330.out⟩, ⟨by (with_reducible repeat (first | refine blk_drewN ?_ _ | refine blk_drew ?_ | refine blk_alloc ?_ _)); refine blk_put (cs := #[.float .f32 b_t333, .float .f32 0]) ?_ 1 _ rfl; (with_reducible repeat (first | refine blk_drewN ?_ _ | refine blk_drew ?_ | refine blk_alloc ?_ _)); refine blk_put (cs := #[.float .f32 0, .float .f32 0]) ?_ 0 _ rfl; (with_reducible repeat (first | refine blk_drewN ?_ _ | refine blk_drew ?_ | refine blk_alloc ?_ _)); exact BK335.out⟩, ⟨by repeat (first | (with_reducible first | exact HB.out | apply below_alloc | apply pw_below_drewN | apply below_drew1 | refine below_set ?_ GE335.out) | exact HB.out)⟩⟩
        · rw [if_neg c17] at H
          have c17b0 : (fcmp .eql .f32 t328 t328) = false := by simpa using c17
          clear c17
          by_cases c21 : (fcmp .neq .f32 t334 t329) = true
          · rw [if_pos c21] at H
            have c21b0 : (fcmp .neq .f32 t334 t329) = true := c21
            clear c21
            have H' := Aside0.mk H
            clear H
            have hnb22 := NB335_330.out
            have hnc22 := NB330_335.out
            have hcz23_0 : w13.cell? ⟨gb335, 0, none⟩ = some (.float .f32 0) := (blk_cell BK335.out 0).trans rfl
            have hcz23_1 : w13.cell? ⟨gb335, 1, none⟩ = some (.float .f32 0) := (blk_cell BK335.out 1).trans rfl
            have hfz23_0 := blk_frozen BK335.out 0
            have hfz23_1 := blk_frozen BK335.out 1
            have hcz24_0 : w13.cell? ⟨gb330, 0, none⟩ = some (.float .f32 b_t328) := (blk_cell BK330.out 0).trans rfl
            have hcz24_1 : w13.cell? ⟨gb330, 1, none⟩ = some (.float .f32 b_t329) := (blk_cell BK330.out 1).trans rfl
            have hfz24_0 := blk_frozen BK330.out 0
            have hfz24_1 := blk_frozen BK330.out 1
            go_wp2
            go_meet
            case rel => exact ⟨_, ((fcmp .eql .f32 t329 t329)), (by first | rfl | (simp; done) | (simp [*]; done)), H', ⟨by first | omega | exact Nat.le_refl _⟩, ⟨by (with_reducible repeat (first | refine blk_drewN ?_ _ | refine blk_drew ?_ | refine blk_alloc ?_ _)); refine blk_far ?_ NB330_335.out _; (with_reducible repeat (first | refine blk_drewN ?_ _ | refine blk_drew ?_ | refine blk_alloc ?_ _)); refine blk_far ?_ NB330_335.out _; (with_reducible repeat (first | refine blk_drewN ?_ _ | refine blk_drew ?_ | refine blk_alloc ?_ _)); exact BK330.out⟩, ⟨by (with_reducible repeat (first | refine blk_drewN ?_ _ | refine blk_drew ?_ | refine blk_alloc ?_ _)); refine blk_put (cs := #[.float .f32 b_t333, .float .f32 0]) ?_ 1 _ rfl; (with_reducible repeat (first | refine blk_drewN ?_ _ | refine blk_drew ?_ | refine blk_alloc ?_ _)); refine blk_put (cs := #[.float .f32 0, .float .f32 0]) ?_ 0 _ rfl; (with_reducible repeat (first | refine blk_drewN ?_ _ | refine blk_drew ?_ | refine blk_alloc ?_ _)); exact BK335.out⟩, ⟨by repeat (first | (with_reducible first | exact HB.out | apply below_alloc | apply pw_below_drewN | apply below_drew1 | refine below_set ?_ GE335.out) | exact HB.out)⟩⟩
          · rw [if_neg c21] at H
            have c21b0 : (fcmp .neq .f32 t334 t329) = false := by simpa using c21
            clear c21
            have H' := Aside0.mk H
            clear H
            have hnb25 := NB335_330.out
            have hnc25 := NB330_335.out
            have hcz26_0 : w13.cell? ⟨gb335, 0, none⟩ = some (.float .f32 0) := (blk_cell BK335.out 0).trans rfl
            have hcz26_1 : w13.cell? ⟨gb335, 1, none⟩ = some (.float .f32 0) := (blk_cell BK335.out 1).trans rfl
            have hfz26_0 := blk_frozen BK335.out 0
            have hfz26_1 := blk_frozen BK335.out 1
            have hcz27_0 : w13.cell? ⟨gb330, 0, none⟩ = some (.float .f32 b_t328) := (blk_cell BK330.out 0).trans rfl
            have hcz27_1 : w13.cell? ⟨gb330, 1, none⟩ = some (.float .f32 b_t329) := (blk_cell BK330.out 1).trans rfl
            have hfz27_0 := blk_frozen BK330.out 0
            have hfz27_1 := blk_frozen BK330.out 1
            go_wp2
            go_meet
            case rel => exact ⟨_, (false), (by first | rfl | (simp; done) | (simp [*]; done)), H', ⟨by first | omega | exact Nat.le_refl _⟩, ⟨by (with_reducible repeat (first | refine blk_drewN ?_ _ | refine blk_drew ?_ | refine blk_alloc ?_ _)); refine blk_far ?_ NB330_335.out _; (with_reducible repeat (first | refine blk_drewN ?_ _ | refine blk_drew ?_ | refine blk_alloc ?_ _)); refine blk_far ?_ NB330_335.out _; (with_reducible repeat (first | refine blk_drewN ?_ _ | refine blk_drew ?_ | refine blk_alloc ?_ _)); exact BK330.out⟩, ⟨by (with_reducible repeat (first | refine blk_drewN ?_ _ | refine blk_drew ?_ | refine blk_alloc ?_ _)); refine blk_put (cs := #[.float .f32 b_t333, .float .f32 0]) ?_ 1 _ rfl; (with_reducible repeat (first | refine blk_drewN ?_ _ | refine blk_drew ?_ | refine blk_alloc ?_ _)); refine blk_put (cs := #[.float .f32 0, .float .f32 0]) ?_ 0 _ rfl; (with_reducible repeat (first | refine blk_drewN ?_ _ | refine blk_drew ?_ | refine blk_alloc ?_ _)); exact BK335.out⟩, ⟨by repeat (first | (with_reducible first | exact HB.out | apply below_alloc | apply pw_below_drewN | apply below_drew1 | refine below_set ?_ GE335.out) | exact HB.out)⟩⟩
      · rw [if_neg c16] at H
        have c16b0 : (fcmp .neq .f32 t333 t328) = false := by simpa using c16
        clear c16
        (first | rw [c16b0] | (simp only [i64_w, i32_w]; rw [c16b0]) | skip)
        by_cases c28 : (fcmp .neq .f32 t334 t329) = true
        · rw [if_pos c28] at H
          have c28b0 : (fcmp .neq .f32 t334 t329) = true := c28
          clear c28
          have H' := Aside0.mk H
          clear H
          have hnb29 := NB335_330.out
          have hnc29 := NB330_335.out
          have hcz30_0 : w13.cell? ⟨gb335, 0, none⟩ = some (.float .f32 0) := (blk_cell BK335.out 0).trans rfl
          have hcz30_1 : w13.cell? ⟨gb335, 1, none⟩ = some (.float .f32 0) := (blk_cell BK335.out 1).trans rfl
          have hfz30_0 := blk_frozen BK335.out 0
          have hfz30_1 := blk_frozen BK335.out 1
          have hcz31_0 : w13.cell? ⟨gb330, 0, none⟩ = some (.float .f32 b_t328) := (blk_cell BK330.out 0).trans rfl
          have hcz31_1 : w13.cell? ⟨gb330, 1, none⟩ = some (.float .f32 b_t329) := (blk_cell BK330.out 1).trans rfl
          have hfz31_0 := blk_frozen BK330.out 0
          have hfz31_1 := blk_frozen BK330.out 1
          go_wp2
          go_meet
          case rel => exact ⟨_, ((fcmp .eql .f32 t329 t329)), (by first | rfl | (simp; done) | (simp [*]; done)), H', ⟨by first | omega | exact Nat.le_refl _⟩, ⟨by (with_reducible repeat (first | refine blk_drewN ?_ _ | refine blk_drew ?_ | refine blk_alloc ?_ _)); refine blk_far ?_ NB330_335.out _; (with_reducible repeat (first | refine blk_drewN ?_ _ | refine blk_drew ?_ | refine blk_alloc ?_ _)); refine blk_far ?_ NB330_335.out _; (with_reducible repeat (first | refine blk_drewN ?_ _ | refine blk_drew ?_ | refine blk_alloc ?_ _)); exact BK330.out⟩, ⟨by (with_reducible repeat (first | refine blk_drewN ?_ _ | refine blk_drew ?_ | refine blk_alloc ?_ _)); refine blk_put (cs := #[.float .f32 b_t333, .float .f32 0]) ?_ 1 _ rfl; (with_reducible repeat (first | refine blk_drewN ?_ _ | refine blk_drew ?_ | refine blk_alloc ?_ _)); refine blk_put (cs := #[.float .f32 0, .float .f32 0]) ?_ 0 _ rfl; (with_reducible repeat (first | refine blk_drewN ?_ _ | refine blk_drew ?_ | refine blk_alloc ?_ _)); exact BK335.out⟩, ⟨by repeat (first | (with_reducible first | exact HB.out | apply below_alloc | apply pw_below_drewN | apply below_drew1 | refine below_set ?_ GE335.out) | exact HB.out)⟩⟩
        · rw [if_neg c28] at H
          have c28b0 : (fcmp .neq .f32 t334 t329) = false := by simpa using c28
          clear c28
          have H' := Aside0.mk H
          clear H
          have hnb32 := NB335_330.out
          have hnc32 := NB330_335.out
          have hcz33_0 : w13.cell? ⟨gb335, 0, none⟩ = some (.float .f32 0) := (blk_cell BK335.out 0).trans rfl
          have hcz33_1 : w13.cell? ⟨gb335, 1, none⟩ = some (.float .f32 0) := (blk_cell BK335.out 1).trans rfl
          have hfz33_0 := blk_frozen BK335.out 0
          have hfz33_1 := blk_frozen BK335.out 1
          have hcz34_0 : w13.cell? ⟨gb330, 0, none⟩ = some (.float .f32 b_t328) := (blk_cell BK330.out 0).trans rfl
          have hcz34_1 : w13.cell? ⟨gb330, 1, none⟩ = some (.float .f32 b_t329) := (blk_cell BK330.out 1).trans rfl
          have hfz34_0 := blk_frozen BK330.out 0
          have hfz34_1 := blk_frozen BK330.out 1
          go_wp2
          go_meet
          case rel => exact ⟨_, (false), (by first | rfl | (simp; done) | (simp [*]; done)), H', ⟨by first | omega | exact Nat.le_refl _⟩, ⟨by (with_reducible repeat (first | refine blk_drewN ?_ _ | refine blk_drew ?_ | refine blk_alloc ?_ _)); refine blk_far ?_ NB330_335.out _; (with_reducible repeat (first | refine blk_drewN ?_ _ | refine blk_drew ?_ | refine blk_alloc ?_ _)); refine blk_far ?_ NB330_335.out _; (with_reducible repeat (first | refine blk_drewN ?_ _ | refine blk_drew ?_ | refine blk_alloc ?_ _)); exact BK330.out⟩, ⟨by (with_reducible repeat (first | refine blk_drewN ?_ _ | refine blk_drew ?_ | refine blk_alloc ?_ _)); refine blk_put (cs := #[.float .f32 b_t333, .float .f32 0]) ?_ 1 _ rfl; (with_reducible repeat (first | refine blk_drewN ?_ _ | refine blk_drew ?_ | refine blk_alloc ?_ _)); refine blk_put (cs := #[.float .f32 0, .float .f32 0]) ?_ 0 _ rfl; (with_reducible repeat (first | refine blk_drewN ?_ _ | refine blk_drew ?_ | refine blk_alloc ?_ _)); exact BK335.out⟩, ⟨by repeat (first | (with_reducible first | exact HB.out | apply below_alloc | apply pw_below_drewN | apply below_drew1 | refine below_set ?_ GE335.out) | exact HB.out)⟩⟩
    case rest =>
      clear HC7
      try clear c1
      try clear c2
      try clear p2
      try clear c3
      try clear c4
      try clear c5
      try clear c12
      try clear c14
      try clear c16
      try clear c16b0
      try clear c17
      try clear c17b0
      try clear c18
      try clear c21
      try clear c21b0
      try clear c22
      try clear c25
      try clear c28
      try clear c28b0
      try clear c29
      try clear c32
      try clear hcz10_0
      try clear hcz10_1
      try clear hcz15_0
      try clear hcz15_1
      try clear hcz19_0
      try clear hcz19_1
      try clear hcz20_0
      try clear hcz20_1
      try clear hcz23_0
      try clear hcz23_1
      try clear hcz24_0
      try clear hcz24_1
      try clear hcz26_0
      try clear hcz26_1
      try clear hcz27_0
      try clear hcz27_1
      try clear hcz30_0
      try clear hcz30_1
      try clear hcz31_0
      try clear hcz31_1
      try clear hcz33_0
      try clear hcz33_1
      try clear hcz34_0
      try clear hcz34_1
      try clear hfz10_0
      try clear hfz10_1
      try clear hfz15_0
      try clear hfz15_1
      try clear hfz19_0
      try clear hfz19_1
      try clear hfz20_0
      try clear hfz20_1
      try clear hfz23_0
      try clear hfz23_1
      try clear hfz24_0
      try clear hfz24_1
      try clear hfz26_0
      try clear hfz26_1
      try clear hfz27_0
      try clear hfz27_1
      try clear hfz30_0
      try clear hfz30_1
      try clear hfz31_0
      try clear hfz31_1
      try clear hfz33_0
      try clear hfz33_1
      try clear hfz34_0
      try clear hfz34_1
      obtain ⟨kq, x53_6, rfl, HA, HJ6, BK330, BK335, HB⟩ := hcut
      cases kq with
      | zero => exact absurd HA.out (by simp [laws_FnSizes.j0])
      | succ kj6 =>
        have H := HA.out
        clear HA
        simp only [laws_FnSizes.j0] at H
        by_cases c35 : x53_6 = true
        · subst c35
          have H1 : (some false) = some r := by rw [if_pos rfl] at H; exact H
          clear H
          have H := H1
          clear H1
          obtain rfl := Option.some.inj H
          go_wp2
          go_ret
          exact ⟨by first | rfl | (simp [errW_none, errW_some] <;> rfl) | (simp [*, errW_none, errW_some] <;> rfl), by repeat (first | (with_reducible first | exact HB.out | apply below_alloc | apply pw_below_drewN | apply below_drew1) | exact HB.out)⟩
        · replace c35 := Bool.eq_false_iff.mpr c35
          subst c35
          have H1 : ((spec_DrawCxTimes.f kj6 l0).bind fun bt336 => ((impl_CxTimes.f bt336.1 bt336.2.1 bt336.2.2.1 bt336.2.2.2).bind fun bt342 => ((impl_CxTimes.f bt336.2.2.1 bt336.2.2.2 bt336.1 bt336.2.1).bind fun bt344 => ((impl_CxAdd.f bt336.1 bt336.2.1 bt336.2.2.1 bt336.2.2.2).bind fun bt348 => ((impl_CxAdd.f bt336.2.2.1 bt336.2.2.2 bt336.1 bt336.2.1).bind fun bt350 => ((laws_sameBits.f bt342.1 bt344.1).bind fun t354 => (if t354 = true then ((laws_sameBits.f bt342.2 bt344.2).bind fun t355 => (if t355 = true then ((laws_sameBits.f bt348.1 bt350.1).bind fun t356 => (if t356 = true then ((laws_sameBits.f bt348.2 bt350.2).bind fun t357 => (laws_FnSizes.j1 kj6 l0 (!t357))) else (laws_FnSizes.j1 kj6 l0 true))) else (laws_FnSizes.j1 kj6 l0 true))) else (laws_FnSizes.j1 kj6 l0 true)))))))) = some r := by rw [if_neg (show ¬ (false = true) by decide)] at H; exact H
          clear H
          have H := H1
          clear H1
          replace H := Option.bind_eq_some_iff.mp H
          obtain ⟨⟨t336, t337, t338, t339⟩, A360, H⟩ := H
          replace H : ((impl_CxTimes.f t336 t337 t338 t339).bind fun bt342 => ((impl_CxTimes.f t338 t339 t336 t337).bind fun bt344 => ((impl_CxAdd.f t336 t337 t338 t339).bind fun bt348 => ((impl_CxAdd.f t338 t339 t336 t337).bind fun bt350 => ((laws_sameBits.f bt342.1 bt344.1).bind fun t354 => (if t354 = true then ((laws_sameBits.f bt342.2 bt344.2).bind fun t355 => (if t355 = true then ((laws_sameBits.f bt348.1 bt350.1).bind fun t356 => (if t356 = true then ((laws_sameBits.f bt348.2 bt350.2).bind fun t357 => (laws_FnSizes.j1 kj6 l0 (!t357))) else (laws_FnSizes.j1 kj6 l0 true))) else (laws_FnSizes.j1 kj6 l0 true))) else (laws_FnSizes.j1 kj6 l0 true))))))) = some r := H
          have A36 := Aside0.mk A360
          clear A360
          replace H := Option.bind_eq_some_iff.mp H
          obtain ⟨⟨t342, t343⟩, A370, H⟩ := H
          replace H : ((impl_CxTimes.f t338 t339 t336 t337).bind fun bt344 => ((impl_CxAdd.f t336 t337 t338 t339).bind fun bt348 => ((impl_CxAdd.f t338 t339 t336 t337).bind fun bt350 => ((laws_sameBits.f t342 bt344.1).bind fun t354 => (if t354 = true then ((laws_sameBits.f t343 bt344.2).bind fun t355 => (if t355 = true then ((laws_sameBits.f bt348.1 bt350.1).bind fun t356 => (if t356 = true then ((laws_sameBits.f bt348.2 bt350.2).bind fun t357 => (laws_FnSizes.j1 kj6 l0 (!t357))) else (laws_FnSizes.j1 kj6 l0 true))) else (laws_FnSizes.j1 kj6 l0 true))) else (laws_FnSizes.j1 kj6 l0 true)))))) = some r := H
          have A37 := Aside0.mk A370
          clear A370
          replace H := Option.bind_eq_some_iff.mp H
          obtain ⟨⟨t344, t345⟩, A380, H⟩ := H
          replace H : ((impl_CxAdd.f t336 t337 t338 t339).bind fun bt348 => ((impl_CxAdd.f t338 t339 t336 t337).bind fun bt350 => ((laws_sameBits.f t342 t344).bind fun t354 => (if t354 = true then ((laws_sameBits.f t343 t345).bind fun t355 => (if t355 = true then ((laws_sameBits.f bt348.1 bt350.1).bind fun t356 => (if t356 = true then ((laws_sameBits.f bt348.2 bt350.2).bind fun t357 => (laws_FnSizes.j1 kj6 l0 (!t357))) else (laws_FnSizes.j1 kj6 l0 true))) else (laws_FnSizes.j1 kj6 l0 true))) else (laws_FnSizes.j1 kj6 l0 true))))) = some r := H
          have A38 := Aside0.mk A380
          clear A380
          replace H := Option.bind_eq_some_iff.mp H
          obtain ⟨⟨t348, t349⟩, A390, H⟩ := H
          replace H : ((impl_CxAdd.f t338 t339 t336 t337).bind fun bt350 => ((laws_sameBits.f t342 t344).bind fun t354 => (if t354 = true then ((laws_sameBits.f t343 t345).bind fun t355 => (if t355 = true then ((laws_sameBits.f t348 bt350.1).bind fun t356 => (if t356 = true then ((laws_sameBits.f t349 bt350.2).bind fun t357 => (laws_FnSizes.j1 kj6 l0 (!t357))) else (laws_FnSizes.j1 kj6 l0 true))) else (laws_FnSizes.j1 kj6 l0 true))) else (laws_FnSizes.j1 kj6 l0 true)))) = some r := H
          have A39 := Aside0.mk A390
          clear A390
          replace H := Option.bind_eq_some_iff.mp H
          obtain ⟨⟨t350, t351⟩, A400, H⟩ := H
          replace H : ((laws_sameBits.f t342 t344).bind fun t354 => (if t354 = true then ((laws_sameBits.f t343 t345).bind fun t355 => (if t355 = true then ((laws_sameBits.f t348 t350).bind fun t356 => (if t356 = true then ((laws_sameBits.f t349 t351).bind fun t357 => (laws_FnSizes.j1 kj6 l0 (!t357))) else (laws_FnSizes.j1 kj6 l0 true))) else (laws_FnSizes.j1 kj6 l0 true))) else (laws_FnSizes.j1 kj6 l0 true))) = some r := H
          have A40 := Aside0.mk A400
          clear A400
          have HC41 := Aside0.mk H
          clear H
          try go_wp2_with (first | ((with_reducible refine gate_callee (f := 59) rfl ?_); refine goesL_ (some 56) rfl rfl Try.func59 (by kernel_rfl) rfl #[.slice A0 l0.length c0] rfl (by (try simp only [List.map_toArray, List.map_cons, List.map_nil]); first | done | rfl | (simp only [List.length_drop, List.length_take]; rfl)) ?_; (with_reducible refine (spec_DrawCxTimes.calls kj6 _ _ l0 t336 t337 t338 t339 _ ?side1 ?side2 A36.out).mono ?_); (case side1 => repeat (first | exact (Kd.C_below HR0.out HB.out) | (with_reducible refine Kd.C_alloc ?_ _) | (with_reducible refine Kd.C_drewN ?_ _) | (with_reducible refine Kd.C_drew ?_))); (case side2 => exact HC0.out); rintro e w42 ⟨b_t336, b_t337, b_t338, b_t339, rfl, hF_t336, hF_t337, hF_t338, hF_t339, hb⟩; refine ⟨_, rfl, ?_⟩; have n0_ := Aside0.mk (below_step (by exact HB.out) hb); clear HB; have HB := n0_; clear n0_; (try clear hb); (try clear hb2); (try clear hk); (try clear hi)) | ((with_reducible refine gate_dst (N := 5) rfl ?_); (try (refine gate_guard (by rfl) ?_; dsimp only)); refine box_event ?hg (N := 5) ?hd (cs := #[.float .f64 0, .float .f64 0]) (t := 34) ?hr ?_; (case hd => rfl); (case hg => rfl); (case hr => first | (go_simp; done) | (go_simp; rfl)); intro gb340 hg w43 hbox hb; have n0_ := Aside0.mk (below_step (by exact HB.out) hb); have n1_ := Aside0.mk (hbox); have n2_ := Aside0.mk ((by rw [hg]; exact (below_size (by exact HB.out)) : w.heap.size ≤ gb340)); have n3_ := Aside0.mk ((n2_.out)); clear HB; have HB := n0_; have BK340 := n1_; have GW340 := n2_; have GE340 := n3_; clear n0_ n1_ n2_ n3_; clear hb hbox hg) | ((with_reducible refine gate_dst (N := 6) rfl ?_); (try (refine gate_guard (by rfl) ?_; dsimp only)); refine box_event ?hg (N := 6) ?hd (cs := #[.float .f64 0, .float .f64 0]) (t := 34) ?hr ?_; (case hd => rfl); (case hg => rfl); (case hr => first | (go_simp; done) | (go_simp; rfl)); intro gb341 hg w44 hbox hb; have n0_ := Aside0.mk (blk_below (g := gb340) (o := .cells #[.float .f64 0, .float .f64 0] 34 (0, 0)) (by exact BK340.out) hb); have n1_ := Aside0.mk (below_step (by exact HB.out) hb); have n2_ := Aside0.mk (hbox); have n3_ := Aside0.mk ((by rw [hg]; exact (below_size (by exact HB.out)) : w.heap.size ≤ gb341)); have n4_ := Aside0.mk ((n3_.out)); have n5_ := Aside0.mk ((by rw [hg]; exact Nat.ne_of_lt (blk_lt (g := gb340) (o := .cells #[.float .f64 0, .float .f64 0] 34 (0, 0)) (by exact BK340.out)) : gb340 ≠ gb341)); have n6_ := Aside0.mk ((n5_.out.symm)); clear BK340; clear HB; have BK340 := n0_; have HB := n1_; have BK341 := n2_; have GW341 := n3_; have GE341 := n4_; have NB340_341 := n5_; have NB341_340 := n6_; clear n0_ n1_ n2_ n3_ n4_ n5_ n6_; clear hb hbox hg; have hnb45 := NB340_341.out; have hnc45 := NB341_340.out; have hcz46_0 : w44.cell? ⟨gb340, 0, none⟩ = some (.float .f64 0) := (blk_cell BK340.out 0).trans rfl; have hcz46_1 : w44.cell? ⟨gb340, 1, none⟩ = some (.float .f64 0) := (blk_cell BK340.out 1).trans rfl; have hfz46_0 := blk_frozen BK340.out 0; have hfz46_1 := blk_frozen BK340.out 1; have hcz47_0 : w44.cell? ⟨gb341, 0, none⟩ = some (.float .f64 0) := (blk_cell BK341.out 0).trans rfl; have hcz47_1 : w44.cell? ⟨gb341, 1, none⟩ = some (.float .f64 0) := (blk_cell BK341.out 1).trans rfl; have hfz47_0 := blk_frozen BK341.out 0; have hfz47_1 := blk_frozen BK341.out 1))
          have n0_ : Aside0 (((((w44.setCell ⟨gb340, 0, none⟩ (.float .f64 b_t336)).setCell ⟨gb340, 1, none⟩ (.float .f64 b_t337)).setCell ⟨gb341, 0, none⟩ (.float .f64 b_t338)).setCell ⟨gb341, 1, none⟩ (.float .f64 b_t339)).heap[gb340]? = some (.cells #[.float .f64 b_t336, .float .f64 b_t337] 34 (0, 0))) := ⟨by (with_reducible repeat (first | refine blk_drewN ?_ _ | refine blk_drew ?_ | refine blk_alloc ?_ _)); refine blk_far ?_ NB340_341.out _; (with_reducible repeat (first | refine blk_drewN ?_ _ | refine blk_drew ?_ | refine blk_alloc ?_ _)); refine blk_far ?_ NB340_341.out _; (with_reducible repeat (first | refine blk_drewN ?_ _ | refine blk_drew ?_ | refine blk_alloc ?_ _)); refine blk_put (cs := #[.float .f64 b_t336, .float .f64 0]) ?_ 1 _ rfl; (with_reducible repeat (first | refine blk_drewN ?_ _ | refine blk_drew ?_ | refine blk_alloc ?_ _)); refine blk_put (cs := #[.float .f64 0, .float .f64 0]) ?_ 0 _ rfl; (with_reducible repeat (first | refine blk_drewN ?_ _ | refine blk_drew ?_ | refine blk_alloc ?_ _)); exact BK340.out⟩
          have n1_ : Aside0 (((((w44.setCell ⟨gb340, 0, none⟩ (.float .f64 b_t336)).setCell ⟨gb340, 1, none⟩ (.float .f64 b_t337)).setCell ⟨gb341, 0, none⟩ (.float .f64 b_t338)).setCell ⟨gb341, 1, none⟩ (.float .f64 b_t339)).heap[gb341]? = some (.cells #[.float .f64 b_t338, .float .f64 b_t339] 34 (0, 0))) := ⟨by (with_reducible repeat (first | refine blk_drewN ?_ _ | refine blk_drew ?_ | refine blk_alloc ?_ _)); refine blk_put (cs := #[.float .f64 b_t338, .float .f64 0]) ?_ 1 _ rfl; (with_reducible repeat (first | refine blk_drewN ?_ _ | refine blk_drew ?_ | refine blk_alloc ?_ _)); refine blk_put (cs := #[.float .f64 0, .float .f64 0]) ?_ 0 _ rfl; (with_reducible repeat (first | refine blk_drewN ?_ _ | refine blk_drew ?_ | refine blk_alloc ?_ _)); refine blk_far ?_ NB341_340.out _; (with_reducible repeat (first | refine blk_drewN ?_ _ | refine blk_drew ?_ | refine blk_alloc ?_ _)); refine blk_far ?_ NB341_340.out _; (with_reducible repeat (first | refine blk_drewN ?_ _ | refine blk_drew ?_ | refine blk_alloc ?_ _)); exact BK341.out⟩
          have n2_ : Aside0 (Below w.heap.size w ((((w44.setCell ⟨gb340, 0, none⟩ (.float .f64 b_t336)).setCell ⟨gb340, 1, none⟩ (.float .f64 b_t337)).setCell ⟨gb341, 0, none⟩ (.float .f64 b_t338)).setCell ⟨gb341, 1, none⟩ (.float .f64 b_t339))) := ⟨by repeat (first | (with_reducible first | exact HB.out | apply below_alloc | apply pw_below_drewN | apply below_drew1 | refine below_set ?_ GE340.out | refine below_set ?_ GE341.out) | exact HB.out)⟩
          (try clear BK340)
          (try clear BK341)
          (try clear HB)
          generalize ((((w44.setCell ⟨gb340, 0, none⟩ (.float .f64 b_t336)).setCell ⟨gb340, 1, none⟩ (.float .f64 b_t337)).setCell ⟨gb341, 0, none⟩ (.float .f64 b_t338)).setCell ⟨gb341, 1, none⟩ (.float .f64 b_t339)) = w48 at n0_ n1_ n2_ ⊢
          have BK340 := n0_
          have BK341 := n1_
          have HB := n2_
          clear n0_ n1_ n2_
          have n0_ := Aside0.mk (blk_drew BK340.out)
          have n1_ := Aside0.mk (blk_drew BK341.out)
          have n2_ := Aside0.mk (below_drew1 HB.out)
          clear BK340
          clear BK341
          clear HB
          have BK340 := n0_
          have BK341 := n1_
          have HB := n2_
          clear n0_ n1_ n2_
          refine start_ (n := 10) (S := fun w' => True) (ds := []) #[false, false, false, false, false, false, false, false, false, false] (by kernel_rfl) rfl rfl trivial (fun hHeld => ?_); refine with_tabW laws_FnSizes.tab8 laws_FnSizes.bits8 (fun HT_ HW_ => ?_)
          generalize w48.drew = w49 at BK340 BK341 HB hHeld ⊢
          refine inv_at [0, 1, 2, 3, 4, 5, 6, 7, 8, 9] (fun a0_ b a w' => ∃ (b_t342 : Nat) (b_t343 : Nat) (b_t344 : Nat) (b_t345 : Nat) (gb346 : Nat) (gb347 : Nat) (m2_ : Value) (m5_ : Value) (m6_ : Value) (m7_ : Value), a = putSel a0_ b [(0, 59, .agg #[.float .f64 b_t336, .float .f64 b_t337]), (1, 60, .agg #[.float .f64 b_t338, .float .f64 b_t339]), (2, 61, m2_), (3, 62, .agg #[.float .f64 b_t338, .float .f64 b_t339]), (4, 63, .agg #[.float .f64 b_t336, .float .f64 b_t337]), (5, 64, m5_), (6, 7, m6_), (7, 8, m7_)] ∧ (w'.heap[gb340]? = some (.cells #[.float .f64 b_t336, .float .f64 b_t337] 34 (0, 0))) ∧ (w'.heap[gb341]? = some (.cells #[.float .f64 b_t338, .float .f64 b_t339] 34 (0, 0))) ∧ (Below w.heap.size w w') ∧ (b 6 = true → b 7 = true → gb347 ≠ gb346) ∧ (b 6 = true → b 7 = true → gb346 ≠ gb347) ∧ (b 2 = true → cn .f64 b_t342 = t342) ∧ (b 2 = true → cn .f64 b_t343 = t343) ∧ (b 5 = true → cn .f64 b_t344 = t344) ∧ (b 5 = true → cn .f64 b_t345 = t345) ∧ (b 6 = true → b 8 = false → w'.heap[gb346]? = some (.cells #[.float .f64 0, .float .f64 0] 34 (0, 0))) ∧ (b 6 = true → w.heap.size ≤ gb346) ∧ (b 6 = true → w.heap.size ≤ gb346) ∧ (b 6 = true → gb340 ≠ gb346) ∧ (b 6 = true → gb346 ≠ gb340) ∧ (b 6 = true → gb341 ≠ gb346) ∧ (b 6 = true → gb346 ≠ gb341) ∧ (b 7 = true → b 9 = false → w'.heap[gb347]? = some (.cells #[.float .f64 0, .float .f64 0] 34 (0, 0))) ∧ (b 7 = true → w.heap.size ≤ gb347) ∧ (b 7 = true → w.heap.size ≤ gb347) ∧ (b 7 = true → gb340 ≠ gb347) ∧ (b 7 = true → gb347 ≠ gb340) ∧ (b 7 = true → gb341 ≠ gb347) ∧ (b 7 = true → gb347 ≠ gb341) ∧ (b 8 = true → w'.heap[gb346]? = some (.cells #[.float .f64 b_t342, .float .f64 b_t343] 34 (0, 0))) ∧ (b 9 = true → w'.heap[gb347]? = some (.cells #[.float .f64 b_t344, .float .f64 b_t345] 34 (0, 0))) ∧ (b 2 = true → (m2_ : Value) = .agg #[.float .f64 b_t342, .float .f64 b_t343]) ∧ (b 5 = true → (m5_ : Value) = .agg #[.float .f64 b_t344, .float .f64 b_t345]) ∧ (b 6 = true → (m6_ : Value) = .pointer (some ⟨gb346, 0, none⟩)) ∧ (b 7 = true → (m7_ : Value) = .pointer (some ⟨gb347, 0, none⟩))) HT_.out HW_.out (by kernel_rfl) (by kernel_rfl) ?_ ?_ ?_
          · exact ⟨0, 0, 0, 0, 0, 0, .bool false, .bool false, .bool false, .bool false, by simp only [putSel, Bool.false_eq_true, if_false], BK340.out, BK341.out, HB.out, fun h_ => absurd h_ (by decide), fun h_ => absurd h_ (by decide), fun h_ => absurd h_ (by decide), fun h_ => absurd h_ (by decide), fun h_ => absurd h_ (by decide), fun h_ => absurd h_ (by decide), fun h_ => absurd h_ (by decide), fun h_ => absurd h_ (by decide), fun h_ => absurd h_ (by decide), fun h_ => absurd h_ (by decide), fun h_ => absurd h_ (by decide), fun h_ => absurd h_ (by decide), fun h_ => absurd h_ (by decide), fun h_ => absurd h_ (by decide), fun h_ => absurd h_ (by decide), fun h_ => absurd h_ (by decide), fun h_ => absurd h_ (by decide), fun h_ => absurd h_ (by decide), fun h_ => absurd h_ (by decide), fun h_ => absurd h_ (by decide), fun h_ => absurd h_ (by decide), fun h_ => absurd h_ (by decide), fun h_ => absurd h_ (by decide), fun h_ => absurd h_ (by decide), fun h_ => absurd h_ (by decide), fun h_ => absurd h_ (by decide)⟩
          · skip
            clear BK340 BK341 HB
            refine steps_cons ?_ ?_
            · rintro b a w' ⟨b_t342, b_t343, b_t344, b_t345, gb346, gb347, m2_, m5_, m6_, m7_, ha, Q_BK340, Q_BK341, Q_HB, Q_NB347_346, Q_NB346_347, Q_HF_t342, Q_HF_t343, Q_HF_t344, Q_HF_t345, Q_BK346, Q_GW346, Q_GE346, Q_NB340_346, Q_NB346_340, Q_NB341_346, Q_NB346_341, Q_BK347, Q_GW347, Q_GE347, Q_NB340_347, Q_NB347_340, Q_NB341_347, Q_NB347_341, Q_BK346_e8, Q_BK347_e9, Q_X2_, Q_X5_, Q_X6_, Q_X7_⟩ hb_ hon hoff
              refine ⟨_, rfl, fun K hK => ?_⟩
              have e5 : a.tmps[5]? = some (.pointer (some ⟨gb340, 0, none⟩)) := by rw [ha]; exact (putSel_off rfl).trans rfl
              replace ha := Aside0.mk ha
              have BK340 := Aside0.mk Q_BK340
              have BK341 := Aside0.mk Q_BK341
              have HB := Aside0.mk Q_HB
              have hc0_ : w'.cell? ⟨gb340, 0, none⟩ = some (.float .f64 b_t336) := (blk_cell BK340.out 0).trans rfl
              have hc1_ : w'.cell? ⟨gb340, 1, none⟩ = some (.float .f64 b_t337) := (blk_cell BK340.out 1).trans rfl
              refine value_ (w1 := w') (v := .agg #[.float .f64 b_t336, .float .f64 b_t337]) (by rfl) rfl ?_ ?_
              · go_simp
                (try simp only [i64_w])
                try rfl
              refine hK.out _ _ ⟨b_t342, b_t343, b_t344, b_t345, gb346, gb347, m2_, m5_, m6_, m7_, (by rw [ha.out]; exact putSel_upk 0 hb_ rfl rfl rfl), Q_BK340, Q_BK341, Q_HB, Q_NB347_346, Q_NB346_347, fun h0_ => absurd ((hoff 2 (by kernel_rfl)).symm.trans h0_) (by decide), fun h0_ => absurd ((hoff 2 (by kernel_rfl)).symm.trans h0_) (by decide), fun h0_ => absurd ((hoff 5 (by kernel_rfl)).symm.trans h0_) (by decide), fun h0_ => absurd ((hoff 5 (by kernel_rfl)).symm.trans h0_) (by decide), Q_BK346, Q_GW346, Q_GE346, Q_NB340_346, Q_NB346_340, Q_NB341_346, Q_NB346_341, Q_BK347, Q_GW347, Q_GE347, Q_NB340_347, Q_NB347_340, Q_NB341_347, Q_NB347_341, fun h0_ => absurd ((hoff 8 (by kernel_rfl)).symm.trans h0_) (by decide), fun h0_ => absurd ((hoff 9 (by kernel_rfl)).symm.trans h0_) (by decide), fun h0_ => absurd ((hoff 2 (by kernel_rfl)).symm.trans h0_) (by decide), fun h0_ => absurd ((hoff 5 (by kernel_rfl)).symm.trans h0_) (by decide), Q_X6_, Q_X7_⟩
            refine steps_cons ?_ ?_
            · rintro b a w' ⟨b_t342, b_t343, b_t344, b_t345, gb346, gb347, m2_, m5_, m6_, m7_, ha, Q_BK340, Q_BK341, Q_HB, Q_NB347_346, Q_NB346_347, Q_HF_t342, Q_HF_t343, Q_HF_t344, Q_HF_t345, Q_BK346, Q_GW346, Q_GE346, Q_NB340_346, Q_NB346_340, Q_NB341_346, Q_NB346_341, Q_BK347, Q_GW347, Q_GE347, Q_NB340_347, Q_NB347_340, Q_NB341_347, Q_NB347_341, Q_BK346_e8, Q_BK347_e9, Q_X2_, Q_X5_, Q_X6_, Q_X7_⟩ hb_ hon hoff
              refine ⟨_, rfl, fun K hK => ?_⟩
              have e6 : a.tmps[6]? = some (.pointer (some ⟨gb341, 0, none⟩)) := by rw [ha]; exact (putSel_off rfl).trans rfl
              replace ha := Aside0.mk ha
              have BK340 := Aside0.mk Q_BK340
              have BK341 := Aside0.mk Q_BK341
              have HB := Aside0.mk Q_HB
              have hc0_ : w'.cell? ⟨gb341, 0, none⟩ = some (.float .f64 b_t338) := (blk_cell BK341.out 0).trans rfl
              have hc1_ : w'.cell? ⟨gb341, 1, none⟩ = some (.float .f64 b_t339) := (blk_cell BK341.out 1).trans rfl
              refine value_ (w1 := w') (v := .agg #[.float .f64 b_t338, .float .f64 b_t339]) (by rfl) rfl ?_ ?_
              · go_simp
                (try simp only [i64_w])
                try rfl
              refine hK.out _ _ ⟨b_t342, b_t343, b_t344, b_t345, gb346, gb347, m2_, m5_, m6_, m7_, (by rw [ha.out]; exact putSel_upk 1 hb_ rfl rfl rfl), Q_BK340, Q_BK341, Q_HB, Q_NB347_346, Q_NB346_347, fun h0_ => absurd ((hoff 2 (by kernel_rfl)).symm.trans h0_) (by decide), fun h0_ => absurd ((hoff 2 (by kernel_rfl)).symm.trans h0_) (by decide), fun h0_ => absurd ((hoff 5 (by kernel_rfl)).symm.trans h0_) (by decide), fun h0_ => absurd ((hoff 5 (by kernel_rfl)).symm.trans h0_) (by decide), Q_BK346, Q_GW346, Q_GE346, Q_NB340_346, Q_NB346_340, Q_NB341_346, Q_NB346_341, Q_BK347, Q_GW347, Q_GE347, Q_NB340_347, Q_NB347_340, Q_NB341_347, Q_NB347_341, fun h0_ => absurd ((hoff 8 (by kernel_rfl)).symm.trans h0_) (by decide), fun h0_ => absurd ((hoff 9 (by kernel_rfl)).symm.trans h0_) (by decide), fun h0_ => absurd ((hoff 2 (by kernel_rfl)).symm.trans h0_) (by decide), fun h0_ => absurd ((hoff 5 (by kernel_rfl)).symm.trans h0_) (by decide), Q_X6_, Q_X7_⟩
            refine steps_cons ?_ ?_
            · rintro b a w' ⟨b_t342, b_t343, b_t344, b_t345, gb346, gb347, m2_, m5_, m6_, m7_, ha, Q_BK340, Q_BK341, Q_HB, Q_NB347_346, Q_NB346_347, Q_HF_t342, Q_HF_t343, Q_HF_t344, Q_HF_t345, Q_BK346, Q_GW346, Q_GE346, Q_NB340_346, Q_NB346_340, Q_NB341_346, Q_NB346_341, Q_BK347, Q_GW347, Q_GE347, Q_NB340_347, Q_NB347_340, Q_NB341_347, Q_NB347_341, Q_BK346_e8, Q_BK347_e9, Q_X2_, Q_X5_, Q_X6_, Q_X7_⟩ hb_ hon hoff
              refine ⟨_, rfl, fun K hK => ?_⟩
              have e59 : a.tmps[59]? = some (.agg #[.float .f64 b_t336, .float .f64 b_t337]) := by rw [ha]; exact putSel_on (e := (0, 59, .agg #[.float .f64 b_t336, .float .f64 b_t337])) 0 rfl rfl (hon 0 (by kernel_rfl)) rfl
              have e60 : a.tmps[60]? = some (.agg #[.float .f64 b_t338, .float .f64 b_t339]) := by rw [ha]; exact putSel_on (e := (1, 60, .agg #[.float .f64 b_t338, .float .f64 b_t339])) 1 rfl rfl (hon 1 (by kernel_rfl)) rfl
              replace ha := Aside0.mk ha
              have BK340 := Aside0.mk Q_BK340
              have BK341 := Aside0.mk Q_BK341
              have HB := Aside0.mk Q_HB
              refine goes_ Try.func51 (by kernel_rfl) rfl #[.agg #[.float .f64 b_t336, .float .f64 b_t337], .agg #[.float .f64 b_t338, .float .f64 b_t339]] (by rfl) rfl rfl (by first | (simp only [List.map_toArray, List.map_cons, List.map_nil, Act.eval, Array.getD_eq_getD_getElem?, Option.getD_some, e59, e60]; done) | (simp only [List.map_toArray, List.map_cons, List.map_nil, Act.eval, Array.getD_eq_getD_getElem?, Option.getD_some, e59, e60]; rfl)) ?_
              with_reducible refine (impl_CxTimes.calls b_t336 t336 b_t337 t337 b_t338 t338 b_t339 t339 t342 t343 _ ?side1 ?side2 ?side3 ?side4 A37.out).mono ?_
              (case side1 => exact hF_t336)
              (case side2 => exact hF_t337)
              (case side3 => exact hF_t338)
              (case side4 => exact hF_t339)
              rintro e w50 ⟨b_t342, b_t343, rfl, hF_t342, hF_t343, hb⟩
              refine ⟨_, rfl, ?_⟩
              have n0_ := Aside0.mk (blk_below (g := gb340) (o := .cells #[.float .f64 b_t336, .float .f64 b_t337] 34 (0, 0)) (by (with_reducible repeat (first | refine blk_drewN ?_ _ | refine blk_drew ?_ | refine blk_alloc ?_ _)); exact BK340.out) hb)
              have n1_ := Aside0.mk (blk_below (g := gb341) (o := .cells #[.float .f64 b_t338, .float .f64 b_t339] 34 (0, 0)) (by (with_reducible repeat (first | refine blk_drewN ?_ _ | refine blk_drew ?_ | refine blk_alloc ?_ _)); exact BK341.out) hb)
              have n2_ := Aside0.mk (below_step (by repeat (first | (with_reducible first | exact HB.out | apply below_alloc | apply pw_below_drewN | apply below_drew1) | exact HB.out)) hb)
              have z_BK346 := fun (h0_ : b 6 = true) (h1_ : b 8 = false) => (show w50.heap[gb346]? = some (.cells #[.float .f64 0, .float .f64 0] 34 (0, 0)) from by first | exact (blk_below (g := gb346) (o := .cells #[.float .f64 0, .float .f64 0] 34 (0, 0)) (by (with_reducible repeat (first | refine blk_drewN ?_ _ | refine blk_drew ?_ | refine blk_alloc ?_ _)); exact (Q_BK346 h0_ h1_)) hb))
              have z_BK347 := fun (h0_ : b 7 = true) (h1_ : b 9 = false) => (show w50.heap[gb347]? = some (.cells #[.float .f64 0, .float .f64 0] 34 (0, 0)) from by first | exact (blk_below (g := gb347) (o := .cells #[.float .f64 0, .float .f64 0] 34 (0, 0)) (by (with_reducible repeat (first | refine blk_drewN ?_ _ | refine blk_drew ?_ | refine blk_alloc ?_ _)); exact (Q_BK347 h0_ h1_)) hb))
              clear BK340
              clear BK341
              clear HB
              have BK340 := n0_
              have BK341 := n1_
              have HB := n2_
              clear n0_ n1_ n2_
              (try clear hb)
              (try clear hb2)
              (try clear hk)
              (try clear hi)
              refine hK.out _ _ ⟨b_t342, b_t343, b_t344, b_t345, gb346, gb347, (.agg #[.float .f64 b_t342, .float .f64 b_t343]), m5_, m6_, m7_, (by rw [ha.out]; exact putSel_upk 2 hb_ rfl rfl rfl), (by (with_reducible repeat (first | refine blk_drewN ?_ _ | refine blk_drew ?_ | refine blk_alloc ?_ _)); exact BK340.out), (by (with_reducible repeat (first | refine blk_drewN ?_ _ | refine blk_drew ?_ | refine blk_alloc ?_ _)); exact BK341.out), (by repeat (first | (with_reducible first | exact HB.out | apply below_alloc | apply pw_below_drewN | apply below_drew1) | exact HB.out)), Q_NB347_346, Q_NB346_347, fun _ => hF_t342, fun _ => hF_t343, fun h0_ => absurd ((hoff 5 (by kernel_rfl)).symm.trans h0_) (by decide), fun h0_ => absurd ((hoff 5 (by kernel_rfl)).symm.trans h0_) (by decide), z_BK346, Q_GW346, Q_GE346, Q_NB340_346, Q_NB346_340, Q_NB341_346, Q_NB346_341, z_BK347, Q_GW347, Q_GE347, Q_NB340_347, Q_NB347_340, Q_NB341_347, Q_NB347_341, fun h0_ => absurd ((hoff 8 (by kernel_rfl)).symm.trans h0_) (by decide), fun h0_ => absurd ((hoff 9 (by kernel_rfl)).symm.trans h0_) (by decide), fun _ => rfl, fun h0_ => absurd ((hoff 5 (by kernel_rfl)).symm.trans h0_) (by decide), Q_X6_, Q_X7_⟩
            refine steps_cons ?_ ?_
            · rintro b a w' ⟨b_t342, b_t343, b_t344, b_t345, gb346, gb347, m2_, m5_, m6_, m7_, ha, Q_BK340, Q_BK341, Q_HB, Q_NB347_346, Q_NB346_347, Q_HF_t342, Q_HF_t343, Q_HF_t344, Q_HF_t345, Q_BK346, Q_GW346, Q_GE346, Q_NB340_346, Q_NB346_340, Q_NB341_346, Q_NB346_341, Q_BK347, Q_GW347, Q_GE347, Q_NB340_347, Q_NB347_340, Q_NB341_347, Q_NB347_341, Q_BK346_e8, Q_BK347_e9, Q_X2_, Q_X5_, Q_X6_, Q_X7_⟩ hb_ hon hoff
              refine ⟨_, rfl, fun K hK => ?_⟩
              have e6 : a.tmps[6]? = some (.pointer (some ⟨gb341, 0, none⟩)) := by rw [ha]; exact (putSel_off rfl).trans rfl
              replace ha := Aside0.mk ha
              have BK340 := Aside0.mk Q_BK340
              have BK341 := Aside0.mk Q_BK341
              have HB := Aside0.mk Q_HB
              have hc0_ : w'.cell? ⟨gb341, 0, none⟩ = some (.float .f64 b_t338) := (blk_cell BK341.out 0).trans rfl
              have hc1_ : w'.cell? ⟨gb341, 1, none⟩ = some (.float .f64 b_t339) := (blk_cell BK341.out 1).trans rfl
              refine value_ (w1 := w') (v := .agg #[.float .f64 b_t338, .float .f64 b_t339]) (by rfl) rfl ?_ ?_
              · go_simp
                (try simp only [i64_w])
                try rfl
              refine hK.out _ _ ⟨b_t342, b_t343, b_t344, b_t345, gb346, gb347, m2_, m5_, m6_, m7_, (by rw [ha.out]; exact putSel_upk 3 hb_ rfl rfl rfl), Q_BK340, Q_BK341, Q_HB, Q_NB347_346, Q_NB346_347, Q_HF_t342, Q_HF_t343, fun h0_ => absurd ((hoff 5 (by kernel_rfl)).symm.trans h0_) (by decide), fun h0_ => absurd ((hoff 5 (by kernel_rfl)).symm.trans h0_) (by decide), Q_BK346, Q_GW346, Q_GE346, Q_NB340_346, Q_NB346_340, Q_NB341_346, Q_NB346_341, Q_BK347, Q_GW347, Q_GE347, Q_NB340_347, Q_NB347_340, Q_NB341_347, Q_NB347_341, fun h0_ => absurd ((hoff 8 (by kernel_rfl)).symm.trans h0_) (by decide), fun h0_ => absurd ((hoff 9 (by kernel_rfl)).symm.trans h0_) (by decide), Q_X2_, fun h0_ => absurd ((hoff 5 (by kernel_rfl)).symm.trans h0_) (by decide), Q_X6_, Q_X7_⟩
            refine steps_cons ?_ ?_
            · rintro b a w' ⟨b_t342, b_t343, b_t344, b_t345, gb346, gb347, m2_, m5_, m6_, m7_, ha, Q_BK340, Q_BK341, Q_HB, Q_NB347_346, Q_NB346_347, Q_HF_t342, Q_HF_t343, Q_HF_t344, Q_HF_t345, Q_BK346, Q_GW346, Q_GE346, Q_NB340_346, Q_NB346_340, Q_NB341_346, Q_NB346_341, Q_BK347, Q_GW347, Q_GE347, Q_NB340_347, Q_NB347_340, Q_NB341_347, Q_NB347_341, Q_BK346_e8, Q_BK347_e9, Q_X2_, Q_X5_, Q_X6_, Q_X7_⟩ hb_ hon hoff
              refine ⟨_, rfl, fun K hK => ?_⟩
              have e5 : a.tmps[5]? = some (.pointer (some ⟨gb340, 0, none⟩)) := by rw [ha]; exact (putSel_off rfl).trans rfl
              replace ha := Aside0.mk ha
              have BK340 := Aside0.mk Q_BK340
              have BK341 := Aside0.mk Q_BK341
              have HB := Aside0.mk Q_HB
              have hc0_ : w'.cell? ⟨gb340, 0, none⟩ = some (.float .f64 b_t336) := (blk_cell BK340.out 0).trans rfl
              have hc1_ : w'.cell? ⟨gb340, 1, none⟩ = some (.float .f64 b_t337) := (blk_cell BK340.out 1).trans rfl
              refine value_ (w1 := w') (v := .agg #[.float .f64 b_t336, .float .f64 b_t337]) (by rfl) rfl ?_ ?_
              · go_simp
                (try simp only [i64_w])
                try rfl
              refine hK.out _ _ ⟨b_t342, b_t343, b_t344, b_t345, gb346, gb347, m2_, m5_, m6_, m7_, (by rw [ha.out]; exact putSel_upk 4 hb_ rfl rfl rfl), Q_BK340, Q_BK341, Q_HB, Q_NB347_346, Q_NB346_347, Q_HF_t342, Q_HF_t343, fun h0_ => absurd ((hoff 5 (by kernel_rfl)).symm.trans h0_) (by decide), fun h0_ => absurd ((hoff 5 (by kernel_rfl)).symm.trans h0_) (by decide), Q_BK346, Q_GW346, Q_GE346, Q_NB340_346, Q_NB346_340, Q_NB341_346, Q_NB346_341, Q_BK347, Q_GW347, Q_GE347, Q_NB340_347, Q_NB347_340, Q_NB341_347, Q_NB347_341, fun h0_ => absurd ((hoff 8 (by kernel_rfl)).symm.trans h0_) (by decide), fun h0_ => absurd ((hoff 9 (by kernel_rfl)).symm.trans h0_) (by decide), Q_X2_, fun h0_ => absurd ((hoff 5 (by kernel_rfl)).symm.trans h0_) (by decide), Q_X6_, Q_X7_⟩
            refine steps_cons ?_ ?_
            · rintro b a w' ⟨b_t342, b_t343, b_t344, b_t345, gb346, gb347, m2_, m5_, m6_, m7_, ha, Q_BK340, Q_BK341, Q_HB, Q_NB347_346, Q_NB346_347, Q_HF_t342, Q_HF_t343, Q_HF_t344, Q_HF_t345, Q_BK346, Q_GW346, Q_GE346, Q_NB340_346, Q_NB346_340, Q_NB341_346, Q_NB346_341, Q_BK347, Q_GW347, Q_GE347, Q_NB340_347, Q_NB347_340, Q_NB341_347, Q_NB347_341, Q_BK346_e8, Q_BK347_e9, Q_X2_, Q_X5_, Q_X6_, Q_X7_⟩ hb_ hon hoff
              refine ⟨_, rfl, fun K hK => ?_⟩
              have e62 : a.tmps[62]? = some (.agg #[.float .f64 b_t338, .float .f64 b_t339]) := by rw [ha]; exact putSel_on (e := (3, 62, .agg #[.float .f64 b_t338, .float .f64 b_t339])) 3 rfl rfl (hon 3 (by kernel_rfl)) rfl
              have e63 : a.tmps[63]? = some (.agg #[.float .f64 b_t336, .float .f64 b_t337]) := by rw [ha]; exact putSel_on (e := (4, 63, .agg #[.float .f64 b_t336, .float .f64 b_t337])) 4 rfl rfl (hon 4 (by kernel_rfl)) rfl
              replace ha := Aside0.mk ha
              have BK340 := Aside0.mk Q_BK340
              have BK341 := Aside0.mk Q_BK341
              have HB := Aside0.mk Q_HB
              have HF_t342 := Aside0.mk (Q_HF_t342 (hon 2 (by kernel_rfl)))
              have HF_t343 := Aside0.mk (Q_HF_t343 (hon 2 (by kernel_rfl)))
              have hF_t342 := HF_t342.out
              have hF_t343 := HF_t343.out
              refine goes_ Try.func51 (by kernel_rfl) rfl #[.agg #[.float .f64 b_t338, .float .f64 b_t339], .agg #[.float .f64 b_t336, .float .f64 b_t337]] (by rfl) rfl rfl (by first | (simp only [List.map_toArray, List.map_cons, List.map_nil, Act.eval, Array.getD_eq_getD_getElem?, Option.getD_some, e62, e63]; done) | (simp only [List.map_toArray, List.map_cons, List.map_nil, Act.eval, Array.getD_eq_getD_getElem?, Option.getD_some, e62, e63]; rfl)) ?_
              with_reducible refine (impl_CxTimes.calls b_t338 t338 b_t339 t339 b_t336 t336 b_t337 t337 t344 t345 _ ?side1 ?side2 ?side3 ?side4 A38.out).mono ?_
              (case side1 => exact hF_t338)
              (case side2 => exact hF_t339)
              (case side3 => exact hF_t336)
              (case side4 => exact hF_t337)
              rintro e w52 ⟨b_t344, b_t345, rfl, hF_t344, hF_t345, hb⟩
              refine ⟨_, rfl, ?_⟩
              have n0_ := Aside0.mk (blk_below (g := gb340) (o := .cells #[.float .f64 b_t336, .float .f64 b_t337] 34 (0, 0)) (by (with_reducible repeat (first | refine blk_drewN ?_ _ | refine blk_drew ?_ | refine blk_alloc ?_ _)); exact BK340.out) hb)
              have n1_ := Aside0.mk (blk_below (g := gb341) (o := .cells #[.float .f64 b_t338, .float .f64 b_t339] 34 (0, 0)) (by (with_reducible repeat (first | refine blk_drewN ?_ _ | refine blk_drew ?_ | refine blk_alloc ?_ _)); exact BK341.out) hb)
              have n2_ := Aside0.mk (below_step (by repeat (first | (with_reducible first | exact HB.out | apply below_alloc | apply pw_below_drewN | apply below_drew1) | exact HB.out)) hb)
              have z_BK346 := fun (h0_ : b 6 = true) (h1_ : b 8 = false) => (show w52.heap[gb346]? = some (.cells #[.float .f64 0, .float .f64 0] 34 (0, 0)) from by first | exact (blk_below (g := gb346) (o := .cells #[.float .f64 0, .float .f64 0] 34 (0, 0)) (by (with_reducible repeat (first | refine blk_drewN ?_ _ | refine blk_drew ?_ | refine blk_alloc ?_ _)); exact (Q_BK346 h0_ h1_)) hb))
              have z_BK347 := fun (h0_ : b 7 = true) (h1_ : b 9 = false) => (show w52.heap[gb347]? = some (.cells #[.float .f64 0, .float .f64 0] 34 (0, 0)) from by first | exact (blk_below (g := gb347) (o := .cells #[.float .f64 0, .float .f64 0] 34 (0, 0)) (by (with_reducible repeat (first | refine blk_drewN ?_ _ | refine blk_drew ?_ | refine blk_alloc ?_ _)); exact (Q_BK347 h0_ h1_)) hb))
              clear BK340
              clear BK341
              clear HB
              have BK340 := n0_
              have BK341 := n1_
              have HB := n2_
              clear n0_ n1_ n2_
              (try clear hb)
              (try clear hb2)
              (try clear hk)
              (try clear hi)
              refine hK.out _ _ ⟨b_t342, b_t343, b_t344, b_t345, gb346, gb347, m2_, (.agg #[.float .f64 b_t344, .float .f64 b_t345]), m6_, m7_, (by rw [ha.out]; exact putSel_upk 5 hb_ rfl rfl rfl), (by (with_reducible repeat (first | refine blk_drewN ?_ _ | refine blk_drew ?_ | refine blk_alloc ?_ _)); exact BK340.out), (by (with_reducible repeat (first | refine blk_drewN ?_ _ | refine blk_drew ?_ | refine blk_alloc ?_ _)); exact BK341.out), (by repeat (first | (with_reducible first | exact HB.out | apply below_alloc | apply pw_below_drewN | apply below_drew1) | exact HB.out)), Q_NB347_346, Q_NB346_347, fun _ => hF_t342, fun _ => hF_t343, fun _ => hF_t344, fun _ => hF_t345, z_BK346, Q_GW346, Q_GE346, Q_NB340_346, Q_NB346_340, Q_NB341_346, Q_NB346_341, z_BK347, Q_GW347, Q_GE347, Q_NB340_347, Q_NB347_340, Q_NB341_347, Q_NB347_341, fun h0_ => absurd ((hoff 8 (by kernel_rfl)).symm.trans h0_) (by decide), fun h0_ => absurd ((hoff 9 (by kernel_rfl)).symm.trans h0_) (by decide), Q_X2_, fun _ => rfl, Q_X6_, Q_X7_⟩
            refine steps_cons ?_ ?_
            · rintro b a w' ⟨b_t342, b_t343, b_t344, b_t345, gb346, gb347, m2_, m5_, m6_, m7_, ha, Q_BK340, Q_BK341, Q_HB, Q_NB347_346, Q_NB346_347, Q_HF_t342, Q_HF_t343, Q_HF_t344, Q_HF_t345, Q_BK346, Q_GW346, Q_GE346, Q_NB340_346, Q_NB346_340, Q_NB341_346, Q_NB346_341, Q_BK347, Q_GW347, Q_GE347, Q_NB340_347, Q_NB347_340, Q_NB341_347, Q_NB347_341, Q_BK346_e8, Q_BK347_e9, Q_X2_, Q_X5_, Q_X6_, Q_X7_⟩ hb_ hon hoff
              refine ⟨_, rfl, fun K hK => ?_⟩
              replace ha := Aside0.mk ha
              have BK340 := Aside0.mk Q_BK340
              have BK341 := Aside0.mk Q_BK341
              have HB := Aside0.mk Q_HB
              refine box_step ?hg (N := 7) ?hd (cs := #[.float .f64 0, .float .f64 0]) (t := 34) ?hr ?_; (case hd => rfl); (case hg => rfl); (case hr => first | (go_simp; done) | (go_simp; rfl))
              intro gb346 hg w50 hbox hb
              have n0_ := Aside0.mk (blk_below (g := gb340) (o := .cells #[.float .f64 b_t336, .float .f64 b_t337] 34 (0, 0)) (by (with_reducible repeat (first | refine blk_drewN ?_ _ | refine blk_drew ?_ | refine blk_alloc ?_ _)); exact BK340.out) hb)
              have n1_ := Aside0.mk (blk_below (g := gb341) (o := .cells #[.float .f64 b_t338, .float .f64 b_t339] 34 (0, 0)) (by (with_reducible repeat (first | refine blk_drewN ?_ _ | refine blk_drew ?_ | refine blk_alloc ?_ _)); exact BK341.out) hb)
              have n2_ := Aside0.mk (below_step (by repeat (first | (with_reducible first | exact HB.out | apply below_alloc | apply pw_below_drewN | apply below_drew1) | exact HB.out)) hb)
              have n3_ := Aside0.mk (hbox)
              have n4_ := Aside0.mk ((by rw [hg]; exact (below_size (by repeat (first | (with_reducible first | exact HB.out | apply below_alloc | apply pw_below_drewN | apply below_drew1) | exact HB.out))) : w.heap.size ≤ gb346))
              have n5_ := Aside0.mk ((by rw [hg]; exact (below_size (by repeat (first | (with_reducible first | exact HB.out | apply below_alloc | apply pw_below_drewN | apply below_drew1) | exact HB.out))) : w.heap.size ≤ gb346))
              have n6_ := Aside0.mk ((by rw [hg]; exact Nat.ne_of_lt (blk_lt (g := gb340) (o := .cells #[.float .f64 b_t336, .float .f64 b_t337] 34 (0, 0)) (by (with_reducible repeat (first | refine blk_drewN ?_ _ | refine blk_drew ?_ | refine blk_alloc ?_ _)); exact BK340.out)) : gb340 ≠ gb346))
              have n7_ := Aside0.mk ((by rw [hg]; exact Nat.ne_of_gt (blk_lt (g := gb340) (o := .cells #[.float .f64 b_t336, .float .f64 b_t337] 34 (0, 0)) (by (with_reducible repeat (first | refine blk_drewN ?_ _ | refine blk_drew ?_ | refine blk_alloc ?_ _)); exact BK340.out)) : gb346 ≠ gb340))
              have n8_ := Aside0.mk ((by rw [hg]; exact Nat.ne_of_lt (blk_lt (g := gb341) (o := .cells #[.float .f64 b_t338, .float .f64 b_t339] 34 (0, 0)) (by (with_reducible repeat (first | refine blk_drewN ?_ _ | refine blk_drew ?_ | refine blk_alloc ?_ _)); exact BK341.out)) : gb341 ≠ gb346))
              have n9_ := Aside0.mk ((by rw [hg]; exact Nat.ne_of_gt (blk_lt (g := gb341) (o := .cells #[.float .f64 b_t338, .float .f64 b_t339] 34 (0, 0)) (by (with_reducible repeat (first | refine blk_drewN ?_ _ | refine blk_drew ?_ | refine blk_alloc ?_ _)); exact BK341.out)) : gb346 ≠ gb341))
              have z_NB347_346 := fun (h0_ : up b 6 6 = true) (h1_ : up b 6 7 = true) => (show gb347 ≠ gb346 from (by cases hq_ : b 9 with | false => exact ((by rw [hg]; exact Nat.ne_of_lt (blk_lt (g := gb347) (o := .cells #[.float .f64 0, .float .f64 0] 34 (0, 0)) (by (with_reducible repeat (first | refine blk_drewN ?_ _ | refine blk_drew ?_ | refine blk_alloc ?_ _)); exact (Q_BK347 h1_ hq_))) : gb347 ≠ gb346)) | true => exact ((by rw [hg]; exact Nat.ne_of_lt (blk_lt (g := gb347) (o := .cells #[.float .f64 b_t344, .float .f64 b_t345] 34 (0, 0)) (by (with_reducible repeat (first | refine blk_drewN ?_ _ | refine blk_drew ?_ | refine blk_alloc ?_ _)); exact (Q_BK347_e9 hq_))) : gb347 ≠ gb346))))
              have z_NB346_347 := fun (h0_ : up b 6 6 = true) (h1_ : up b 6 7 = true) => (show gb346 ≠ gb347 from (by cases hq_ : b 9 with | false => exact ((by rw [hg]; exact Nat.ne_of_gt (blk_lt (g := gb347) (o := .cells #[.float .f64 0, .float .f64 0] 34 (0, 0)) (by (with_reducible repeat (first | refine blk_drewN ?_ _ | refine blk_drew ?_ | refine blk_alloc ?_ _)); exact (Q_BK347 h1_ hq_))) : gb346 ≠ gb347)) | true => exact ((by rw [hg]; exact Nat.ne_of_gt (blk_lt (g := gb347) (o := .cells #[.float .f64 b_t344, .float .f64 b_t345] 34 (0, 0)) (by (with_reducible repeat (first | refine blk_drewN ?_ _ | refine blk_drew ?_ | refine blk_alloc ?_ _)); exact (Q_BK347_e9 hq_))) : gb346 ≠ gb347))))
              have z_BK347 := fun (h0_ : b 7 = true) (h1_ : b 9 = false) => (show w50.heap[gb347]? = some (.cells #[.float .f64 0, .float .f64 0] 34 (0, 0)) from by first | exact (blk_below (g := gb347) (o := .cells #[.float .f64 0, .float .f64 0] 34 (0, 0)) (by (with_reducible repeat (first | refine blk_drewN ?_ _ | refine blk_drew ?_ | refine blk_alloc ?_ _)); exact (Q_BK347 h0_ h1_)) hb))
              clear BK340
              clear BK341
              clear HB
              have BK340 := n0_
              have BK341 := n1_
              have HB := n2_
              have BK346 := n3_
              have GW346 := n4_
              have GE346 := n5_
              have NB340_346 := n6_
              have NB346_340 := n7_
              have NB341_346 := n8_
              have NB346_341 := n9_
              clear n0_ n1_ n2_ n3_ n4_ n5_ n6_ n7_ n8_ n9_
              clear hb hbox hg
              refine hK.out _ _ ⟨b_t342, b_t343, b_t344, b_t345, gb346, gb347, m2_, m5_, (.pointer (some ⟨gb346, 0, none⟩)), m7_, (by rw [ha.out]; exact putSel_upk 6 hb_ rfl rfl rfl), (by (with_reducible repeat (first | refine blk_drewN ?_ _ | refine blk_drew ?_ | refine blk_alloc ?_ _)); exact BK340.out), (by (with_reducible repeat (first | refine blk_drewN ?_ _ | refine blk_drew ?_ | refine blk_alloc ?_ _)); exact BK341.out), (by repeat (first | (with_reducible first | exact HB.out | apply below_alloc | apply pw_below_drewN | apply below_drew1) | exact HB.out)), z_NB347_346, z_NB346_347, Q_HF_t342, Q_HF_t343, Q_HF_t344, Q_HF_t345, fun _ _ => (by (with_reducible repeat (first | refine blk_drewN ?_ _ | refine blk_drew ?_ | refine blk_alloc ?_ _)); exact BK346.out), fun _ => GW346.out, fun _ => GE346.out, fun _ => NB340_346.out, fun _ => NB346_340.out, fun _ => NB341_346.out, fun _ => NB346_341.out, z_BK347, Q_GW347, Q_GE347, Q_NB340_347, Q_NB347_340, Q_NB341_347, Q_NB347_341, fun h0_ => absurd ((hoff 8 (by kernel_rfl)).symm.trans h0_) (by decide), fun h0_ => absurd ((hoff 9 (by kernel_rfl)).symm.trans h0_) (by decide), Q_X2_, Q_X5_, fun _ => rfl, Q_X7_⟩
            refine steps_cons ?_ ?_
            · rintro b a w' ⟨b_t342, b_t343, b_t344, b_t345, gb346, gb347, m2_, m5_, m6_, m7_, ha, Q_BK340, Q_BK341, Q_HB, Q_NB347_346, Q_NB346_347, Q_HF_t342, Q_HF_t343, Q_HF_t344, Q_HF_t345, Q_BK346, Q_GW346, Q_GE346, Q_NB340_346, Q_NB346_340, Q_NB341_346, Q_NB346_341, Q_BK347, Q_GW347, Q_GE347, Q_NB340_347, Q_NB347_340, Q_NB341_347, Q_NB347_341, Q_BK346_e8, Q_BK347_e9, Q_X2_, Q_X5_, Q_X6_, Q_X7_⟩ hb_ hon hoff
              refine ⟨_, rfl, fun K hK => ?_⟩
              replace ha := Aside0.mk ha
              have BK340 := Aside0.mk Q_BK340
              have BK341 := Aside0.mk Q_BK341
              have HB := Aside0.mk Q_HB
              refine box_step ?hg (N := 8) ?hd (cs := #[.float .f64 0, .float .f64 0]) (t := 34) ?hr ?_; (case hd => rfl); (case hg => rfl); (case hr => first | (go_simp; done) | (go_simp; rfl))
              intro gb347 hg w50 hbox hb
              have n0_ := Aside0.mk (blk_below (g := gb340) (o := .cells #[.float .f64 b_t336, .float .f64 b_t337] 34 (0, 0)) (by (with_reducible repeat (first | refine blk_drewN ?_ _ | refine blk_drew ?_ | refine blk_alloc ?_ _)); exact BK340.out) hb)
              have n1_ := Aside0.mk (blk_below (g := gb341) (o := .cells #[.float .f64 b_t338, .float .f64 b_t339] 34 (0, 0)) (by (with_reducible repeat (first | refine blk_drewN ?_ _ | refine blk_drew ?_ | refine blk_alloc ?_ _)); exact BK341.out) hb)
              have n2_ := Aside0.mk (below_step (by repeat (first | (with_reducible first | exact HB.out | apply below_alloc | apply pw_below_drewN | apply below_drew1) | exact HB.out)) hb)
              have n3_ := Aside0.mk (hbox)
              have n4_ := Aside0.mk ((by rw [hg]; exact (below_size (by repeat (first | (with_reducible first | exact HB.out | apply below_alloc | apply pw_below_drewN | apply below_drew1) | exact HB.out))) : w.heap.size ≤ gb347))
              have n5_ := Aside0.mk ((by rw [hg]; exact (below_size (by repeat (first | (with_reducible first | exact HB.out | apply below_alloc | apply pw_below_drewN | apply below_drew1) | exact HB.out))) : w.heap.size ≤ gb347))
              have n6_ := Aside0.mk ((by rw [hg]; exact Nat.ne_of_lt (blk_lt (g := gb340) (o := .cells #[.float .f64 b_t336, .float .f64 b_t337] 34 (0, 0)) (by (with_reducible repeat (first | refine blk_drewN ?_ _ | refine blk_drew ?_ | refine blk_alloc ?_ _)); exact BK340.out)) : gb340 ≠ gb347))
              have n7_ := Aside0.mk ((by rw [hg]; exact Nat.ne_of_gt (blk_lt (g := gb340) (o := .cells #[.float .f64 b_t336, .float .f64 b_t337] 34 (0, 0)) (by (with_reducible repeat (first | refine blk_drewN ?_ _ | refine blk_drew ?_ | refine blk_alloc ?_ _)); exact BK340.out)) : gb347 ≠ gb340))
              have n8_ := Aside0.mk ((by rw [hg]; exact Nat.ne_of_lt (blk_lt (g := gb341) (o := .cells #[.float .f64 b_t338, .float .f64 b_t339] 34 (0, 0)) (by (with_reducible repeat (first | refine blk_drewN ?_ _ | refine blk_drew ?_ | refine blk_alloc ?_ _)); exact BK341.out)) : gb341 ≠ gb347))
              have n9_ := Aside0.mk ((by rw [hg]; exact Nat.ne_of_gt (blk_lt (g := gb341) (o := .cells #[.float .f64 b_t338, .float .f64 b_t339] 34 (0, 0)) (by (with_reducible repeat (first | refine blk_drewN ?_ _ | refine blk_drew ?_ | refine blk_alloc ?_ _)); exact BK341.out)) : gb347 ≠ gb341))
              have z_NB347_346 := fun (h0_ : up b 7 6 = true) (h1_ : up b 7 7 = true) => (show gb347 ≠ gb346 from (by cases hq_ : b 8 with | false => exact ((by rw [hg]; exact Nat.ne_of_gt (blk_lt (g := gb346) (o := .cells #[.float .f64 0, .float .f64 0] 34 (0, 0)) (by (with_reducible repeat (first | refine blk_drewN ?_ _ | refine blk_drew ?_ | refine blk_alloc ?_ _)); exact (Q_BK346 h0_ hq_))) : gb347 ≠ gb346)) | true => exact ((by rw [hg]; exact Nat.ne_of_gt (blk_lt (g := gb346) (o := .cells #[.float .f64 b_t342, .float .f64 b_t343] 34 (0, 0)) (by (with_reducible repeat (first | refine blk_drewN ?_ _ | refine blk_drew ?_ | refine blk_alloc ?_ _)); exact (Q_BK346_e8 hq_))) : gb347 ≠ gb346))))
              have z_NB346_347 := fun (h0_ : up b 7 6 = true) (h1_ : up b 7 7 = true) => (show gb346 ≠ gb347 from (by cases hq_ : b 8 with | false => exact ((by rw [hg]; exact Nat.ne_of_lt (blk_lt (g := gb346) (o := .cells #[.float .f64 0, .float .f64 0] 34 (0, 0)) (by (with_reducible repeat (first | refine blk_drewN ?_ _ | refine blk_drew ?_ | refine blk_alloc ?_ _)); exact (Q_BK346 h0_ hq_))) : gb346 ≠ gb347)) | true => exact ((by rw [hg]; exact Nat.ne_of_lt (blk_lt (g := gb346) (o := .cells #[.float .f64 b_t342, .float .f64 b_t343] 34 (0, 0)) (by (with_reducible repeat (first | refine blk_drewN ?_ _ | refine blk_drew ?_ | refine blk_alloc ?_ _)); exact (Q_BK346_e8 hq_))) : gb346 ≠ gb347))))
              have z_BK346 := fun (h0_ : b 6 = true) (h1_ : b 8 = false) => (show w50.heap[gb346]? = some (.cells #[.float .f64 0, .float .f64 0] 34 (0, 0)) from by first | exact (blk_below (g := gb346) (o := .cells #[.float .f64 0, .float .f64 0] 34 (0, 0)) (by (with_reducible repeat (first | refine blk_drewN ?_ _ | refine blk_drew ?_ | refine blk_alloc ?_ _)); exact (Q_BK346 h0_ h1_)) hb))
              clear BK340
              clear BK341
              clear HB
              have BK340 := n0_
              have BK341 := n1_
              have HB := n2_
              have BK347 := n3_
              have GW347 := n4_
              have GE347 := n5_
              have NB340_347 := n6_
              have NB347_340 := n7_
              have NB341_347 := n8_
              have NB347_341 := n9_
              clear n0_ n1_ n2_ n3_ n4_ n5_ n6_ n7_ n8_ n9_
              clear hb hbox hg
              refine hK.out _ _ ⟨b_t342, b_t343, b_t344, b_t345, gb346, gb347, m2_, m5_, m6_, (.pointer (some ⟨gb347, 0, none⟩)), (by rw [ha.out]; exact putSel_upk 7 hb_ rfl rfl rfl), (by (with_reducible repeat (first | refine blk_drewN ?_ _ | refine blk_drew ?_ | refine blk_alloc ?_ _)); exact BK340.out), (by (with_reducible repeat (first | refine blk_drewN ?_ _ | refine blk_drew ?_ | refine blk_alloc ?_ _)); exact BK341.out), (by repeat (first | (with_reducible first | exact HB.out | apply below_alloc | apply pw_below_drewN | apply below_drew1) | exact HB.out)), z_NB347_346, z_NB346_347, Q_HF_t342, Q_HF_t343, Q_HF_t344, Q_HF_t345, z_BK346, Q_GW346, Q_GE346, Q_NB340_346, Q_NB346_340, Q_NB341_346, Q_NB346_341, fun _ _ => (by (with_reducible repeat (first | refine blk_drewN ?_ _ | refine blk_drew ?_ | refine blk_alloc ?_ _)); exact BK347.out), fun _ => GW347.out, fun _ => GE347.out, fun _ => NB340_347.out, fun _ => NB347_340.out, fun _ => NB341_347.out, fun _ => NB347_341.out, fun h0_ => absurd ((hoff 8 (by kernel_rfl)).symm.trans h0_) (by decide), fun h0_ => absurd ((hoff 9 (by kernel_rfl)).symm.trans h0_) (by decide), Q_X2_, Q_X5_, Q_X6_, fun _ => rfl⟩
            refine steps_cons ?_ ?_
            · rintro b a w' ⟨b_t342, b_t343, b_t344, b_t345, gb346, gb347, m2_, m5_, m6_, m7_, ha, Q_BK340, Q_BK341, Q_HB, Q_NB347_346, Q_NB346_347, Q_HF_t342, Q_HF_t343, Q_HF_t344, Q_HF_t345, Q_BK346, Q_GW346, Q_GE346, Q_NB340_346, Q_NB346_340, Q_NB341_346, Q_NB346_341, Q_BK347, Q_GW347, Q_GE347, Q_NB340_347, Q_NB347_340, Q_NB341_347, Q_NB347_341, Q_BK346_e8, Q_BK347_e9, Q_X2_, Q_X5_, Q_X6_, Q_X7_⟩ hb_ hon hoff
              refine ⟨_, rfl, fun K hK => ?_⟩
              have e7 : a.tmps[7]? = some (m6_) := by rw [ha]; exact putSel_on (e := (6, 7, m6_)) 6 rfl rfl (hon 6 (by kernel_rfl)) rfl
              rw [Q_X6_ (hon 6 (by kernel_rfl))] at e7
              have e61 : a.tmps[61]? = some (m2_) := by rw [ha]; exact putSel_on (e := (2, 61, m2_)) 2 rfl rfl (hon 2 (by kernel_rfl)) rfl
              rw [Q_X2_ (hon 2 (by kernel_rfl))] at e61
              replace ha := Aside0.mk ha
              have BK340 := Aside0.mk Q_BK340
              have BK341 := Aside0.mk Q_BK341
              have HB := Aside0.mk Q_HB
              have NB347_346 := Aside0.mk (Q_NB347_346 (hon 6 (by kernel_rfl)) (hon 7 (by kernel_rfl)))
              have NB346_347 := Aside0.mk (Q_NB346_347 (hon 6 (by kernel_rfl)) (hon 7 (by kernel_rfl)))
              have HF_t342 := Aside0.mk (Q_HF_t342 (hon 2 (by kernel_rfl)))
              have HF_t343 := Aside0.mk (Q_HF_t343 (hon 2 (by kernel_rfl)))
              have HF_t344 := Aside0.mk (Q_HF_t344 (hon 5 (by kernel_rfl)))
              have HF_t345 := Aside0.mk (Q_HF_t345 (hon 5 (by kernel_rfl)))
              have BK346 := Aside0.mk (Q_BK346 (hon 6 (by kernel_rfl)) hb_)
              have GW346 := Aside0.mk (Q_GW346 (hon 6 (by kernel_rfl)))
              have GE346 := Aside0.mk (Q_GE346 (hon 6 (by kernel_rfl)))
              have NB340_346 := Aside0.mk (Q_NB340_346 (hon 6 (by kernel_rfl)))
              have NB346_340 := Aside0.mk (Q_NB346_340 (hon 6 (by kernel_rfl)))
              have NB341_346 := Aside0.mk (Q_NB341_346 (hon 6 (by kernel_rfl)))
              have NB346_341 := Aside0.mk (Q_NB346_341 (hon 6 (by kernel_rfl)))
              have BK347 := Aside0.mk (Q_BK347 (hon 7 (by kernel_rfl)) (hoff 9 (by kernel_rfl)))
              have GW347 := Aside0.mk (Q_GW347 (hon 7 (by kernel_rfl)))
              have GE347 := Aside0.mk (Q_GE347 (hon 7 (by kernel_rfl)))
              have NB340_347 := Aside0.mk (Q_NB340_347 (hon 7 (by kernel_rfl)))
              have NB347_340 := Aside0.mk (Q_NB347_340 (hon 7 (by kernel_rfl)))
              have NB341_347 := Aside0.mk (Q_NB341_347 (hon 7 (by kernel_rfl)))
              have NB347_341 := Aside0.mk (Q_NB347_341 (hon 7 (by kernel_rfl)))
              have hF_t342 := HF_t342.out
              have hF_t343 := HF_t343.out
              have hF_t344 := HF_t344.out
              have hF_t345 := HF_t345.out
              have hs55 : w'.cell? ⟨gb346, 0, none⟩ = some (.float .f64 0) := (blk_cell BK346.out 0).trans rfl
              have hfs55 := blk_frozen BK346.out 0
              have hns55_0 := NB340_346.out
              have hns55_1 := NB341_346.out
              have hns55_3 := NB347_346.out
              have hms55_0 := NB346_340.out
              have hms55_1 := NB346_341.out
              have hms55_3 := NB346_347.out
              have hs56 : w'.cell? ⟨gb346, 1, none⟩ = some (.float .f64 0) := (blk_cell BK346.out 1).trans rfl
              have hfs56 := blk_frozen BK346.out 1
              have hns56_0 := NB340_346.out
              have hns56_1 := NB341_346.out
              have hns56_3 := NB347_346.out
              have hms56_0 := NB346_340.out
              have hms56_1 := NB346_341.out
              have hms56_3 := NB346_347.out
              refine skip_ (w1 := ?_) (by rfl) rfl ?_ ?_
              rotate_left
              · go_simp
                rfl
              refine hK.out _ _ ⟨b_t342, b_t343, b_t344, b_t345, gb346, gb347, m2_, m5_, m6_, m7_, (by rw [ha.out]; exact putSel_none (v := undef) rfl), (by (with_reducible repeat (first | refine blk_drewN ?_ _ | refine blk_drew ?_ | refine blk_alloc ?_ _)); refine blk_far ?_ NB340_346.out _; (with_reducible repeat (first | refine blk_drewN ?_ _ | refine blk_drew ?_ | refine blk_alloc ?_ _)); refine blk_far ?_ NB340_346.out _; (with_reducible repeat (first | refine blk_drewN ?_ _ | refine blk_drew ?_ | refine blk_alloc ?_ _)); exact BK340.out), (by (with_reducible repeat (first | refine blk_drewN ?_ _ | refine blk_drew ?_ | refine blk_alloc ?_ _)); refine blk_far ?_ NB341_346.out _; (with_reducible repeat (first | refine blk_drewN ?_ _ | refine blk_drew ?_ | refine blk_alloc ?_ _)); refine blk_far ?_ NB341_346.out _; (with_reducible repeat (first | refine blk_drewN ?_ _ | refine blk_drew ?_ | refine blk_alloc ?_ _)); exact BK341.out), (by repeat (first | (with_reducible first | exact HB.out | apply below_alloc | apply pw_below_drewN | apply below_drew1 | refine below_set ?_ GE346.out) | exact HB.out)), fun _ _ => NB347_346.out, fun _ _ => NB346_347.out, fun _ => hF_t342, fun _ => hF_t343, fun _ => hF_t344, fun _ => hF_t345, fun _ h1_ => absurd ((up_self b 8).symm.trans h1_) (by decide), fun _ => GW346.out, fun _ => GE346.out, fun _ => NB340_346.out, fun _ => NB346_340.out, fun _ => NB341_346.out, fun _ => NB346_341.out, fun _ _ => (by (with_reducible repeat (first | refine blk_drewN ?_ _ | refine blk_drew ?_ | refine blk_alloc ?_ _)); refine blk_far ?_ NB347_346.out _; (with_reducible repeat (first | refine blk_drewN ?_ _ | refine blk_drew ?_ | refine blk_alloc ?_ _)); refine blk_far ?_ NB347_346.out _; (with_reducible repeat (first | refine blk_drewN ?_ _ | refine blk_drew ?_ | refine blk_alloc ?_ _)); exact BK347.out), fun _ => GW347.out, fun _ => GE347.out, fun _ => NB340_347.out, fun _ => NB347_340.out, fun _ => NB341_347.out, fun _ => NB347_341.out, fun _ => (by (with_reducible repeat (first | refine blk_drewN ?_ _ | refine blk_drew ?_ | refine blk_alloc ?_ _)); refine blk_put (cs := #[.float .f64 b_t342, .float .f64 0]) ?_ 1 _ rfl; (with_reducible repeat (first | refine blk_drewN ?_ _ | refine blk_drew ?_ | refine blk_alloc ?_ _)); refine blk_put (cs := #[.float .f64 0, .float .f64 0]) ?_ 0 _ rfl; (with_reducible repeat (first | refine blk_drewN ?_ _ | refine blk_drew ?_ | refine blk_alloc ?_ _)); exact BK346.out), fun h0_ => absurd ((hoff 9 (by kernel_rfl)).symm.trans h0_) (by decide), Q_X2_, Q_X5_, Q_X6_, Q_X7_⟩
            refine steps_cons ?_ ?_
            · rintro b a w' ⟨b_t342, b_t343, b_t344, b_t345, gb346, gb347, m2_, m5_, m6_, m7_, ha, Q_BK340, Q_BK341, Q_HB, Q_NB347_346, Q_NB346_347, Q_HF_t342, Q_HF_t343, Q_HF_t344, Q_HF_t345, Q_BK346, Q_GW346, Q_GE346, Q_NB340_346, Q_NB346_340, Q_NB341_346, Q_NB346_341, Q_BK347, Q_GW347, Q_GE347, Q_NB340_347, Q_NB347_340, Q_NB341_347, Q_NB347_341, Q_BK346_e8, Q_BK347_e9, Q_X2_, Q_X5_, Q_X6_, Q_X7_⟩ hb_ hon hoff
              refine ⟨_, rfl, fun K hK => ?_⟩
              have e8 : a.tmps[8]? = some (m7_) := by rw [ha]; exact putSel_on (e := (7, 8, m7_)) 7 rfl rfl (hon 7 (by kernel_rfl)) rfl
              rw [Q_X7_ (hon 7 (by kernel_rfl))] at e8
              have e64 : a.tmps[64]? = some (m5_) := by rw [ha]; exact putSel_on (e := (5, 64, m5_)) 5 rfl rfl (hon 5 (by kernel_rfl)) rfl
              rw [Q_X5_ (hon 5 (by kernel_rfl))] at e64
              replace ha := Aside0.mk ha
              have BK340 := Aside0.mk Q_BK340
              have BK341 := Aside0.mk Q_BK341
              have HB := Aside0.mk Q_HB
              have NB347_346 := Aside0.mk (Q_NB347_346 (hon 6 (by kernel_rfl)) (hon 7 (by kernel_rfl)))
              have NB346_347 := Aside0.mk (Q_NB346_347 (hon 6 (by kernel_rfl)) (hon 7 (by kernel_rfl)))
              have HF_t342 := Aside0.mk (Q_HF_t342 (hon 2 (by kernel_rfl)))
              have HF_t343 := Aside0.mk (Q_HF_t343 (hon 2 (by kernel_rfl)))
              have HF_t344 := Aside0.mk (Q_HF_t344 (hon 5 (by kernel_rfl)))
              have HF_t345 := Aside0.mk (Q_HF_t345 (hon 5 (by kernel_rfl)))
              have GW346 := Aside0.mk (Q_GW346 (hon 6 (by kernel_rfl)))
              have GE346 := Aside0.mk (Q_GE346 (hon 6 (by kernel_rfl)))
              have NB340_346 := Aside0.mk (Q_NB340_346 (hon 6 (by kernel_rfl)))
              have NB346_340 := Aside0.mk (Q_NB346_340 (hon 6 (by kernel_rfl)))
              have NB341_346 := Aside0.mk (Q_NB341_346 (hon 6 (by kernel_rfl)))
              have NB346_341 := Aside0.mk (Q_NB346_341 (hon 6 (by kernel_rfl)))
              have BK347 := Aside0.mk (Q_BK347 (hon 7 (by kernel_rfl)) hb_)
              have GW347 := Aside0.mk (Q_GW347 (hon 7 (by kernel_rfl)))
              have GE347 := Aside0.mk (Q_GE347 (hon 7 (by kernel_rfl)))
              have NB340_347 := Aside0.mk (Q_NB340_347 (hon 7 (by kernel_rfl)))
              have NB347_340 := Aside0.mk (Q_NB347_340 (hon 7 (by kernel_rfl)))
              have NB341_347 := Aside0.mk (Q_NB341_347 (hon 7 (by kernel_rfl)))
              have NB347_341 := Aside0.mk (Q_NB347_341 (hon 7 (by kernel_rfl)))
              have BK346 := Aside0.mk (Q_BK346_e8 (hon 8 (by kernel_rfl)))
              have hF_t342 := HF_t342.out
              have hF_t343 := HF_t343.out
              have hF_t344 := HF_t344.out
              have hF_t345 := HF_t345.out
              have hs57 : w'.cell? ⟨gb347, 0, none⟩ = some (.float .f64 0) := (blk_cell BK347.out 0).trans rfl
              have hfs57 := blk_frozen BK347.out 0
              have hns57_0 := NB340_347.out
              have hns57_1 := NB341_347.out
              have hns57_2 := NB346_347.out
              have hms57_0 := NB347_340.out
              have hms57_1 := NB347_341.out
              have hms57_2 := NB347_346.out
              have hs58 : w'.cell? ⟨gb347, 1, none⟩ = some (.float .f64 0) := (blk_cell BK347.out 1).trans rfl
              have hfs58 := blk_frozen BK347.out 1
              have hns58_0 := NB340_347.out
              have hns58_1 := NB341_347.out
              have hns58_2 := NB346_347.out
              have hms58_0 := NB347_340.out
              have hms58_1 := NB347_341.out
              have hms58_2 := NB347_346.out
              refine skip_ (w1 := ?_) (by rfl) rfl ?_ ?_
              rotate_left
              · go_simp
                rfl
              refine hK.out _ _ ⟨b_t342, b_t343, b_t344, b_t345, gb346, gb347, m2_, m5_, m6_, m7_, (by rw [ha.out]; exact putSel_none (v := undef) rfl), (by (with_reducible repeat (first | refine blk_drewN ?_ _ | refine blk_drew ?_ | refine blk_alloc ?_ _)); refine blk_far ?_ NB340_347.out _; (with_reducible repeat (first | refine blk_drewN ?_ _ | refine blk_drew ?_ | refine blk_alloc ?_ _)); refine blk_far ?_ NB340_347.out _; (with_reducible repeat (first | refine blk_drewN ?_ _ | refine blk_drew ?_ | refine blk_alloc ?_ _)); exact BK340.out), (by (with_reducible repeat (first | refine blk_drewN ?_ _ | refine blk_drew ?_ | refine blk_alloc ?_ _)); refine blk_far ?_ NB341_347.out _; (with_reducible repeat (first | refine blk_drewN ?_ _ | refine blk_drew ?_ | refine blk_alloc ?_ _)); refine blk_far ?_ NB341_347.out _; (with_reducible repeat (first | refine blk_drewN ?_ _ | refine blk_drew ?_ | refine blk_alloc ?_ _)); exact BK341.out), (by repeat (first | (with_reducible first | exact HB.out | apply below_alloc | apply pw_below_drewN | apply below_drew1 | refine below_set ?_ GE347.out) | exact HB.out)), fun _ _ => NB347_346.out, fun _ _ => NB346_347.out, fun _ => hF_t342, fun _ => hF_t343, fun _ => hF_t344, fun _ => hF_t345, fun _ h1_ => absurd ((hon 8 (by kernel_rfl)).symm.trans h1_) (by decide), fun _ => GW346.out, fun _ => GE346.out, fun _ => NB340_346.out, fun _ => NB346_340.out, fun _ => NB341_346.out, fun _ => NB346_341.out, fun _ h1_ => absurd ((up_self b 9).symm.trans h1_) (by decide), fun _ => GW347.out, fun _ => GE347.out, fun _ => NB340_347.out, fun _ => NB347_340.out, fun _ => NB341_347.out, fun _ => NB347_341.out, fun _ => (by (with_reducible repeat (first | refine blk_drewN ?_ _ | refine blk_drew ?_ | refine blk_alloc ?_ _)); refine blk_far ?_ NB346_347.out _; (with_reducible repeat (first | refine blk_drewN ?_ _ | refine blk_drew ?_ | refine blk_alloc ?_ _)); refine blk_far ?_ NB346_347.out _; (with_reducible repeat (first | refine blk_drewN ?_ _ | refine blk_drew ?_ | refine blk_alloc ?_ _)); exact BK346.out), fun _ => (by (with_reducible repeat (first | refine blk_drewN ?_ _ | refine blk_drew ?_ | refine blk_alloc ?_ _)); refine blk_put (cs := #[.float .f64 b_t344, .float .f64 0]) ?_ 1 _ rfl; (with_reducible repeat (first | refine blk_drewN ?_ _ | refine blk_drew ?_ | refine blk_alloc ?_ _)); refine blk_put (cs := #[.float .f64 0, .float .f64 0]) ?_ 0 _ rfl; (with_reducible repeat (first | refine blk_drewN ?_ _ | refine blk_drew ?_ | refine blk_alloc ?_ _)); exact BK347.out), Q_X2_, Q_X5_, Q_X6_, Q_X7_⟩
            exact steps_nil
          rintro b a w58 hall ⟨b_t342, b_t343, b_t344, b_t345, gb346, gb347, m2_, m5_, m6_, m7_, ha, Q_BK340, Q_BK341, Q_HB, Q_NB347_346, Q_NB346_347, Q_HF_t342, Q_HF_t343, Q_HF_t344, Q_HF_t345, Q_BK346, Q_GW346, Q_GE346, Q_NB340_346, Q_NB346_340, Q_NB341_346, Q_NB346_341, Q_BK347, Q_GW347, Q_GE347, Q_NB340_347, Q_NB347_340, Q_NB341_347, Q_NB347_341, Q_BK346_e8, Q_BK347_e9, Q_X2_, Q_X5_, Q_X6_, Q_X7_⟩
          clear BK340 BK341 HB
          have hb0_ := hall 0 (by kernel_rfl)
          have hb1_ := hall 1 (by kernel_rfl)
          have hb2_ := hall 2 (by kernel_rfl)
          have hb3_ := hall 3 (by kernel_rfl)
          have hb4_ := hall 4 (by kernel_rfl)
          have hb5_ := hall 5 (by kernel_rfl)
          have hb6_ := hall 6 (by kernel_rfl)
          have hb7_ := hall 7 (by kernel_rfl)
          have hb8_ := hall 8 (by kernel_rfl)
          have hb9_ := hall 9 (by kernel_rfl)
          subst ha
          obtain rfl := Q_X2_ hb2_
          obtain rfl := Q_X5_ hb5_
          obtain rfl := Q_X6_ hb6_
          obtain rfl := Q_X7_ hb7_
          simp only [putSel, hb0_, hb1_, hb2_, hb3_, hb4_, hb5_, hb6_, hb7_, hb8_, hb9_, if_true, Act.put, List.setIfInBounds_toArray, List.set_cons_zero, List.set_cons_succ]
          have BK340 := Aside0.mk Q_BK340
          clear Q_BK340
          have BK341 := Aside0.mk Q_BK341
          clear Q_BK341
          have HB := Aside0.mk Q_HB
          clear Q_HB
          have NB347_346 := Aside0.mk (Q_NB347_346 hb6_ hb7_)
          clear Q_NB347_346
          have NB346_347 := Aside0.mk (Q_NB346_347 hb6_ hb7_)
          clear Q_NB346_347
          have HF_t342 := Aside0.mk (Q_HF_t342 hb2_)
          clear Q_HF_t342
          have HF_t343 := Aside0.mk (Q_HF_t343 hb2_)
          clear Q_HF_t343
          have HF_t344 := Aside0.mk (Q_HF_t344 hb5_)
          clear Q_HF_t344
          have HF_t345 := Aside0.mk (Q_HF_t345 hb5_)
          clear Q_HF_t345
          clear Q_BK346
          have GW346 := Aside0.mk (Q_GW346 hb6_)
          clear Q_GW346
          have GE346 := Aside0.mk (Q_GE346 hb6_)
          clear Q_GE346
          have NB340_346 := Aside0.mk (Q_NB340_346 hb6_)
          clear Q_NB340_346
          have NB346_340 := Aside0.mk (Q_NB346_340 hb6_)
          clear Q_NB346_340
          have NB341_346 := Aside0.mk (Q_NB341_346 hb6_)
          clear Q_NB341_346
          have NB346_341 := Aside0.mk (Q_NB346_341 hb6_)
          clear Q_NB346_341
          clear Q_BK347
          have GW347 := Aside0.mk (Q_GW347 hb7_)
          clear Q_GW347
          have GE347 := Aside0.mk (Q_GE347 hb7_)
          clear Q_GE347
          have NB340_347 := Aside0.mk (Q_NB340_347 hb7_)
          clear Q_NB340_347
          have NB347_340 := Aside0.mk (Q_NB347_340 hb7_)
          clear Q_NB347_340
          have NB341_347 := Aside0.mk (Q_NB341_347 hb7_)
          clear Q_NB341_347
          have NB347_341 := Aside0.mk (Q_NB347_341 hb7_)
          clear Q_NB347_341
          have BK346 := Aside0.mk (Q_BK346_e8 hb8_)
          clear Q_BK346_e8
          have BK347 := Aside0.mk (Q_BK347_e9 hb9_)
          clear Q_BK347_e9
          clear hall hb0_ hb1_ hb2_ hb3_ hb4_ hb5_ hb6_ hb7_ hb8_ hb9_
          have hF_t342 := HF_t342.out
          have hF_t343 := HF_t343.out
          have hF_t344 := HF_t344.out
          have hF_t345 := HF_t345.out
          try go_wp2
          have n0_ := Aside0.mk (blk_drew BK340.out)
          have n1_ := Aside0.mk (blk_drew BK341.out)
          have n2_ := Aside0.mk (blk_drew BK346.out)
          have n3_ := Aside0.mk (blk_drew BK347.out)
          have n4_ := Aside0.mk (below_drew1 HB.out)
          clear BK340
          clear BK341
          clear BK346
          clear BK347
          clear HB
          have BK340 := n0_
          have BK341 := n1_
          have BK346 := n2_
          have BK347 := n3_
          have HB := n4_
          clear n0_ n1_ n2_ n3_ n4_
          refine start_ (n := 10) (S := fun w' => True) (ds := []) #[false, false, false, false, false, false, false, false, false, false] (by kernel_rfl) rfl rfl trivial (fun hHeld => ?_); refine with_tabW laws_FnSizes.tab9 laws_FnSizes.bits9 (fun HT_ HW_ => ?_)
          generalize w58.drew = w59 at BK340 BK341 BK346 BK347 HB hHeld ⊢
          refine inv_at [0, 1, 2, 3, 4, 5, 6, 7, 8, 9] (fun a0_ b a w' => ∃ (b_t348 : Nat) (b_t349 : Nat) (b_t350 : Nat) (b_t351 : Nat) (gb352 : Nat) (gb353 : Nat) (m2_ : Value) (m5_ : Value) (m6_ : Value) (m7_ : Value), a = putSel a0_ b [(0, 65, .agg #[.float .f64 b_t336, .float .f64 b_t337]), (1, 66, .agg #[.float .f64 b_t338, .float .f64 b_t339]), (2, 67, m2_), (3, 68, .agg #[.float .f64 b_t338, .float .f64 b_t339]), (4, 69, .agg #[.float .f64 b_t336, .float .f64 b_t337]), (5, 70, m5_), (6, 9, m6_), (7, 10, m7_)] ∧ (w'.heap[gb340]? = some (.cells #[.float .f64 b_t336, .float .f64 b_t337] 34 (0, 0))) ∧ (w'.heap[gb341]? = some (.cells #[.float .f64 b_t338, .float .f64 b_t339] 34 (0, 0))) ∧ (w'.heap[gb346]? = some (.cells #[.float .f64 b_t342, .float .f64 b_t343] 34 (0, 0))) ∧ (w'.heap[gb347]? = some (.cells #[.float .f64 b_t344, .float .f64 b_t345] 34 (0, 0))) ∧ (Below w.heap.size w w') ∧ (b 6 = true → b 7 = true → gb353 ≠ gb352) ∧ (b 6 = true → b 7 = true → gb352 ≠ gb353) ∧ (b 2 = true → cn .f64 b_t348 = t348) ∧ (b 2 = true → cn .f64 b_t349 = t349) ∧ (b 5 = true → cn .f64 b_t350 = t350) ∧ (b 5 = true → cn .f64 b_t351 = t351) ∧ (b 6 = true → b 8 = false → w'.heap[gb352]? = some (.cells #[.float .f64 0, .float .f64 0] 34 (0, 0))) ∧ (b 6 = true → w.heap.size ≤ gb352) ∧ (b 6 = true → w.heap.size ≤ gb352) ∧ (b 6 = true → gb340 ≠ gb352) ∧ (b 6 = true → gb352 ≠ gb340) ∧ (b 6 = true → gb341 ≠ gb352) ∧ (b 6 = true → gb352 ≠ gb341) ∧ (b 6 = true → gb346 ≠ gb352) ∧ (b 6 = true → gb352 ≠ gb346) ∧ (b 6 = true → gb347 ≠ gb352) ∧ (b 6 = true → gb352 ≠ gb347) ∧ (b 7 = true → b 9 = false → w'.heap[gb353]? = some (.cells #[.float .f64 0, .float .f64 0] 34 (0, 0))) ∧ (b 7 = true → w.heap.size ≤ gb353) ∧ (b 7 = true → w.heap.size ≤ gb353) ∧ (b 7 = true → gb340 ≠ gb353) ∧ (b 7 = true → gb353 ≠ gb340) ∧ (b 7 = true → gb341 ≠ gb353) ∧ (b 7 = true → gb353 ≠ gb341) ∧ (b 7 = true → gb346 ≠ gb353) ∧ (b 7 = true → gb353 ≠ gb346) ∧ (b 7 = true → gb347 ≠ gb353) ∧ (b 7 = true → gb353 ≠ gb347) ∧ (b 8 = true → w'.heap[gb352]? = some (.cells #[.float .f64 b_t348, .float .f64 b_t349] 34 (0, 0))) ∧ (b 9 = true → w'.heap[gb353]? = some (.cells #[.float .f64 b_t350, .float .f64 b_t351] 34 (0, 0))) ∧ (b 2 = true → (m2_ : Value) = .agg #[.float .f64 b_t348, .float .f64 b_t349]) ∧ (b 5 = true → (m5_ : Value) = .agg #[.float .f64 b_t350, .float .f64 b_t351]) ∧ (b 6 = true → (m6_ : Value) = .pointer (some ⟨gb352, 0, none⟩)) ∧ (b 7 = true → (m7_ : Value) = .pointer (some ⟨gb353, 0, none⟩))) HT_.out HW_.out (by kernel_rfl) (by kernel_rfl) ?_ ?_ ?_
          · exact ⟨0, 0, 0, 0, 0, 0, .bool false, .bool false, .bool false, .bool false, by simp only [putSel, Bool.false_eq_true, if_false], BK340.out, BK341.out, BK346.out, BK347.out, HB.out, fun h_ => absurd h_ (by decide), fun h_ => absurd h_ (by decide), fun h_ => absurd h_ (by decide), fun h_ => absurd h_ (by decide), fun h_ => absurd h_ (by decide), fun h_ => absurd h_ (by decide), fun h_ => absurd h_ (by decide), fun h_ => absurd h_ (by decide), fun h_ => absurd h_ (by decide), fun h_ => absurd h_ (by decide), fun h_ => absurd h_ (by decide), fun h_ => absurd h_ (by decide), fun h_ => absurd h_ (by decide), fun h_ => absurd h_ (by decide), fun h_ => absurd h_ (by decide), fun h_ => absurd h_ (by decide), fun h_ => absurd h_ (by decide), fun h_ => absurd h_ (by decide), fun h_ => absurd h_ (by decide), fun h_ => absurd h_ (by decide), fun h_ => absurd h_ (by decide), fun h_ => absurd h_ (by decide), fun h_ => absurd h_ (by decide), fun h_ => absurd h_ (by decide), fun h_ => absurd h_ (by decide), fun h_ => absurd h_ (by decide), fun h_ => absurd h_ (by decide), fun h_ => absurd h_ (by decide), fun h_ => absurd h_ (by decide), fun h_ => absurd h_ (by decide), fun h_ => absurd h_ (by decide), fun h_ => absurd h_ (by decide), fun h_ => absurd h_ (by decide), fun h_ => absurd h_ (by decide)⟩
          · skip
            clear BK340 BK341 BK346 BK347 HB
            refine steps_cons ?_ ?_
            · rintro b a w' ⟨b_t348, b_t349, b_t350, b_t351, gb352, gb353, m2_, m5_, m6_, m7_, ha, Q_BK340, Q_BK341, Q_BK346, Q_BK347, Q_HB, Q_NB353_352, Q_NB352_353, Q_HF_t348, Q_HF_t349, Q_HF_t350, Q_HF_t351, Q_BK352, Q_GW352, Q_GE352, Q_NB340_352, Q_NB352_340, Q_NB341_352, Q_NB352_341, Q_NB346_352, Q_NB352_346, Q_NB347_352, Q_NB352_347, Q_BK353, Q_GW353, Q_GE353, Q_NB340_353, Q_NB353_340, Q_NB341_353, Q_NB353_341, Q_NB346_353, Q_NB353_346, Q_NB347_353, Q_NB353_347, Q_BK352_e8, Q_BK353_e9, Q_X2_, Q_X5_, Q_X6_, Q_X7_⟩ hb_ hon hoff
              refine ⟨_, rfl, fun K hK => ?_⟩
              have e5 : a.tmps[5]? = some (.pointer (some ⟨gb340, 0, none⟩)) := by rw [ha]; exact (putSel_off rfl).trans rfl
              replace ha := Aside0.mk ha
              have BK340 := Aside0.mk Q_BK340
              have BK341 := Aside0.mk Q_BK341
              have BK346 := Aside0.mk Q_BK346
              have BK347 := Aside0.mk Q_BK347
              have HB := Aside0.mk Q_HB
              have hc0_ : w'.cell? ⟨gb340, 0, none⟩ = some (.float .f64 b_t336) := (blk_cell BK340.out 0).trans rfl
              have hc1_ : w'.cell? ⟨gb340, 1, none⟩ = some (.float .f64 b_t337) := (blk_cell BK340.out 1).trans rfl
              refine value_ (w1 := w') (v := .agg #[.float .f64 b_t336, .float .f64 b_t337]) (by rfl) rfl ?_ ?_
              · go_simp
                (try simp only [i64_w])
                try rfl
              refine hK.out _ _ ⟨b_t348, b_t349, b_t350, b_t351, gb352, gb353, m2_, m5_, m6_, m7_, (by rw [ha.out]; exact putSel_upk 0 hb_ rfl rfl rfl), Q_BK340, Q_BK341, Q_BK346, Q_BK347, Q_HB, Q_NB353_352, Q_NB352_353, fun h0_ => absurd ((hoff 2 (by kernel_rfl)).symm.trans h0_) (by decide), fun h0_ => absurd ((hoff 2 (by kernel_rfl)).symm.trans h0_) (by decide), fun h0_ => absurd ((hoff 5 (by kernel_rfl)).symm.trans h0_) (by decide), fun h0_ => absurd ((hoff 5 (by kernel_rfl)).symm.trans h0_) (by decide), Q_BK352, Q_GW352, Q_GE352, Q_NB340_352, Q_NB352_340, Q_NB341_352, Q_NB352_341, Q_NB346_352, Q_NB352_346, Q_NB347_352, Q_NB352_347, Q_BK353, Q_GW353, Q_GE353, Q_NB340_353, Q_NB353_340, Q_NB341_353, Q_NB353_341, Q_NB346_353, Q_NB353_346, Q_NB347_353, Q_NB353_347, fun h0_ => absurd ((hoff 8 (by kernel_rfl)).symm.trans h0_) (by decide), fun h0_ => absurd ((hoff 9 (by kernel_rfl)).symm.trans h0_) (by decide), fun h0_ => absurd ((hoff 2 (by kernel_rfl)).symm.trans h0_) (by decide), fun h0_ => absurd ((hoff 5 (by kernel_rfl)).symm.trans h0_) (by decide), Q_X6_, Q_X7_⟩
            refine steps_cons ?_ ?_
            · rintro b a w' ⟨b_t348, b_t349, b_t350, b_t351, gb352, gb353, m2_, m5_, m6_, m7_, ha, Q_BK340, Q_BK341, Q_BK346, Q_BK347, Q_HB, Q_NB353_352, Q_NB352_353, Q_HF_t348, Q_HF_t349, Q_HF_t350, Q_HF_t351, Q_BK352, Q_GW352, Q_GE352, Q_NB340_352, Q_NB352_340, Q_NB341_352, Q_NB352_341, Q_NB346_352, Q_NB352_346, Q_NB347_352, Q_NB352_347, Q_BK353, Q_GW353, Q_GE353, Q_NB340_353, Q_NB353_340, Q_NB341_353, Q_NB353_341, Q_NB346_353, Q_NB353_346, Q_NB347_353, Q_NB353_347, Q_BK352_e8, Q_BK353_e9, Q_X2_, Q_X5_, Q_X6_, Q_X7_⟩ hb_ hon hoff
              refine ⟨_, rfl, fun K hK => ?_⟩
              have e6 : a.tmps[6]? = some (.pointer (some ⟨gb341, 0, none⟩)) := by rw [ha]; exact (putSel_off rfl).trans rfl
              replace ha := Aside0.mk ha
              have BK340 := Aside0.mk Q_BK340
              have BK341 := Aside0.mk Q_BK341
              have BK346 := Aside0.mk Q_BK346
              have BK347 := Aside0.mk Q_BK347
              have HB := Aside0.mk Q_HB
              have hc0_ : w'.cell? ⟨gb341, 0, none⟩ = some (.float .f64 b_t338) := (blk_cell BK341.out 0).trans rfl
              have hc1_ : w'.cell? ⟨gb341, 1, none⟩ = some (.float .f64 b_t339) := (blk_cell BK341.out 1).trans rfl
              refine value_ (w1 := w') (v := .agg #[.float .f64 b_t338, .float .f64 b_t339]) (by rfl) rfl ?_ ?_
              · go_simp
                (try simp only [i64_w])
                try rfl
              refine hK.out _ _ ⟨b_t348, b_t349, b_t350, b_t351, gb352, gb353, m2_, m5_, m6_, m7_, (by rw [ha.out]; exact putSel_upk 1 hb_ rfl rfl rfl), Q_BK340, Q_BK341, Q_BK346, Q_BK347, Q_HB, Q_NB353_352, Q_NB352_353, fun h0_ => absurd ((hoff 2 (by kernel_rfl)).symm.trans h0_) (by decide), fun h0_ => absurd ((hoff 2 (by kernel_rfl)).symm.trans h0_) (by decide), fun h0_ => absurd ((hoff 5 (by kernel_rfl)).symm.trans h0_) (by decide), fun h0_ => absurd ((hoff 5 (by kernel_rfl)).symm.trans h0_) (by decide), Q_BK352, Q_GW352, Q_GE352, Q_NB340_352, Q_NB352_340, Q_NB341_352, Q_NB352_341, Q_NB346_352, Q_NB352_346, Q_NB347_352, Q_NB352_347, Q_BK353, Q_GW353, Q_GE353, Q_NB340_353, Q_NB353_340, Q_NB341_353, Q_NB353_341, Q_NB346_353, Q_NB353_346, Q_NB347_353, Q_NB353_347, fun h0_ => absurd ((hoff 8 (by kernel_rfl)).symm.trans h0_) (by decide), fun h0_ => absurd ((hoff 9 (by kernel_rfl)).symm.trans h0_) (by decide), fun h0_ => absurd ((hoff 2 (by kernel_rfl)).symm.trans h0_) (by decide), fun h0_ => absurd ((hoff 5 (by kernel_rfl)).symm.trans h0_) (by decide), Q_X6_, Q_X7_⟩
            refine steps_cons ?_ ?_
            · rintro b a w' ⟨b_t348, b_t349, b_t350, b_t351, gb352, gb353, m2_, m5_, m6_, m7_, ha, Q_BK340, Q_BK341, Q_BK346, Q_BK347, Q_HB, Q_NB353_352, Q_NB352_353, Q_HF_t348, Q_HF_t349, Q_HF_t350, Q_HF_t351, Q_BK352, Q_GW352, Q_GE352, Q_NB340_352, Q_NB352_340, Q_NB341_352, Q_NB352_341, Q_NB346_352, Q_NB352_346, Q_NB347_352, Q_NB352_347, Q_BK353, Q_GW353, Q_GE353, Q_NB340_353, Q_NB353_340, Q_NB341_353, Q_NB353_341, Q_NB346_353, Q_NB353_346, Q_NB347_353, Q_NB353_347, Q_BK352_e8, Q_BK353_e9, Q_X2_, Q_X5_, Q_X6_, Q_X7_⟩ hb_ hon hoff
              refine ⟨_, rfl, fun K hK => ?_⟩
              have e65 : a.tmps[65]? = some (.agg #[.float .f64 b_t336, .float .f64 b_t337]) := by rw [ha]; exact putSel_on (e := (0, 65, .agg #[.float .f64 b_t336, .float .f64 b_t337])) 0 rfl rfl (hon 0 (by kernel_rfl)) rfl
              have e66 : a.tmps[66]? = some (.agg #[.float .f64 b_t338, .float .f64 b_t339]) := by rw [ha]; exact putSel_on (e := (1, 66, .agg #[.float .f64 b_t338, .float .f64 b_t339])) 1 rfl rfl (hon 1 (by kernel_rfl)) rfl
              replace ha := Aside0.mk ha
              have BK340 := Aside0.mk Q_BK340
              have BK341 := Aside0.mk Q_BK341
              have BK346 := Aside0.mk Q_BK346
              have BK347 := Aside0.mk Q_BK347
              have HB := Aside0.mk Q_HB
              refine goes_ Try.func60 (by kernel_rfl) rfl #[.agg #[.float .f64 b_t336, .float .f64 b_t337], .agg #[.float .f64 b_t338, .float .f64 b_t339]] (by rfl) rfl rfl (by first | (simp only [List.map_toArray, List.map_cons, List.map_nil, Act.eval, Array.getD_eq_getD_getElem?, Option.getD_some, e65, e66]; done) | (simp only [List.map_toArray, List.map_cons, List.map_nil, Act.eval, Array.getD_eq_getD_getElem?, Option.getD_some, e65, e66]; rfl)) ?_
              with_reducible refine (impl_CxAdd.calls b_t336 t336 b_t337 t337 b_t338 t338 b_t339 t339 t348 t349 _ ?side1 ?side2 ?side3 ?side4 A39.out).mono ?_
              (case side1 => exact hF_t336)
              (case side2 => exact hF_t337)
              (case side3 => exact hF_t338)
              (case side4 => exact hF_t339)
              rintro e w60 ⟨b_t348, b_t349, rfl, hF_t348, hF_t349, hb⟩
              refine ⟨_, rfl, ?_⟩
              have n0_ := Aside0.mk (blk_below (g := gb340) (o := .cells #[.float .f64 b_t336, .float .f64 b_t337] 34 (0, 0)) (by (with_reducible repeat (first | refine blk_drewN ?_ _ | refine blk_drew ?_ | refine blk_alloc ?_ _)); exact BK340.out) hb)
              have n1_ := Aside0.mk (blk_below (g := gb341) (o := .cells #[.float .f64 b_t338, .float .f64 b_t339] 34 (0, 0)) (by (with_reducible repeat (first | refine blk_drewN ?_ _ | refine blk_drew ?_ | refine blk_alloc ?_ _)); exact BK341.out) hb)
              have n2_ := Aside0.mk (blk_below (g := gb346) (o := .cells #[.float .f64 b_t342, .float .f64 b_t343] 34 (0, 0)) (by (with_reducible repeat (first | refine blk_drewN ?_ _ | refine blk_drew ?_ | refine blk_alloc ?_ _)); exact BK346.out) hb)
              have n3_ := Aside0.mk (blk_below (g := gb347) (o := .cells #[.float .f64 b_t344, .float .f64 b_t345] 34 (0, 0)) (by (with_reducible repeat (first | refine blk_drewN ?_ _ | refine blk_drew ?_ | refine blk_alloc ?_ _)); exact BK347.out) hb)
              have n4_ := Aside0.mk (below_step (by repeat (first | (with_reducible first | exact HB.out | apply below_alloc | apply pw_below_drewN | apply below_drew1) | exact HB.out)) hb)
              have z_BK352 := fun (h0_ : b 6 = true) (h1_ : b 8 = false) => (show w60.heap[gb352]? = some (.cells #[.float .f64 0, .float .f64 0] 34 (0, 0)) from by first | exact (blk_below (g := gb352) (o := .cells #[.float .f64 0, .float .f64 0] 34 (0, 0)) (by (with_reducible repeat (first | refine blk_drewN ?_ _ | refine blk_drew ?_ | refine blk_alloc ?_ _)); exact (Q_BK352 h0_ h1_)) hb))
              have z_BK353 := fun (h0_ : b 7 = true) (h1_ : b 9 = false) => (show w60.heap[gb353]? = some (.cells #[.float .f64 0, .float .f64 0] 34 (0, 0)) from by first | exact (blk_below (g := gb353) (o := .cells #[.float .f64 0, .float .f64 0] 34 (0, 0)) (by (with_reducible repeat (first | refine blk_drewN ?_ _ | refine blk_drew ?_ | refine blk_alloc ?_ _)); exact (Q_BK353 h0_ h1_)) hb))
              clear BK340
              clear BK341
              clear BK346
              clear BK347
              clear HB
              have BK340 := n0_
              have BK341 := n1_
              have BK346 := n2_
              have BK347 := n3_
              have HB := n4_
              clear n0_ n1_ n2_ n3_ n4_
              (try clear hb)
              (try clear hb2)
              (try clear hk)
              (try clear hi)
              refine hK.out _ _ ⟨b_t348, b_t349, b_t350, b_t351, gb352, gb353, (.agg #[.float .f64 b_t348, .float .f64 b_t349]), m5_, m6_, m7_, (by rw [ha.out]; exact putSel_upk 2 hb_ rfl rfl rfl), (by (with_reducible repeat (first | refine blk_drewN ?_ _ | refine blk_drew ?_ | refine blk_alloc ?_ _)); exact BK340.out), (by (with_reducible repeat (first | refine blk_drewN ?_ _ | refine blk_drew ?_ | refine blk_alloc ?_ _)); exact BK341.out), (by (with_reducible repeat (first | refine blk_drewN ?_ _ | refine blk_drew ?_ | refine blk_alloc ?_ _)); exact BK346.out), (by (with_reducible repeat (first | refine blk_drewN ?_ _ | refine blk_drew ?_ | refine blk_alloc ?_ _)); exact BK347.out), (by repeat (first | (with_reducible first | exact HB.out | apply below_alloc | apply pw_below_drewN | apply below_drew1) | exact HB.out)), Q_NB353_352, Q_NB352_353, fun _ => hF_t348, fun _ => hF_t349, fun h0_ => absurd ((hoff 5 (by kernel_rfl)).symm.trans h0_) (by decide), fun h0_ => absurd ((hoff 5 (by kernel_rfl)).symm.trans h0_) (by decide), z_BK352, Q_GW352, Q_GE352, Q_NB340_352, Q_NB352_340, Q_NB341_352, Q_NB352_341, Q_NB346_352, Q_NB352_346, Q_NB347_352, Q_NB352_347, z_BK353, Q_GW353, Q_GE353, Q_NB340_353, Q_NB353_340, Q_NB341_353, Q_NB353_341, Q_NB346_353, Q_NB353_346, Q_NB347_353, Q_NB353_347, fun h0_ => absurd ((hoff 8 (by kernel_rfl)).symm.trans h0_) (by decide), fun h0_ => absurd ((hoff 9 (by kernel_rfl)).symm.trans h0_) (by decide), fun _ => rfl, fun h0_ => absurd ((hoff 5 (by kernel_rfl)).symm.trans h0_) (by decide), Q_X6_, Q_X7_⟩
            refine steps_cons ?_ ?_
            · rintro b a w' ⟨b_t348, b_t349, b_t350, b_t351, gb352, gb353, m2_, m5_, m6_, m7_, ha, Q_BK340, Q_BK341, Q_BK346, Q_BK347, Q_HB, Q_NB353_352, Q_NB352_353, Q_HF_t348, Q_HF_t349, Q_HF_t350, Q_HF_t351, Q_BK352, Q_GW352, Q_GE352, Q_NB340_352, Q_NB352_340, Q_NB341_352, Q_NB352_341, Q_NB346_352, Q_NB352_346, Q_NB347_352, Q_NB352_347, Q_BK353, Q_GW353, Q_GE353, Q_NB340_353, Q_NB353_340, Q_NB341_353, Q_NB353_341, Q_NB346_353, Q_NB353_346, Q_NB347_353, Q_NB353_347, Q_BK352_e8, Q_BK353_e9, Q_X2_, Q_X5_, Q_X6_, Q_X7_⟩ hb_ hon hoff
              refine ⟨_, rfl, fun K hK => ?_⟩
              have e6 : a.tmps[6]? = some (.pointer (some ⟨gb341, 0, none⟩)) := by rw [ha]; exact (putSel_off rfl).trans rfl
              replace ha := Aside0.mk ha
              have BK340 := Aside0.mk Q_BK340
              have BK341 := Aside0.mk Q_BK341
              have BK346 := Aside0.mk Q_BK346
              have BK347 := Aside0.mk Q_BK347
              have HB := Aside0.mk Q_HB
              have hc0_ : w'.cell? ⟨gb341, 0, none⟩ = some (.float .f64 b_t338) := (blk_cell BK341.out 0).trans rfl
              have hc1_ : w'.cell? ⟨gb341, 1, none⟩ = some (.float .f64 b_t339) := (blk_cell BK341.out 1).trans rfl
              refine value_ (w1 := w') (v := .agg #[.float .f64 b_t338, .float .f64 b_t339]) (by rfl) rfl ?_ ?_
              · go_simp
                (try simp only [i64_w])
                try rfl
              refine hK.out _ _ ⟨b_t348, b_t349, b_t350, b_t351, gb352, gb353, m2_, m5_, m6_, m7_, (by rw [ha.out]; exact putSel_upk 3 hb_ rfl rfl rfl), Q_BK340, Q_BK341, Q_BK346, Q_BK347, Q_HB, Q_NB353_352, Q_NB352_353, Q_HF_t348, Q_HF_t349, fun h0_ => absurd ((hoff 5 (by kernel_rfl)).symm.trans h0_) (by decide), fun h0_ => absurd ((hoff 5 (by kernel_rfl)).symm.trans h0_) (by decide), Q_BK352, Q_GW352, Q_GE352, Q_NB340_352, Q_NB352_340, Q_NB341_352, Q_NB352_341, Q_NB346_352, Q_NB352_346, Q_NB347_352, Q_NB352_347, Q_BK353, Q_GW353, Q_GE353, Q_NB340_353, Q_NB353_340, Q_NB341_353, Q_NB353_341, Q_NB346_353, Q_NB353_346, Q_NB347_353, Q_NB353_347, fun h0_ => absurd ((hoff 8 (by kernel_rfl)).symm.trans h0_) (by decide), fun h0_ => absurd ((hoff 9 (by kernel_rfl)).symm.trans h0_) (by decide), Q_X2_, fun h0_ => absurd ((hoff 5 (by kernel_rfl)).symm.trans h0_) (by decide), Q_X6_, Q_X7_⟩
            refine steps_cons ?_ ?_
            · rintro b a w' ⟨b_t348, b_t349, b_t350, b_t351, gb352, gb353, m2_, m5_, m6_, m7_, ha, Q_BK340, Q_BK341, Q_BK346, Q_BK347, Q_HB, Q_NB353_352, Q_NB352_353, Q_HF_t348, Q_HF_t349, Q_HF_t350, Q_HF_t351, Q_BK352, Q_GW352, Q_GE352, Q_NB340_352, Q_NB352_340, Q_NB341_352, Q_NB352_341, Q_NB346_352, Q_NB352_346, Q_NB347_352, Q_NB352_347, Q_BK353, Q_GW353, Q_GE353, Q_NB340_353, Q_NB353_340, Q_NB341_353, Q_NB353_341, Q_NB346_353, Q_NB353_346, Q_NB347_353, Q_NB353_347, Q_BK352_e8, Q_BK353_e9, Q_X2_, Q_X5_, Q_X6_, Q_X7_⟩ hb_ hon hoff
              refine ⟨_, rfl, fun K hK => ?_⟩
              have e5 : a.tmps[5]? = some (.pointer (some ⟨gb340, 0, none⟩)) := by rw [ha]; exact (putSel_off rfl).trans rfl
              replace ha := Aside0.mk ha
              have BK340 := Aside0.mk Q_BK340
              have BK341 := Aside0.mk Q_BK341
              have BK346 := Aside0.mk Q_BK346
              have BK347 := Aside0.mk Q_BK347
              have HB := Aside0.mk Q_HB
              have hc0_ : w'.cell? ⟨gb340, 0, none⟩ = some (.float .f64 b_t336) := (blk_cell BK340.out 0).trans rfl
              have hc1_ : w'.cell? ⟨gb340, 1, none⟩ = some (.float .f64 b_t337) := (blk_cell BK340.out 1).trans rfl
              refine value_ (w1 := w') (v := .agg #[.float .f64 b_t336, .float .f64 b_t337]) (by rfl) rfl ?_ ?_
              · go_simp
                (try simp only [i64_w])
                try rfl
              refine hK.out _ _ ⟨b_t348, b_t349, b_t350, b_t351, gb352, gb353, m2_, m5_, m6_, m7_, (by rw [ha.out]; exact putSel_upk 4 hb_ rfl rfl rfl), Q_BK340, Q_BK341, Q_BK346, Q_BK347, Q_HB, Q_NB353_352, Q_NB352_353, Q_HF_t348, Q_HF_t349, fun h0_ => absurd ((hoff 5 (by kernel_rfl)).symm.trans h0_) (by decide), fun h0_ => absurd ((hoff 5 (by kernel_rfl)).symm.trans h0_) (by decide), Q_BK352, Q_GW352, Q_GE352, Q_NB340_352, Q_NB352_340, Q_NB341_352, Q_NB352_341, Q_NB346_352, Q_NB352_346, Q_NB347_352, Q_NB352_347, Q_BK353, Q_GW353, Q_GE353, Q_NB340_353, Q_NB353_340, Q_NB341_353, Q_NB353_341, Q_NB346_353, Q_NB353_346, Q_NB347_353, Q_NB353_347, fun h0_ => absurd ((hoff 8 (by kernel_rfl)).symm.trans h0_) (by decide), fun h0_ => absurd ((hoff 9 (by kernel_rfl)).symm.trans h0_) (by decide), Q_X2_, fun h0_ => absurd ((hoff 5 (by kernel_rfl)).symm.trans h0_) (by decide), Q_X6_, Q_X7_⟩
            refine steps_cons ?_ ?_
            · rintro b a w' ⟨b_t348, b_t349, b_t350, b_t351, gb352, gb353, m2_, m5_, m6_, m7_, ha, Q_BK340, Q_BK341, Q_BK346, Q_BK347, Q_HB, Q_NB353_352, Q_NB352_353, Q_HF_t348, Q_HF_t349, Q_HF_t350, Q_HF_t351, Q_BK352, Q_GW352, Q_GE352, Q_NB340_352, Q_NB352_340, Q_NB341_352, Q_NB352_341, Q_NB346_352, Q_NB352_346, Q_NB347_352, Q_NB352_347, Q_BK353, Q_GW353, Q_GE353, Q_NB340_353, Q_NB353_340, Q_NB341_353, Q_NB353_341, Q_NB346_353, Q_NB353_346, Q_NB347_353, Q_NB353_347, Q_BK352_e8, Q_BK353_e9, Q_X2_, Q_X5_, Q_X6_, Q_X7_⟩ hb_ hon hoff
              refine ⟨_, rfl, fun K hK => ?_⟩
              have e68 : a.tmps[68]? = some (.agg #[.float .f64 b_t338, .float .f64 b_t339]) := by rw [ha]; exact putSel_on (e := (3, 68, .agg #[.float .f64 b_t338, .float .f64 b_t339])) 3 rfl rfl (hon 3 (by kernel_rfl)) rfl
              have e69 : a.tmps[69]? = some (.agg #[.float .f64 b_t336, .float .f64 b_t337]) := by rw [ha]; exact putSel_on (e := (4, 69, .agg #[.float .f64 b_t336, .float .f64 b_t337])) 4 rfl rfl (hon 4 (by kernel_rfl)) rfl
              replace ha := Aside0.mk ha
              have BK340 := Aside0.mk Q_BK340
              have BK341 := Aside0.mk Q_BK341
              have BK346 := Aside0.mk Q_BK346
              have BK347 := Aside0.mk Q_BK347
              have HB := Aside0.mk Q_HB
              have HF_t348 := Aside0.mk (Q_HF_t348 (hon 2 (by kernel_rfl)))
              have HF_t349 := Aside0.mk (Q_HF_t349 (hon 2 (by kernel_rfl)))
              have hF_t348 := HF_t348.out
              have hF_t349 := HF_t349.out
              refine goes_ Try.func60 (by kernel_rfl) rfl #[.agg #[.float .f64 b_t338, .float .f64 b_t339], .agg #[.float .f64 b_t336, .float .f64 b_t337]] (by rfl) rfl rfl (by first | (simp only [List.map_toArray, List.map_cons, List.map_nil, Act.eval, Array.getD_eq_getD_getElem?, Option.getD_some, e68, e69]; done) | (simp only [List.map_toArray, List.map_cons, List.map_nil, Act.eval, Array.getD_eq_getD_getElem?, Option.getD_some, e68, e69]; rfl)) ?_
              with_reducible refine (impl_CxAdd.calls b_t338 t338 b_t339 t339 b_t336 t336 b_t337 t337 t350 t351 _ ?side1 ?side2 ?side3 ?side4 A40.out).mono ?_
              (case side1 => exact hF_t338)
              (case side2 => exact hF_t339)
              (case side3 => exact hF_t336)
              (case side4 => exact hF_t337)
              rintro e w62 ⟨b_t350, b_t351, rfl, hF_t350, hF_t351, hb⟩
              refine ⟨_, rfl, ?_⟩
              have n0_ := Aside0.mk (blk_below (g := gb340) (o := .cells #[.float .f64 b_t336, .float .f64 b_t337] 34 (0, 0)) (by (with_reducible repeat (first | refine blk_drewN ?_ _ | refine blk_drew ?_ | refine blk_alloc ?_ _)); exact BK340.out) hb)
              have n1_ := Aside0.mk (blk_below (g := gb341) (o := .cells #[.float .f64 b_t338, .float .f64 b_t339] 34 (0, 0)) (by (with_reducible repeat (first | refine blk_drewN ?_ _ | refine blk_drew ?_ | refine blk_alloc ?_ _)); exact BK341.out) hb)
              have n2_ := Aside0.mk (blk_below (g := gb346) (o := .cells #[.float .f64 b_t342, .float .f64 b_t343] 34 (0, 0)) (by (with_reducible repeat (first | refine blk_drewN ?_ _ | refine blk_drew ?_ | refine blk_alloc ?_ _)); exact BK346.out) hb)
              have n3_ := Aside0.mk (blk_below (g := gb347) (o := .cells #[.float .f64 b_t344, .float .f64 b_t345] 34 (0, 0)) (by (with_reducible repeat (first | refine blk_drewN ?_ _ | refine blk_drew ?_ | refine blk_alloc ?_ _)); exact BK347.out) hb)
              have n4_ := Aside0.mk (below_step (by repeat (first | (with_reducible first | exact HB.out | apply below_alloc | apply pw_below_drewN | apply below_drew1) | exact HB.out)) hb)
              have z_BK352 := fun (h0_ : b 6 = true) (h1_ : b 8 = false) => (show w62.heap[gb352]? = some (.cells #[.float .f64 0, .float .f64 0] 34 (0, 0)) from by first | exact (blk_below (g := gb352) (o := .cells #[.float .f64 0, .float .f64 0] 34 (0, 0)) (by (with_reducible repeat (first | refine blk_drewN ?_ _ | refine blk_drew ?_ | refine blk_alloc ?_ _)); exact (Q_BK352 h0_ h1_)) hb))
              have z_BK353 := fun (h0_ : b 7 = true) (h1_ : b 9 = false) => (show w62.heap[gb353]? = some (.cells #[.float .f64 0, .float .f64 0] 34 (0, 0)) from by first | exact (blk_below (g := gb353) (o := .cells #[.float .f64 0, .float .f64 0] 34 (0, 0)) (by (with_reducible repeat (first | refine blk_drewN ?_ _ | refine blk_drew ?_ | refine blk_alloc ?_ _)); exact (Q_BK353 h0_ h1_)) hb))
              clear BK340
              clear BK341
              clear BK346
              clear BK347
              clear HB
              have BK340 := n0_
              have BK341 := n1_
              have BK346 := n2_
              have BK347 := n3_
              have HB := n4_
              clear n0_ n1_ n2_ n3_ n4_
              (try clear hb)
              (try clear hb2)
              (try clear hk)
              (try clear hi)
              refine hK.out _ _ ⟨b_t348, b_t349, b_t350, b_t351, gb352, gb353, m2_, (.agg #[.float .f64 b_t350, .float .f64 b_t351]), m6_, m7_, (by rw [ha.out]; exact putSel_upk 5 hb_ rfl rfl rfl), (by (with_reducible repeat (first | refine blk_drewN ?_ _ | refine blk_drew ?_ | refine blk_alloc ?_ _)); exact BK340.out), (by (with_reducible repeat (first | refine blk_drewN ?_ _ | refine blk_drew ?_ | refine blk_alloc ?_ _)); exact BK341.out), (by (with_reducible repeat (first | refine blk_drewN ?_ _ | refine blk_drew ?_ | refine blk_alloc ?_ _)); exact BK346.out), (by (with_reducible repeat (first | refine blk_drewN ?_ _ | refine blk_drew ?_ | refine blk_alloc ?_ _)); exact BK347.out), (by repeat (first | (with_reducible first | exact HB.out | apply below_alloc | apply pw_below_drewN | apply below_drew1) | exact HB.out)), Q_NB353_352, Q_NB352_353, fun _ => hF_t348, fun _ => hF_t349, fun _ => hF_t350, fun _ => hF_t351, z_BK352, Q_GW352, Q_GE352, Q_NB340_352, Q_NB352_340, Q_NB341_352, Q_NB352_341, Q_NB346_352, Q_NB352_346, Q_NB347_352, Q_NB352_347, z_BK353, Q_GW353, Q_GE353, Q_NB340_353, Q_NB353_340, Q_NB341_353, Q_NB353_341, Q_NB346_353, Q_NB353_346, Q_NB347_353, Q_NB353_347, fun h0_ => absurd ((hoff 8 (by kernel_rfl)).symm.trans h0_) (by decide), fun h0_ => absurd ((hoff 9 (by kernel_rfl)).symm.trans h0_) (by decide), Q_X2_, fun _ => rfl, Q_X6_, Q_X7_⟩
            refine steps_cons ?_ ?_
            · rintro b a w' ⟨b_t348, b_t349, b_t350, b_t351, gb352, gb353, m2_, m5_, m6_, m7_, ha, Q_BK340, Q_BK341, Q_BK346, Q_BK347, Q_HB, Q_NB353_352, Q_NB352_353, Q_HF_t348, Q_HF_t349, Q_HF_t350, Q_HF_t351, Q_BK352, Q_GW352, Q_GE352, Q_NB340_352, Q_NB352_340, Q_NB341_352, Q_NB352_341, Q_NB346_352, Q_NB352_346, Q_NB347_352, Q_NB352_347, Q_BK353, Q_GW353, Q_GE353, Q_NB340_353, Q_NB353_340, Q_NB341_353, Q_NB353_341, Q_NB346_353, Q_NB353_346, Q_NB347_353, Q_NB353_347, Q_BK352_e8, Q_BK353_e9, Q_X2_, Q_X5_, Q_X6_, Q_X7_⟩ hb_ hon hoff
              refine ⟨_, rfl, fun K hK => ?_⟩
              replace ha := Aside0.mk ha
              have BK340 := Aside0.mk Q_BK340
              have BK341 := Aside0.mk Q_BK341
              have BK346 := Aside0.mk Q_BK346
              have BK347 := Aside0.mk Q_BK347
              have HB := Aside0.mk Q_HB
              refine box_step ?hg (N := 9) ?hd (cs := #[.float .f64 0, .float .f64 0]) (t := 34) ?hr ?_; (case hd => rfl); (case hg => rfl); (case hr => first | (go_simp; done) | (go_simp; rfl))
              intro gb352 hg w60 hbox hb
              have n0_ := Aside0.mk (blk_below (g := gb340) (o := .cells #[.float .f64 b_t336, .float .f64 b_t337] 34 (0, 0)) (by (with_reducible repeat (first | refine blk_drewN ?_ _ | refine blk_drew ?_ | refine blk_alloc ?_ _)); exact BK340.out) hb)
              have n1_ := Aside0.mk (blk_below (g := gb341) (o := .cells #[.float .f64 b_t338, .float .f64 b_t339] 34 (0, 0)) (by (with_reducible repeat (first | refine blk_drewN ?_ _ | refine blk_drew ?_ | refine blk_alloc ?_ _)); exact BK341.out) hb)
              have n2_ := Aside0.mk (blk_below (g := gb346) (o := .cells #[.float .f64 b_t342, .float .f64 b_t343] 34 (0, 0)) (by (with_reducible repeat (first | refine blk_drewN ?_ _ | refine blk_drew ?_ | refine blk_alloc ?_ _)); exact BK346.out) hb)
              have n3_ := Aside0.mk (blk_below (g := gb347) (o := .cells #[.float .f64 b_t344, .float .f64 b_t345] 34 (0, 0)) (by (with_reducible repeat (first | refine blk_drewN ?_ _ | refine blk_drew ?_ | refine blk_alloc ?_ _)); exact BK347.out) hb)
              have n4_ := Aside0.mk (below_step (by repeat (first | (with_reducible first | exact HB.out | apply below_alloc | apply pw_below_drewN | apply below_drew1) | exact HB.out)) hb)
              have n5_ := Aside0.mk (hbox)
              have n6_ := Aside0.mk ((by rw [hg]; exact (below_size (by repeat (first | (with_reducible first | exact HB.out | apply below_alloc | apply pw_below_drewN | apply below_drew1) | exact HB.out))) : w.heap.size ≤ gb352))
              have n7_ := Aside0.mk ((by rw [hg]; exact (below_size (by repeat (first | (with_reducible first | exact HB.out | apply below_alloc | apply pw_below_drewN | apply below_drew1) | exact HB.out))) : w.heap.size ≤ gb352))
              have n8_ := Aside0.mk ((by rw [hg]; exact Nat.ne_of_lt (blk_lt (g := gb340) (o := .cells #[.float .f64 b_t336, .float .f64 b_t337] 34 (0, 0)) (by (with_reducible repeat (first | refine blk_drewN ?_ _ | refine blk_drew ?_ | refine blk_alloc ?_ _)); exact BK340.out)) : gb340 ≠ gb352))
              have n9_ := Aside0.mk ((by rw [hg]; exact Nat.ne_of_gt (blk_lt (g := gb340) (o := .cells #[.float .f64 b_t336, .float .f64 b_t337] 34 (0, 0)) (by (with_reducible repeat (first | refine blk_drewN ?_ _ | refine blk_drew ?_ | refine blk_alloc ?_ _)); exact BK340.out)) : gb352 ≠ gb340))
              have n10_ := Aside0.mk ((by rw [hg]; exact Nat.ne_of_lt (blk_lt (g := gb341) (o := .cells #[.float .f64 b_t338, .float .f64 b_t339] 34 (0, 0)) (by (with_reducible repeat (first | refine blk_drewN ?_ _ | refine blk_drew ?_ | refine blk_alloc ?_ _)); exact BK341.out)) : gb341 ≠ gb352))
              have n11_ := Aside0.mk ((by rw [hg]; exact Nat.ne_of_gt (blk_lt (g := gb341) (o := .cells #[.float .f64 b_t338, .float .f64 b_t339] 34 (0, 0)) (by (with_reducible repeat (first | refine blk_drewN ?_ _ | refine blk_drew ?_ | refine blk_alloc ?_ _)); exact BK341.out)) : gb352 ≠ gb341))
              have n12_ := Aside0.mk ((by rw [hg]; exact Nat.ne_of_lt (blk_lt (g := gb346) (o := .cells #[.float .f64 b_t342, .float .f64 b_t343] 34 (0, 0)) (by (with_reducible repeat (first | refine blk_drewN ?_ _ | refine blk_drew ?_ | refine blk_alloc ?_ _)); exact BK346.out)) : gb346 ≠ gb352))
              have n13_ := Aside0.mk ((by rw [hg]; exact Nat.ne_of_gt (blk_lt (g := gb346) (o := .cells #[.float .f64 b_t342, .float .f64 b_t343] 34 (0, 0)) (by (with_reducible repeat (first | refine blk_drewN ?_ _ | refine blk_drew ?_ | refine blk_alloc ?_ _)); exact BK346.out)) : gb352 ≠ gb346))
              have n14_ := Aside0.mk ((by rw [hg]; exact Nat.ne_of_lt (blk_lt (g := gb347) (o := .cells #[.float .f64 b_t344, .float .f64 b_t345] 34 (0, 0)) (by (with_reducible repeat (first | refine blk_drewN ?_ _ | refine blk_drew ?_ | refine blk_alloc ?_ _)); exact BK347.out)) : gb347 ≠ gb352))
              have n15_ := Aside0.mk ((by rw [hg]; exact Nat.ne_of_gt (blk_lt (g := gb347) (o := .cells #[.float .f64 b_t344, .float .f64 b_t345] 34 (0, 0)) (by (with_reducible repeat (first | refine blk_drewN ?_ _ | refine blk_drew ?_ | refine blk_alloc ?_ _)); exact BK347.out)) : gb352 ≠ gb347))
              have z_NB353_352 := fun (h0_ : up b 6 6 = true) (h1_ : up b 6 7 = true) => (show gb353 ≠ gb352 from (by cases hq_ : b 9 with | false => exact ((by rw [hg]; exact Nat.ne_of_lt (blk_lt (g := gb353) (o := .cells #[.float .f64 0, .float .f64 0] 34 (0, 0)) (by (with_reducible repeat (first | refine blk_drewN ?_ _ | refine blk_drew ?_ | refine blk_alloc ?_ _)); exact (Q_BK353 h1_ hq_))) : gb353 ≠ gb352)) | true => exact ((by rw [hg]; exact Nat.ne_of_lt (blk_lt (g := gb353) (o := .cells #[.float .f64 b_t350, .float .f64 b_t351] 34 (0, 0)) (by (with_reducible repeat (first | refine blk_drewN ?_ _ | refine blk_drew ?_ | refine blk_alloc ?_ _)); exact (Q_BK353_e9 hq_))) : gb353 ≠ gb352))))
              have z_NB352_353 := fun (h0_ : up b 6 6 = true) (h1_ : up b 6 7 = true) => (show gb352 ≠ gb353 from (by cases hq_ : b 9 with | false => exact ((by rw [hg]; exact Nat.ne_of_gt (blk_lt (g := gb353) (o := .cells #[.float .f64 0, .float .f64 0] 34 (0, 0)) (by (with_reducible repeat (first | refine blk_drewN ?_ _ | refine blk_drew ?_ | refine blk_alloc ?_ _)); exact (Q_BK353 h1_ hq_))) : gb352 ≠ gb353)) | true => exact ((by rw [hg]; exact Nat.ne_of_gt (blk_lt (g := gb353) (o := .cells #[.float .f64 b_t350, .float .f64 b_t351] 34 (0, 0)) (by (with_reducible repeat (first | refine blk_drewN ?_ _ | refine blk_drew ?_ | refine blk_alloc ?_ _)); exact (Q_BK353_e9 hq_))) : gb352 ≠ gb353))))
              have z_BK353 := fun (h0_ : b 7 = true) (h1_ : b 9 = false) => (show w60.heap[gb353]? = some (.cells #[.float .f64 0, .float .f64 0] 34 (0, 0)) from by first | exact (blk_below (g := gb353) (o := .cells #[.float .f64 0, .float .f64 0] 34 (0, 0)) (by (with_reducible repeat (first | refine blk_drewN ?_ _ | refine blk_drew ?_ | refine blk_alloc ?_ _)); exact (Q_BK353 h0_ h1_)) hb))
              clear BK340
              clear BK341
              clear BK346
              clear BK347
              clear HB
              have BK340 := n0_
              have BK341 := n1_
              have BK346 := n2_
              have BK347 := n3_
              have HB := n4_
              have BK352 := n5_
              have GW352 := n6_
              have GE352 := n7_
              have NB340_352 := n8_
              have NB352_340 := n9_
              have NB341_352 := n10_
              have NB352_341 := n11_
              have NB346_352 := n12_
              have NB352_346 := n13_
              have NB347_352 := n14_
              have NB352_347 := n15_
              clear n0_ n1_ n2_ n3_ n4_ n5_ n6_ n7_ n8_ n9_ n10_ n11_ n12_ n13_ n14_ n15_
              clear hb hbox hg
              refine hK.out _ _ ⟨b_t348, b_t349, b_t350, b_t351, gb352, gb353, m2_, m5_, (.pointer (some ⟨gb352, 0, none⟩)), m7_, (by rw [ha.out]; exact putSel_upk 6 hb_ rfl rfl rfl), (by (with_reducible repeat (first | refine blk_drewN ?_ _ | refine blk_drew ?_ | refine blk_alloc ?_ _)); exact BK340.out), (by (with_reducible repeat (first | refine blk_drewN ?_ _ | refine blk_drew ?_ | refine blk_alloc ?_ _)); exact BK341.out), (by (with_reducible repeat (first | refine blk_drewN ?_ _ | refine blk_drew ?_ | refine blk_alloc ?_ _)); exact BK346.out), (by (with_reducible repeat (first | refine blk_drewN ?_ _ | refine blk_drew ?_ | refine blk_alloc ?_ _)); exact BK347.out), (by repeat (first | (with_reducible first | exact HB.out | apply below_alloc | apply pw_below_drewN | apply below_drew1) | exact HB.out)), z_NB353_352, z_NB352_353, Q_HF_t348, Q_HF_t349, Q_HF_t350, Q_HF_t351, fun _ _ => (by (with_reducible repeat (first | refine blk_drewN ?_ _ | refine blk_drew ?_ | refine blk_alloc ?_ _)); exact BK352.out), fun _ => GW352.out, fun _ => GE352.out, fun _ => NB340_352.out, fun _ => NB352_340.out, fun _ => NB341_352.out, fun _ => NB352_341.out, fun _ => NB346_352.out, fun _ => NB352_346.out, fun _ => NB347_352.out, fun _ => NB352_347.out, z_BK353, Q_GW353, Q_GE353, Q_NB340_353, Q_NB353_340, Q_NB341_353, Q_NB353_341, Q_NB346_353, Q_NB353_346, Q_NB347_353, Q_NB353_347, fun h0_ => absurd ((hoff 8 (by kernel_rfl)).symm.trans h0_) (by decide), fun h0_ => absurd ((hoff 9 (by kernel_rfl)).symm.trans h0_) (by decide), Q_X2_, Q_X5_, fun _ => rfl, Q_X7_⟩
            refine steps_cons ?_ ?_
            · rintro b a w' ⟨b_t348, b_t349, b_t350, b_t351, gb352, gb353, m2_, m5_, m6_, m7_, ha, Q_BK340, Q_BK341, Q_BK346, Q_BK347, Q_HB, Q_NB353_352, Q_NB352_353, Q_HF_t348, Q_HF_t349, Q_HF_t350, Q_HF_t351, Q_BK352, Q_GW352, Q_GE352, Q_NB340_352, Q_NB352_340, Q_NB341_352, Q_NB352_341, Q_NB346_352, Q_NB352_346, Q_NB347_352, Q_NB352_347, Q_BK353, Q_GW353, Q_GE353, Q_NB340_353, Q_NB353_340, Q_NB341_353, Q_NB353_341, Q_NB346_353, Q_NB353_346, Q_NB347_353, Q_NB353_347, Q_BK352_e8, Q_BK353_e9, Q_X2_, Q_X5_, Q_X6_, Q_X7_⟩ hb_ hon hoff
              refine ⟨_, rfl, fun K hK => ?_⟩
              replace ha := Aside0.mk ha
              have BK340 := Aside0.mk Q_BK340
              have BK341 := Aside0.mk Q_BK341
              have BK346 := Aside0.mk Q_BK346
              have BK347 := Aside0.mk Q_BK347
              have HB := Aside0.mk Q_HB
              refine box_step ?hg (N := 10) ?hd (cs := #[.float .f64 0, .float .f64 0]) (t := 34) ?hr ?_; (case hd => rfl); (case hg => rfl); (case hr => first | (go_simp; done) | (go_simp; rfl))
              intro gb353 hg w60 hbox hb
              have n0_ := Aside0.mk (blk_below (g := gb340) (o := .cells #[.float .f64 b_t336, .float .f64 b_t337] 34 (0, 0)) (by (with_reducible repeat (first | refine blk_drewN ?_ _ | refine blk_drew ?_ | refine blk_alloc ?_ _)); exact BK340.out) hb)
              have n1_ := Aside0.mk (blk_below (g := gb341) (o := .cells #[.float .f64 b_t338, .float .f64 b_t339] 34 (0, 0)) (by (with_reducible repeat (first | refine blk_drewN ?_ _ | refine blk_drew ?_ | refine blk_alloc ?_ _)); exact BK341.out) hb)
              have n2_ := Aside0.mk (blk_below (g := gb346) (o := .cells #[.float .f64 b_t342, .float .f64 b_t343] 34 (0, 0)) (by (with_reducible repeat (first | refine blk_drewN ?_ _ | refine blk_drew ?_ | refine blk_alloc ?_ _)); exact BK346.out) hb)
              have n3_ := Aside0.mk (blk_below (g := gb347) (o := .cells #[.float .f64 b_t344, .float .f64 b_t345] 34 (0, 0)) (by (with_reducible repeat (first | refine blk_drewN ?_ _ | refine blk_drew ?_ | refine blk_alloc ?_ _)); exact BK347.out) hb)
              have n4_ := Aside0.mk (below_step (by repeat (first | (with_reducible first | exact HB.out | apply below_alloc | apply pw_below_drewN | apply below_drew1) | exact HB.out)) hb)
              have n5_ := Aside0.mk (hbox)
              have n6_ := Aside0.mk ((by rw [hg]; exact (below_size (by repeat (first | (with_reducible first | exact HB.out | apply below_alloc | apply pw_below_drewN | apply below_drew1) | exact HB.out))) : w.heap.size ≤ gb353))
              have n7_ := Aside0.mk ((by rw [hg]; exact (below_size (by repeat (first | (with_reducible first | exact HB.out | apply below_alloc | apply pw_below_drewN | apply below_drew1) | exact HB.out))) : w.heap.size ≤ gb353))
              have n8_ := Aside0.mk ((by rw [hg]; exact Nat.ne_of_lt (blk_lt (g := gb340) (o := .cells #[.float .f64 b_t336, .float .f64 b_t337] 34 (0, 0)) (by (with_reducible repeat (first | refine blk_drewN ?_ _ | refine blk_drew ?_ | refine blk_alloc ?_ _)); exact BK340.out)) : gb340 ≠ gb353))
              have n9_ := Aside0.mk ((by rw [hg]; exact Nat.ne_of_gt (blk_lt (g := gb340) (o := .cells #[.float .f64 b_t336, .float .f64 b_t337] 34 (0, 0)) (by (with_reducible repeat (first | refine blk_drewN ?_ _ | refine blk_drew ?_ | refine blk_alloc ?_ _)); exact BK340.out)) : gb353 ≠ gb340))
              have n10_ := Aside0.mk ((by rw [hg]; exact Nat.ne_of_lt (blk_lt (g := gb341) (o := .cells #[.float .f64 b_t338, .float .f64 b_t339] 34 (0, 0)) (by (with_reducible repeat (first | refine blk_drewN ?_ _ | refine blk_drew ?_ | refine blk_alloc ?_ _)); exact BK341.out)) : gb341 ≠ gb353))
              have n11_ := Aside0.mk ((by rw [hg]; exact Nat.ne_of_gt (blk_lt (g := gb341) (o := .cells #[.float .f64 b_t338, .float .f64 b_t339] 34 (0, 0)) (by (with_reducible repeat (first | refine blk_drewN ?_ _ | refine blk_drew ?_ | refine blk_alloc ?_ _)); exact BK341.out)) : gb353 ≠ gb341))
              have n12_ := Aside0.mk ((by rw [hg]; exact Nat.ne_of_lt (blk_lt (g := gb346) (o := .cells #[.float .f64 b_t342, .float .f64 b_t343] 34 (0, 0)) (by (with_reducible repeat (first | refine blk_drewN ?_ _ | refine blk_drew ?_ | refine blk_alloc ?_ _)); exact BK346.out)) : gb346 ≠ gb353))
              have n13_ := Aside0.mk ((by rw [hg]; exact Nat.ne_of_gt (blk_lt (g := gb346) (o := .cells #[.float .f64 b_t342, .float .f64 b_t343] 34 (0, 0)) (by (with_reducible repeat (first | refine blk_drewN ?_ _ | refine blk_drew ?_ | refine blk_alloc ?_ _)); exact BK346.out)) : gb353 ≠ gb346))
              have n14_ := Aside0.mk ((by rw [hg]; exact Nat.ne_of_lt (blk_lt (g := gb347) (o := .cells #[.float .f64 b_t344, .float .f64 b_t345] 34 (0, 0)) (by (with_reducible repeat (first | refine blk_drewN ?_ _ | refine blk_drew ?_ | refine blk_alloc ?_ _)); exact BK347.out)) : gb347 ≠ gb353))
              have n15_ := Aside0.mk ((by rw [hg]; exact Nat.ne_of_gt (blk_lt (g := gb347) (o := .cells #[.float .f64 b_t344, .float .f64 b_t345] 34 (0, 0)) (by (with_reducible repeat (first | refine blk_drewN ?_ _ | refine blk_drew ?_ | refine blk_alloc ?_ _)); exact BK347.out)) : gb353 ≠ gb347))
              have z_NB353_352 := fun (h0_ : up b 7 6 = true) (h1_ : up b 7 7 = true) => (show gb353 ≠ gb352 from (by cases hq_ : b 8 with | false => exact ((by rw [hg]; exact Nat.ne_of_gt (blk_lt (g := gb352) (o := .cells #[.float .f64 0, .float .f64 0] 34 (0, 0)) (by (with_reducible repeat (first | refine blk_drewN ?_ _ | refine blk_drew ?_ | refine blk_alloc ?_ _)); exact (Q_BK352 h0_ hq_))) : gb353 ≠ gb352)) | true => exact ((by rw [hg]; exact Nat.ne_of_gt (blk_lt (g := gb352) (o := .cells #[.float .f64 b_t348, .float .f64 b_t349] 34 (0, 0)) (by (with_reducible repeat (first | refine blk_drewN ?_ _ | refine blk_drew ?_ | refine blk_alloc ?_ _)); exact (Q_BK352_e8 hq_))) : gb353 ≠ gb352))))
              have z_NB352_353 := fun (h0_ : up b 7 6 = true) (h1_ : up b 7 7 = true) => (show gb352 ≠ gb353 from (by cases hq_ : b 8 with | false => exact ((by rw [hg]; exact Nat.ne_of_lt (blk_lt (g := gb352) (o := .cells #[.float .f64 0, .float .f64 0] 34 (0, 0)) (by (with_reducible repeat (first | refine blk_drewN ?_ _ | refine blk_drew ?_ | refine blk_alloc ?_ _)); exact (Q_BK352 h0_ hq_))) : gb352 ≠ gb353)) | true => exact ((by rw [hg]; exact Nat.ne_of_lt (blk_lt (g := gb352) (o := .cells #[.float .f64 b_t348, .float .f64 b_t349] 34 (0, 0)) (by (with_reducible repeat (first | refine blk_drewN ?_ _ | refine blk_drew ?_ | refine blk_alloc ?_ _)); exact (Q_BK352_e8 hq_))) : gb352 ≠ gb353))))
              have z_BK352 := fun (h0_ : b 6 = true) (h1_ : b 8 = false) => (show w60.heap[gb352]? = some (.cells #[.float .f64 0, .float .f64 0] 34 (0, 0)) from by first | exact (blk_below (g := gb352) (o := .cells #[.float .f64 0, .float .f64 0] 34 (0, 0)) (by (with_reducible repeat (first | refine blk_drewN ?_ _ | refine blk_drew ?_ | refine blk_alloc ?_ _)); exact (Q_BK352 h0_ h1_)) hb))
              clear BK340
              clear BK341
              clear BK346
              clear BK347
              clear HB
              have BK340 := n0_
              have BK341 := n1_
              have BK346 := n2_
              have BK347 := n3_
              have HB := n4_
              have BK353 := n5_
              have GW353 := n6_
              have GE353 := n7_
              have NB340_353 := n8_
              have NB353_340 := n9_
              have NB341_353 := n10_
              have NB353_341 := n11_
              have NB346_353 := n12_
              have NB353_346 := n13_
              have NB347_353 := n14_
              have NB353_347 := n15_
              clear n0_ n1_ n2_ n3_ n4_ n5_ n6_ n7_ n8_ n9_ n10_ n11_ n12_ n13_ n14_ n15_
              clear hb hbox hg
              refine hK.out _ _ ⟨b_t348, b_t349, b_t350, b_t351, gb352, gb353, m2_, m5_, m6_, (.pointer (some ⟨gb353, 0, none⟩)), (by rw [ha.out]; exact putSel_upk 7 hb_ rfl rfl rfl), (by (with_reducible repeat (first | refine blk_drewN ?_ _ | refine blk_drew ?_ | refine blk_alloc ?_ _)); exact BK340.out), (by (with_reducible repeat (first | refine blk_drewN ?_ _ | refine blk_drew ?_ | refine blk_alloc ?_ _)); exact BK341.out), (by (with_reducible repeat (first | refine blk_drewN ?_ _ | refine blk_drew ?_ | refine blk_alloc ?_ _)); exact BK346.out), (by (with_reducible repeat (first | refine blk_drewN ?_ _ | refine blk_drew ?_ | refine blk_alloc ?_ _)); exact BK347.out), (by repeat (first | (with_reducible first | exact HB.out | apply below_alloc | apply pw_below_drewN | apply below_drew1) | exact HB.out)), z_NB353_352, z_NB352_353, Q_HF_t348, Q_HF_t349, Q_HF_t350, Q_HF_t351, z_BK352, Q_GW352, Q_GE352, Q_NB340_352, Q_NB352_340, Q_NB341_352, Q_NB352_341, Q_NB346_352, Q_NB352_346, Q_NB347_352, Q_NB352_347, fun _ _ => (by (with_reducible repeat (first | refine blk_drewN ?_ _ | refine blk_drew ?_ | refine blk_alloc ?_ _)); exact BK353.out), fun _ => GW353.out, fun _ => GE353.out, fun _ => NB340_353.out, fun _ => NB353_340.out, fun _ => NB341_353.out, fun _ => NB353_341.out, fun _ => NB346_353.out, fun _ => NB353_346.out, fun _ => NB347_353.out, fun _ => NB353_347.out, fun h0_ => absurd ((hoff 8 (by kernel_rfl)).symm.trans h0_) (by decide), fun h0_ => absurd ((hoff 9 (by kernel_rfl)).symm.trans h0_) (by decide), Q_X2_, Q_X5_, Q_X6_, fun _ => rfl⟩
            refine steps_cons ?_ ?_
            · rintro b a w' ⟨b_t348, b_t349, b_t350, b_t351, gb352, gb353, m2_, m5_, m6_, m7_, ha, Q_BK340, Q_BK341, Q_BK346, Q_BK347, Q_HB, Q_NB353_352, Q_NB352_353, Q_HF_t348, Q_HF_t349, Q_HF_t350, Q_HF_t351, Q_BK352, Q_GW352, Q_GE352, Q_NB340_352, Q_NB352_340, Q_NB341_352, Q_NB352_341, Q_NB346_352, Q_NB352_346, Q_NB347_352, Q_NB352_347, Q_BK353, Q_GW353, Q_GE353, Q_NB340_353, Q_NB353_340, Q_NB341_353, Q_NB353_341, Q_NB346_353, Q_NB353_346, Q_NB347_353, Q_NB353_347, Q_BK352_e8, Q_BK353_e9, Q_X2_, Q_X5_, Q_X6_, Q_X7_⟩ hb_ hon hoff
              refine ⟨_, rfl, fun K hK => ?_⟩
              have e9 : a.tmps[9]? = some (m6_) := by rw [ha]; exact putSel_on (e := (6, 9, m6_)) 6 rfl rfl (hon 6 (by kernel_rfl)) rfl
              rw [Q_X6_ (hon 6 (by kernel_rfl))] at e9
              have e67 : a.tmps[67]? = some (m2_) := by rw [ha]; exact putSel_on (e := (2, 67, m2_)) 2 rfl rfl (hon 2 (by kernel_rfl)) rfl
              rw [Q_X2_ (hon 2 (by kernel_rfl))] at e67
              replace ha := Aside0.mk ha
              have BK340 := Aside0.mk Q_BK340
              have BK341 := Aside0.mk Q_BK341
              have BK346 := Aside0.mk Q_BK346
              have BK347 := Aside0.mk Q_BK347
              have HB := Aside0.mk Q_HB
              have NB353_352 := Aside0.mk (Q_NB353_352 (hon 6 (by kernel_rfl)) (hon 7 (by kernel_rfl)))
              have NB352_353 := Aside0.mk (Q_NB352_353 (hon 6 (by kernel_rfl)) (hon 7 (by kernel_rfl)))
              have HF_t348 := Aside0.mk (Q_HF_t348 (hon 2 (by kernel_rfl)))
              have HF_t349 := Aside0.mk (Q_HF_t349 (hon 2 (by kernel_rfl)))
              have HF_t350 := Aside0.mk (Q_HF_t350 (hon 5 (by kernel_rfl)))
              have HF_t351 := Aside0.mk (Q_HF_t351 (hon 5 (by kernel_rfl)))
              have BK352 := Aside0.mk (Q_BK352 (hon 6 (by kernel_rfl)) hb_)
              have GW352 := Aside0.mk (Q_GW352 (hon 6 (by kernel_rfl)))
              have GE352 := Aside0.mk (Q_GE352 (hon 6 (by kernel_rfl)))
              have NB340_352 := Aside0.mk (Q_NB340_352 (hon 6 (by kernel_rfl)))
              have NB352_340 := Aside0.mk (Q_NB352_340 (hon 6 (by kernel_rfl)))
              have NB341_352 := Aside0.mk (Q_NB341_352 (hon 6 (by kernel_rfl)))
              have NB352_341 := Aside0.mk (Q_NB352_341 (hon 6 (by kernel_rfl)))
              have NB346_352 := Aside0.mk (Q_NB346_352 (hon 6 (by kernel_rfl)))
              have NB352_346 := Aside0.mk (Q_NB352_346 (hon 6 (by kernel_rfl)))
              have NB347_352 := Aside0.mk (Q_NB347_352 (hon 6 (by kernel_rfl)))
              have NB352_347 := Aside0.mk (Q_NB352_347 (hon 6 (by kernel_rfl)))
              have BK353 := Aside0.mk (Q_BK353 (hon 7 (by kernel_rfl)) (hoff 9 (by kernel_rfl)))
              have GW353 := Aside0.mk (Q_GW353 (hon 7 (by kernel_rfl)))
              have GE353 := Aside0.mk (Q_GE353 (hon 7 (by kernel_rfl)))
              have NB340_353 := Aside0.mk (Q_NB340_353 (hon 7 (by kernel_rfl)))
              have NB353_340 := Aside0.mk (Q_NB353_340 (hon 7 (by kernel_rfl)))
              have NB341_353 := Aside0.mk (Q_NB341_353 (hon 7 (by kernel_rfl)))
              have NB353_341 := Aside0.mk (Q_NB353_341 (hon 7 (by kernel_rfl)))
              have NB346_353 := Aside0.mk (Q_NB346_353 (hon 7 (by kernel_rfl)))
              have NB353_346 := Aside0.mk (Q_NB353_346 (hon 7 (by kernel_rfl)))
              have NB347_353 := Aside0.mk (Q_NB347_353 (hon 7 (by kernel_rfl)))
              have NB353_347 := Aside0.mk (Q_NB353_347 (hon 7 (by kernel_rfl)))
              have hF_t348 := HF_t348.out
              have hF_t349 := HF_t349.out
              have hF_t350 := HF_t350.out
              have hF_t351 := HF_t351.out
              have hs65 : w'.cell? ⟨gb352, 0, none⟩ = some (.float .f64 0) := (blk_cell BK352.out 0).trans rfl
              have hfs65 := blk_frozen BK352.out 0
              have hns65_0 := NB340_352.out
              have hns65_1 := NB341_352.out
              have hns65_2 := NB346_352.out
              have hns65_3 := NB347_352.out
              have hns65_5 := NB353_352.out
              have hms65_0 := NB352_340.out
              have hms65_1 := NB352_341.out
              have hms65_2 := NB352_346.out
              have hms65_3 := NB352_347.out
              have hms65_5 := NB352_353.out
              have hs66 : w'.cell? ⟨gb352, 1, none⟩ = some (.float .f64 0) := (blk_cell BK352.out 1).trans rfl
              have hfs66 := blk_frozen BK352.out 1
              have hns66_0 := NB340_352.out
              have hns66_1 := NB341_352.out
              have hns66_2 := NB346_352.out
              have hns66_3 := NB347_352.out
              have hns66_5 := NB353_352.out
              have hms66_0 := NB352_340.out
              have hms66_1 := NB352_341.out
              have hms66_2 := NB352_346.out
              have hms66_3 := NB352_347.out
              have hms66_5 := NB352_353.out
              refine skip_ (w1 := ?_) (by rfl) rfl ?_ ?_
              rotate_left
              · go_simp
                rfl
              refine hK.out _ _ ⟨b_t348, b_t349, b_t350, b_t351, gb352, gb353, m2_, m5_, m6_, m7_, (by rw [ha.out]; exact putSel_none (v := undef) rfl), (by (with_reducible repeat (first | refine blk_drewN ?_ _ | refine blk_drew ?_ | refine blk_alloc ?_ _)); refine blk_far ?_ NB340_352.out _; (with_reducible repeat (first | refine blk_drewN ?_ _ | refine blk_drew ?_ | refine blk_alloc ?_ _)); refine blk_far ?_ NB340_352.out _; (with_reducible repeat (first | refine blk_drewN ?_ _ | refine blk_drew ?_ | refine blk_alloc ?_ _)); exact BK340.out), (by (with_reducible repeat (first | refine blk_drewN ?_ _ | refine blk_drew ?_ | refine blk_alloc ?_ _)); refine blk_far ?_ NB341_352.out _; (with_reducible repeat (first | refine blk_drewN ?_ _ | refine blk_drew ?_ | refine blk_alloc ?_ _)); refine blk_far ?_ NB341_352.out _; (with_reducible repeat (first | refine blk_drewN ?_ _ | refine blk_drew ?_ | refine blk_alloc ?_ _)); exact BK341.out), (by (with_reducible repeat (first | refine blk_drewN ?_ _ | refine blk_drew ?_ | refine blk_alloc ?_ _)); refine blk_far ?_ NB346_352.out _; (with_reducible repeat (first | refine blk_drewN ?_ _ | refine blk_drew ?_ | refine blk_alloc ?_ _)); refine blk_far ?_ NB346_352.out _; (with_reducible repeat (first | refine blk_drewN ?_ _ | refine blk_drew ?_ | refine blk_alloc ?_ _)); exact BK346.out), (by (with_reducible repeat (first | refine blk_drewN ?_ _ | refine blk_drew ?_ | refine blk_alloc ?_ _)); refine blk_far ?_ NB347_352.out _; (with_reducible repeat (first | refine blk_drewN ?_ _ | refine blk_drew ?_ | refine blk_alloc ?_ _)); refine blk_far ?_ NB347_352.out _; (with_reducible repeat (first | refine blk_drewN ?_ _ | refine blk_drew ?_ | refine blk_alloc ?_ _)); exact BK347.out), (by repeat (first | (with_reducible first | exact HB.out | apply below_alloc | apply pw_below_drewN | apply below_drew1 | refine below_set ?_ GE352.out) | exact HB.out)), fun _ _ => NB353_352.out, fun _ _ => NB352_353.out, fun _ => hF_t348, fun _ => hF_t349, fun _ => hF_t350, fun _ => hF_t351, fun _ h1_ => absurd ((up_self b 8).symm.trans h1_) (by decide), fun _ => GW352.out, fun _ => GE352.out, fun _ => NB340_352.out, fun _ => NB352_340.out, fun _ => NB341_352.out, fun _ => NB352_341.out, fun _ => NB346_352.out, fun _ => NB352_346.out, fun _ => NB347_352.out, fun _ => NB352_347.out, fun _ _ => (by (with_reducible repeat (first | refine blk_drewN ?_ _ | refine blk_drew ?_ | refine blk_alloc ?_ _)); refine blk_far ?_ NB353_352.out _; (with_reducible repeat (first | refine blk_drewN ?_ _ | refine blk_drew ?_ | refine blk_alloc ?_ _)); refine blk_far ?_ NB353_352.out _; (with_reducible repeat (first | refine blk_drewN ?_ _ | refine blk_drew ?_ | refine blk_alloc ?_ _)); exact BK353.out), fun _ => GW353.out, fun _ => GE353.out, fun _ => NB340_353.out, fun _ => NB353_340.out, fun _ => NB341_353.out, fun _ => NB353_341.out, fun _ => NB346_353.out, fun _ => NB353_346.out, fun _ => NB347_353.out, fun _ => NB353_347.out, fun _ => (by (with_reducible repeat (first | refine blk_drewN ?_ _ | refine blk_drew ?_ | refine blk_alloc ?_ _)); refine blk_put (cs := #[.float .f64 b_t348, .float .f64 0]) ?_ 1 _ rfl; (with_reducible repeat (first | refine blk_drewN ?_ _ | refine blk_drew ?_ | refine blk_alloc ?_ _)); refine blk_put (cs := #[.float .f64 0, .float .f64 0]) ?_ 0 _ rfl; (with_reducible repeat (first | refine blk_drewN ?_ _ | refine blk_drew ?_ | refine blk_alloc ?_ _)); exact BK352.out), fun h0_ => absurd ((hoff 9 (by kernel_rfl)).symm.trans h0_) (by decide), Q_X2_, Q_X5_, Q_X6_, Q_X7_⟩
            refine steps_cons ?_ ?_
            · rintro b a w' ⟨b_t348, b_t349, b_t350, b_t351, gb352, gb353, m2_, m5_, m6_, m7_, ha, Q_BK340, Q_BK341, Q_BK346, Q_BK347, Q_HB, Q_NB353_352, Q_NB352_353, Q_HF_t348, Q_HF_t349, Q_HF_t350, Q_HF_t351, Q_BK352, Q_GW352, Q_GE352, Q_NB340_352, Q_NB352_340, Q_NB341_352, Q_NB352_341, Q_NB346_352, Q_NB352_346, Q_NB347_352, Q_NB352_347, Q_BK353, Q_GW353, Q_GE353, Q_NB340_353, Q_NB353_340, Q_NB341_353, Q_NB353_341, Q_NB346_353, Q_NB353_346, Q_NB347_353, Q_NB353_347, Q_BK352_e8, Q_BK353_e9, Q_X2_, Q_X5_, Q_X6_, Q_X7_⟩ hb_ hon hoff
              refine ⟨_, rfl, fun K hK => ?_⟩
              have e10 : a.tmps[10]? = some (m7_) := by rw [ha]; exact putSel_on (e := (7, 10, m7_)) 7 rfl rfl (hon 7 (by kernel_rfl)) rfl
              rw [Q_X7_ (hon 7 (by kernel_rfl))] at e10
              have e70 : a.tmps[70]? = some (m5_) := by rw [ha]; exact putSel_on (e := (5, 70, m5_)) 5 rfl rfl (hon 5 (by kernel_rfl)) rfl
              rw [Q_X5_ (hon 5 (by kernel_rfl))] at e70
              replace ha := Aside0.mk ha
              have BK340 := Aside0.mk Q_BK340
              have BK341 := Aside0.mk Q_BK341
              have BK346 := Aside0.mk Q_BK346
              have BK347 := Aside0.mk Q_BK347
              have HB := Aside0.mk Q_HB
              have NB353_352 := Aside0.mk (Q_NB353_352 (hon 6 (by kernel_rfl)) (hon 7 (by kernel_rfl)))
              have NB352_353 := Aside0.mk (Q_NB352_353 (hon 6 (by kernel_rfl)) (hon 7 (by kernel_rfl)))
              have HF_t348 := Aside0.mk (Q_HF_t348 (hon 2 (by kernel_rfl)))
              have HF_t349 := Aside0.mk (Q_HF_t349 (hon 2 (by kernel_rfl)))
              have HF_t350 := Aside0.mk (Q_HF_t350 (hon 5 (by kernel_rfl)))
              have HF_t351 := Aside0.mk (Q_HF_t351 (hon 5 (by kernel_rfl)))
              have GW352 := Aside0.mk (Q_GW352 (hon 6 (by kernel_rfl)))
              have GE352 := Aside0.mk (Q_GE352 (hon 6 (by kernel_rfl)))
              have NB340_352 := Aside0.mk (Q_NB340_352 (hon 6 (by kernel_rfl)))
              have NB352_340 := Aside0.mk (Q_NB352_340 (hon 6 (by kernel_rfl)))
              have NB341_352 := Aside0.mk (Q_NB341_352 (hon 6 (by kernel_rfl)))
              have NB352_341 := Aside0.mk (Q_NB352_341 (hon 6 (by kernel_rfl)))
              have NB346_352 := Aside0.mk (Q_NB346_352 (hon 6 (by kernel_rfl)))
              have NB352_346 := Aside0.mk (Q_NB352_346 (hon 6 (by kernel_rfl)))
              have NB347_352 := Aside0.mk (Q_NB347_352 (hon 6 (by kernel_rfl)))
              have NB352_347 := Aside0.mk (Q_NB352_347 (hon 6 (by kernel_rfl)))
              have BK353 := Aside0.mk (Q_BK353 (hon 7 (by kernel_rfl)) hb_)
              have GW353 := Aside0.mk (Q_GW353 (hon 7 (by kernel_rfl)))
              have GE353 := Aside0.mk (Q_GE353 (hon 7 (by kernel_rfl)))
              have NB340_353 := Aside0.mk (Q_NB340_353 (hon 7 (by kernel_rfl)))
              have NB353_340 := Aside0.mk (Q_NB353_340 (hon 7 (by kernel_rfl)))
              have NB341_353 := Aside0.mk (Q_NB341_353 (hon 7 (by kernel_rfl)))
              have NB353_341 := Aside0.mk (Q_NB353_341 (hon 7 (by kernel_rfl)))
              have NB346_353 := Aside0.mk (Q_NB346_353 (hon 7 (by kernel_rfl)))
              have NB353_346 := Aside0.mk (Q_NB353_346 (hon 7 (by kernel_rfl)))
              have NB347_353 := Aside0.mk (Q_NB347_353 (hon 7 (by kernel_rfl)))
              have NB353_347 := Aside0.mk (Q_NB353_347 (hon 7 (by kernel_rfl)))
              have BK352 := Aside0.mk (Q_BK352_e8 (hon 8 (by kernel_rfl)))
              have hF_t348 := HF_t348.out
              have hF_t349 := HF_t349.out
              have hF_t350 := HF_t350.out
              have hF_t351 := HF_t351.out
              have hs67 : w'.cell? ⟨gb353, 0, none⟩ = some (.float .f64 0) := (blk_cell BK353.out 0).trans rfl
              have hfs67 := blk_frozen BK353.out 0
              have hns67_0 := NB340_353.out
              have hns67_1 := NB341_353.out
              have hns67_2 := NB346_353.out
              have hns67_3 := NB347_353.out
              have hns67_4 := NB352_353.out
              have hms67_0 := NB353_340.out
              have hms67_1 := NB353_341.out
              have hms67_2 := NB353_346.out
              have hms67_3 := NB353_347.out
              have hms67_4 := NB353_352.out
              have hs68 : w'.cell? ⟨gb353, 1, none⟩ = some (.float .f64 0) := (blk_cell BK353.out 1).trans rfl
              have hfs68 := blk_frozen BK353.out 1
              have hns68_0 := NB340_353.out
              have hns68_1 := NB341_353.out
              have hns68_2 := NB346_353.out
              have hns68_3 := NB347_353.out
              have hns68_4 := NB352_353.out
              have hms68_0 := NB353_340.out
              have hms68_1 := NB353_341.out
              have hms68_2 := NB353_346.out
              have hms68_3 := NB353_347.out
              have hms68_4 := NB353_352.out
              refine skip_ (w1 := ?_) (by rfl) rfl ?_ ?_
              rotate_left
              · go_simp
                rfl
              refine hK.out _ _ ⟨b_t348, b_t349, b_t350, b_t351, gb352, gb353, m2_, m5_, m6_, m7_, (by rw [ha.out]; exact putSel_none (v := undef) rfl), (by (with_reducible repeat (first | refine blk_drewN ?_ _ | refine blk_drew ?_ | refine blk_alloc ?_ _)); refine blk_far ?_ NB340_353.out _; (with_reducible repeat (first | refine blk_drewN ?_ _ | refine blk_drew ?_ | refine blk_alloc ?_ _)); refine blk_far ?_ NB340_353.out _; (with_reducible repeat (first | refine blk_drewN ?_ _ | refine blk_drew ?_ | refine blk_alloc ?_ _)); exact BK340.out), (by (with_reducible repeat (first | refine blk_drewN ?_ _ | refine blk_drew ?_ | refine blk_alloc ?_ _)); refine blk_far ?_ NB341_353.out _; (with_reducible repeat (first | refine blk_drewN ?_ _ | refine blk_drew ?_ | refine blk_alloc ?_ _)); refine blk_far ?_ NB341_353.out _; (with_reducible repeat (first | refine blk_drewN ?_ _ | refine blk_drew ?_ | refine blk_alloc ?_ _)); exact BK341.out), (by (with_reducible repeat (first | refine blk_drewN ?_ _ | refine blk_drew ?_ | refine blk_alloc ?_ _)); refine blk_far ?_ NB346_353.out _; (with_reducible repeat (first | refine blk_drewN ?_ _ | refine blk_drew ?_ | refine blk_alloc ?_ _)); refine blk_far ?_ NB346_353.out _; (with_reducible repeat (first | refine blk_drewN ?_ _ | refine blk_drew ?_ | refine blk_alloc ?_ _)); exact BK346.out), (by (with_reducible repeat (first | refine blk_drewN ?_ _ | refine blk_drew ?_ | refine blk_alloc ?_ _)); refine blk_far ?_ NB347_353.out _; (with_reducible repeat (first | refine blk_drewN ?_ _ | refine blk_drew ?_ | refine blk_alloc ?_ _)); refine blk_far ?_ NB347_353.out _; (with_reducible repeat (first | refine blk_drewN ?_ _ | refine blk_drew ?_ | refine blk_alloc ?_ _)); exact BK347.out), (by repeat (first | (with_reducible first | exact HB.out | apply below_alloc | apply pw_below_drewN | apply below_drew1 | refine below_set ?_ GE353.out) | exact HB.out)), fun _ _ => NB353_352.out, fun _ _ => NB352_353.out, fun _ => hF_t348, fun _ => hF_t349, fun _ => hF_t350, fun _ => hF_t351, fun _ h1_ => absurd ((hon 8 (by kernel_rfl)).symm.trans h1_) (by decide), fun _ => GW352.out, fun _ => GE352.out, fun _ => NB340_352.out, fun _ => NB352_340.out, fun _ => NB341_352.out, fun _ => NB352_341.out, fun _ => NB346_352.out, fun _ => NB352_346.out, fun _ => NB347_352.out, fun _ => NB352_347.out, fun _ h1_ => absurd ((up_self b 9).symm.trans h1_) (by decide), fun _ => GW353.out, fun _ => GE353.out, fun _ => NB340_353.out, fun _ => NB353_340.out, fun _ => NB341_353.out, fun _ => NB353_341.out, fun _ => NB346_353.out, fun _ => NB353_346.out, fun _ => NB347_353.out, fun _ => NB353_347.out, fun _ => (by (with_reducible repeat (first | refine blk_drewN ?_ _ | refine blk_drew ?_ | refine blk_alloc ?_ _)); refine blk_far ?_ NB352_353.out _; (with_reducible repeat (first | refine blk_drewN ?_ _ | refine blk_drew ?_ | refine blk_alloc ?_ _)); refine blk_far ?_ NB352_353.out _; (with_reducible repeat (first | refine blk_drewN ?_ _ | refine blk_drew ?_ | refine blk_alloc ?_ _)); exact BK352.out), fun _ => (by (with_reducible repeat (first | refine blk_drewN ?_ _ | refine blk_drew ?_ | refine blk_alloc ?_ _)); refine blk_put (cs := #[.float .f64 b_t350, .float .f64 0]) ?_ 1 _ rfl; (with_reducible repeat (first | refine blk_drewN ?_ _ | refine blk_drew ?_ | refine blk_alloc ?_ _)); refine blk_put (cs := #[.float .f64 0, .float .f64 0]) ?_ 0 _ rfl; (with_reducible repeat (first | refine blk_drewN ?_ _ | refine blk_drew ?_ | refine blk_alloc ?_ _)); exact BK353.out), Q_X2_, Q_X5_, Q_X6_, Q_X7_⟩
            exact steps_nil
          rintro b a w68 hall ⟨b_t348, b_t349, b_t350, b_t351, gb352, gb353, m2_, m5_, m6_, m7_, ha, Q_BK340, Q_BK341, Q_BK346, Q_BK347, Q_HB, Q_NB353_352, Q_NB352_353, Q_HF_t348, Q_HF_t349, Q_HF_t350, Q_HF_t351, Q_BK352, Q_GW352, Q_GE352, Q_NB340_352, Q_NB352_340, Q_NB341_352, Q_NB352_341, Q_NB346_352, Q_NB352_346, Q_NB347_352, Q_NB352_347, Q_BK353, Q_GW353, Q_GE353, Q_NB340_353, Q_NB353_340, Q_NB341_353, Q_NB353_341, Q_NB346_353, Q_NB353_346, Q_NB347_353, Q_NB353_347, Q_BK352_e8, Q_BK353_e9, Q_X2_, Q_X5_, Q_X6_, Q_X7_⟩
          clear BK340 BK341 BK346 BK347 HB
          have hb0_ := hall 0 (by kernel_rfl)
          have hb1_ := hall 1 (by kernel_rfl)
          have hb2_ := hall 2 (by kernel_rfl)
          have hb3_ := hall 3 (by kernel_rfl)
          have hb4_ := hall 4 (by kernel_rfl)
          have hb5_ := hall 5 (by kernel_rfl)
          have hb6_ := hall 6 (by kernel_rfl)
          have hb7_ := hall 7 (by kernel_rfl)
          have hb8_ := hall 8 (by kernel_rfl)
          have hb9_ := hall 9 (by kernel_rfl)
          subst ha
          obtain rfl := Q_X2_ hb2_
          obtain rfl := Q_X5_ hb5_
          obtain rfl := Q_X6_ hb6_
          obtain rfl := Q_X7_ hb7_
          simp only [putSel, hb0_, hb1_, hb2_, hb3_, hb4_, hb5_, hb6_, hb7_, hb8_, hb9_, if_true, Act.put, List.setIfInBounds_toArray, List.set_cons_zero, List.set_cons_succ]
          have BK340 := Aside0.mk Q_BK340
          clear Q_BK340
          have BK341 := Aside0.mk Q_BK341
          clear Q_BK341
          have BK346 := Aside0.mk Q_BK346
          clear Q_BK346
          have BK347 := Aside0.mk Q_BK347
          clear Q_BK347
          have HB := Aside0.mk Q_HB
          clear Q_HB
          have NB353_352 := Aside0.mk (Q_NB353_352 hb6_ hb7_)
          clear Q_NB353_352
          have NB352_353 := Aside0.mk (Q_NB352_353 hb6_ hb7_)
          clear Q_NB352_353
          have HF_t348 := Aside0.mk (Q_HF_t348 hb2_)
          clear Q_HF_t348
          have HF_t349 := Aside0.mk (Q_HF_t349 hb2_)
          clear Q_HF_t349
          have HF_t350 := Aside0.mk (Q_HF_t350 hb5_)
          clear Q_HF_t350
          have HF_t351 := Aside0.mk (Q_HF_t351 hb5_)
          clear Q_HF_t351
          clear Q_BK352
          have GW352 := Aside0.mk (Q_GW352 hb6_)
          clear Q_GW352
          have GE352 := Aside0.mk (Q_GE352 hb6_)
          clear Q_GE352
          have NB340_352 := Aside0.mk (Q_NB340_352 hb6_)
          clear Q_NB340_352
          have NB352_340 := Aside0.mk (Q_NB352_340 hb6_)
          clear Q_NB352_340
          have NB341_352 := Aside0.mk (Q_NB341_352 hb6_)
          clear Q_NB341_352
          have NB352_341 := Aside0.mk (Q_NB352_341 hb6_)
          clear Q_NB352_341
          have NB346_352 := Aside0.mk (Q_NB346_352 hb6_)
          clear Q_NB346_352
          have NB352_346 := Aside0.mk (Q_NB352_346 hb6_)
          clear Q_NB352_346
          have NB347_352 := Aside0.mk (Q_NB347_352 hb6_)
          clear Q_NB347_352
          have NB352_347 := Aside0.mk (Q_NB352_347 hb6_)
          clear Q_NB352_347
          clear Q_BK353
          have GW353 := Aside0.mk (Q_GW353 hb7_)
          clear Q_GW353
          have GE353 := Aside0.mk (Q_GE353 hb7_)
          clear Q_GE353
          have NB340_353 := Aside0.mk (Q_NB340_353 hb7_)
          clear Q_NB340_353
          have NB353_340 := Aside0.mk (Q_NB353_340 hb7_)
          clear Q_NB353_340
          have NB341_353 := Aside0.mk (Q_NB341_353 hb7_)
          clear Q_NB341_353
          have NB353_341 := Aside0.mk (Q_NB353_341 hb7_)
          clear Q_NB353_341
          have NB346_353 := Aside0.mk (Q_NB346_353 hb7_)
          clear Q_NB346_353
          have NB353_346 := Aside0.mk (Q_NB353_346 hb7_)
          clear Q_NB353_346
          have NB347_353 := Aside0.mk (Q_NB347_353 hb7_)
          clear Q_NB347_353
          have NB353_347 := Aside0.mk (Q_NB353_347 hb7_)
          clear Q_NB353_347
          have BK352 := Aside0.mk (Q_BK352_e8 hb8_)
          clear Q_BK352_e8
          have BK353 := Aside0.mk (Q_BK353_e9 hb9_)
          clear Q_BK353_e9
          clear hall hb0_ hb1_ hb2_ hb3_ hb4_ hb5_ hb6_ hb7_ hb8_ hb9_
          have hF_t348 := HF_t348.out
          have hF_t349 := HF_t349.out
          have hF_t350 := HF_t350.out
          have hF_t351 := HF_t351.out
          go_upto_region 10 with (fail)
          go_cut [100] (fun v100 wc => ∃ (kq : Nat) (x100_40 : Bool), v100 = .bool x100_40 ∧ Aside0 (laws_FnSizes.j1 kq l0 x100_40 = some r) ∧ Aside0 (kq ≤ kj6) ∧ Aside0 (wc.heap[gb346]? = some (.cells #[.float .f64 b_t342, .float .f64 b_t343] 34 (0, 0))) ∧ Aside0 (wc.heap[gb347]? = some (.cells #[.float .f64 b_t344, .float .f64 b_t345] 34 (0, 0))) ∧ Aside0 (wc.heap[gb352]? = some (.cells #[.float .f64 b_t348, .float .f64 b_t349] 34 (0, 0))) ∧ Aside0 (wc.heap[gb353]? = some (.cells #[.float .f64 b_t350, .float .f64 b_t351] 34 (0, 0))) ∧ Aside0 (Below w.heap.size w wc))
          case first =>
            have H := HC41.out
            clear HC41
            replace H := Option.bind_eq_some_iff.mp H
            obtain ⟨t354, A690, H⟩ := H
            replace H : (if t354 = true then ((laws_sameBits.f t343 t345).bind fun t355 => (if t355 = true then ((laws_sameBits.f t348 t350).bind fun t356 => (if t356 = true then ((laws_sameBits.f t349 t351).bind fun t357 => (laws_FnSizes.j1 kj6 l0 (!t357))) else (laws_FnSizes.j1 kj6 l0 true))) else (laws_FnSizes.j1 kj6 l0 true))) else (laws_FnSizes.j1 kj6 l0 true)) = some r := H
            have A69 := Aside0.mk A690
            clear A690
            by_cases c70 : t354 = true
            · subst c70
              have H1 : ((laws_sameBits.f t343 t345).bind fun t355 => (if t355 = true then ((laws_sameBits.f t348 t350).bind fun t356 => (if t356 = true then ((laws_sameBits.f t349 t351).bind fun t357 => (laws_FnSizes.j1 kj6 l0 (!t357))) else (laws_FnSizes.j1 kj6 l0 true))) else (laws_FnSizes.j1 kj6 l0 true))) = some r := by rw [if_pos rfl] at H; exact H
              clear H
              have H := H1
              clear H1
              replace H := Option.bind_eq_some_iff.mp H
              obtain ⟨t355, A710, H⟩ := H
              replace H : (if t355 = true then ((laws_sameBits.f t348 t350).bind fun t356 => (if t356 = true then ((laws_sameBits.f t349 t351).bind fun t357 => (laws_FnSizes.j1 kj6 l0 (!t357))) else (laws_FnSizes.j1 kj6 l0 true))) else (laws_FnSizes.j1 kj6 l0 true)) = some r := H
              have A71 := Aside0.mk A710
              clear A710
              by_cases c72 : t355 = true
              · subst c72
                have H1 : ((laws_sameBits.f t348 t350).bind fun t356 => (if t356 = true then ((laws_sameBits.f t349 t351).bind fun t357 => (laws_FnSizes.j1 kj6 l0 (!t357))) else (laws_FnSizes.j1 kj6 l0 true))) = some r := by rw [if_pos rfl] at H; exact H
                clear H
                have H := H1
                clear H1
                replace H := Option.bind_eq_some_iff.mp H
                obtain ⟨t356, A730, H⟩ := H
                replace H : (if t356 = true then ((laws_sameBits.f t349 t351).bind fun t357 => (laws_FnSizes.j1 kj6 l0 (!t357))) else (laws_FnSizes.j1 kj6 l0 true)) = some r := H
                have A73 := Aside0.mk A730
                clear A730
                by_cases c74 : t356 = true
                · subst c74
                  have H1 : ((laws_sameBits.f t349 t351).bind fun t357 => (laws_FnSizes.j1 kj6 l0 (!t357))) = some r := by rw [if_pos rfl] at H; exact H
                  clear H
                  have H := H1
                  clear H1
                  replace H := Option.bind_eq_some_iff.mp H
                  obtain ⟨t357, A750, H⟩ := H
                  replace H : (laws_FnSizes.j1 kj6 l0 (!t357)) = some r := H
                  have A75 := Aside0.mk A750
                  clear A750
                  have H' := Aside0.mk H
                  clear H
                  have hnb76 := NB346_347.out
                  have hnc76 := NB347_346.out
                  have hnb77 := NB346_352.out
                  have hnc77 := NB352_346.out
                  have hnb78 := NB346_353.out
                  have hnc78 := NB353_346.out
                  have hcz79_0 : w68.cell? ⟨gb346, 0, none⟩ = some (.float .f64 b_t342) := (blk_cell BK346.out 0).trans rfl
                  have hcz79_1 : w68.cell? ⟨gb346, 1, none⟩ = some (.float .f64 b_t343) := (blk_cell BK346.out 1).trans rfl
                  have hfz79_0 := blk_frozen BK346.out 0
                  have hfz79_1 := blk_frozen BK346.out 1
                  have hnb80 := NB347_352.out
                  have hnc80 := NB352_347.out
                  have hnb81 := NB347_353.out
                  have hnc81 := NB353_347.out
                  have hcz82_0 : w68.cell? ⟨gb347, 0, none⟩ = some (.float .f64 b_t344) := (blk_cell BK347.out 0).trans rfl
                  have hcz82_1 : w68.cell? ⟨gb347, 1, none⟩ = some (.float .f64 b_t345) := (blk_cell BK347.out 1).trans rfl
                  have hfz82_0 := blk_frozen BK347.out 0
                  have hfz82_1 := blk_frozen BK347.out 1
                  go_wp2_with (first | ((with_reducible refine gate_callee (f := 61) rfl ?_); refine goesL_ (some 75) rfl rfl Try.func61 (by kernel_rfl) rfl #[.float .f64 b_t342, .float .f64 b_t344] rfl (by (try simp only [List.map_toArray, List.map_cons, List.map_nil]); first | done | rfl | (simp only [List.length_drop, List.length_take]; rfl)) ?_; (with_reducible refine (laws_sameBits.calls b_t342 t342 b_t344 t344 true _ ?side1 ?side2 A69.out).mono ?_); (case side1 => exact hF_t342); (case side2 => exact hF_t344); rintro e w' ⟨rfl, ⟨nd, rfl⟩⟩; refine ⟨_, rfl, ?_⟩) | (go_at_call 61; (with_reducible refine (laws_sameBits.calls b_t343 t343 b_t345 t345 true _ ?side1 ?side2 A71.out).mono ?_); (case side1 => exact hF_t343); (case side2 => exact hF_t345); rintro e w' ⟨rfl, ⟨nd, rfl⟩⟩; have hnb83 := NB352_353.out; have hnc83 := NB353_352.out; have hcz84_0 : w68.cell? ⟨gb352, 0, none⟩ = some (.float .f64 b_t348) := (blk_cell BK352.out 0).trans rfl; have hcz84_1 : w68.cell? ⟨gb352, 1, none⟩ = some (.float .f64 b_t349) := (blk_cell BK352.out 1).trans rfl; have hfz84_0 := blk_frozen BK352.out 0; have hfz84_1 := blk_frozen BK352.out 1; have hcz85_0 : w68.cell? ⟨gb353, 0, none⟩ = some (.float .f64 b_t350) := (blk_cell BK353.out 0).trans rfl; have hcz85_1 : w68.cell? ⟨gb353, 1, none⟩ = some (.float .f64 b_t351) := (blk_cell BK353.out 1).trans rfl; have hfz85_0 := blk_frozen BK353.out 0; have hfz85_1 := blk_frozen BK353.out 1) | (go_at_call 61; (with_reducible refine (laws_sameBits.calls b_t348 t348 b_t350 t350 true _ ?side1 ?side2 A73.out).mono ?_); (case side1 => exact hF_t348); (case side2 => exact hF_t350); rintro e w' ⟨rfl, ⟨nd, rfl⟩⟩) | (go_at_call 61; (with_reducible refine (laws_sameBits.calls b_t349 t349 b_t351 t351 t357 _ ?side1 ?side2 A75.out).mono ?_); (case side1 => exact hF_t349); (case side2 => exact hF_t351); rintro e w' ⟨rfl, ⟨nd, rfl⟩⟩))
                  go_meet
                  case rel => exact ⟨_, (!t357), (by first | rfl | (simp; done) | (simp [*]; done)), H', ⟨by have := HJ6.out; first | omega | exact Nat.le_refl _⟩, ⟨by (with_reducible repeat (first | refine blk_drewN ?_ _ | refine blk_drew ?_ | refine blk_alloc ?_ _)); exact BK346.out⟩, ⟨by (with_reducible repeat (first | refine blk_drewN ?_ _ | refine blk_drew ?_ | refine blk_alloc ?_ _)); exact BK347.out⟩, ⟨by (with_reducible repeat (first | refine blk_drewN ?_ _ | refine blk_drew ?_ | refine blk_alloc ?_ _)); exact BK352.out⟩, ⟨by (with_reducible repeat (first | refine blk_drewN ?_ _ | refine blk_drew ?_ | refine blk_alloc ?_ _)); exact BK353.out⟩, ⟨by repeat (first | (with_reducible first | exact HB.out | apply below_alloc | apply pw_below_drewN | apply below_drew1) | exact HB.out)⟩⟩
                · replace c74 := Bool.eq_false_iff.mpr c74
                  subst c74
                  have H1 : (laws_FnSizes.j1 kj6 l0 true) = some r := by rw [if_neg (show ¬ (false = true) by decide)] at H; exact H
                  clear H
                  have H := H1
                  clear H1
                  have H' := Aside0.mk H
                  clear H
                  have hnb86 := NB346_347.out
                  have hnc86 := NB347_346.out
                  have hnb87 := NB346_352.out
                  have hnc87 := NB352_346.out
                  have hnb88 := NB346_353.out
                  have hnc88 := NB353_346.out
                  have hcz89_0 : w68.cell? ⟨gb346, 0, none⟩ = some (.float .f64 b_t342) := (blk_cell BK346.out 0).trans rfl
                  have hcz89_1 : w68.cell? ⟨gb346, 1, none⟩ = some (.float .f64 b_t343) := (blk_cell BK346.out 1).trans rfl
                  have hfz89_0 := blk_frozen BK346.out 0
                  have hfz89_1 := blk_frozen BK346.out 1
                  have hnb90 := NB347_352.out
                  have hnc90 := NB352_347.out
                  have hnb91 := NB347_353.out
                  have hnc91 := NB353_347.out
                  have hcz92_0 : w68.cell? ⟨gb347, 0, none⟩ = some (.float .f64 b_t344) := (blk_cell BK347.out 0).trans rfl
                  have hcz92_1 : w68.cell? ⟨gb347, 1, none⟩ = some (.float .f64 b_t345) := (blk_cell BK347.out 1).trans rfl
                  have hfz92_0 := blk_frozen BK347.out 0
                  have hfz92_1 := blk_frozen BK347.out 1
                  go_wp2_with (first | ((with_reducible refine gate_callee (f := 61) rfl ?_); refine goesL_ (some 75) rfl rfl Try.func61 (by kernel_rfl) rfl #[.float .f64 b_t342, .float .f64 b_t344] rfl (by (try simp only [List.map_toArray, List.map_cons, List.map_nil]); first | done | rfl | (simp only [List.length_drop, List.length_take]; rfl)) ?_; (with_reducible refine (laws_sameBits.calls b_t342 t342 b_t344 t344 true _ ?side1 ?side2 A69.out).mono ?_); (case side1 => exact hF_t342); (case side2 => exact hF_t344); rintro e w' ⟨rfl, ⟨nd, rfl⟩⟩; refine ⟨_, rfl, ?_⟩) | (go_at_call 61; (with_reducible refine (laws_sameBits.calls b_t343 t343 b_t345 t345 true _ ?side1 ?side2 A71.out).mono ?_); (case side1 => exact hF_t343); (case side2 => exact hF_t345); rintro e w' ⟨rfl, ⟨nd, rfl⟩⟩; have hnb93 := NB352_353.out; have hnc93 := NB353_352.out; have hcz94_0 : w68.cell? ⟨gb352, 0, none⟩ = some (.float .f64 b_t348) := (blk_cell BK352.out 0).trans rfl; have hcz94_1 : w68.cell? ⟨gb352, 1, none⟩ = some (.float .f64 b_t349) := (blk_cell BK352.out 1).trans rfl; have hfz94_0 := blk_frozen BK352.out 0; have hfz94_1 := blk_frozen BK352.out 1; have hcz95_0 : w68.cell? ⟨gb353, 0, none⟩ = some (.float .f64 b_t350) := (blk_cell BK353.out 0).trans rfl; have hcz95_1 : w68.cell? ⟨gb353, 1, none⟩ = some (.float .f64 b_t351) := (blk_cell BK353.out 1).trans rfl; have hfz95_0 := blk_frozen BK353.out 0; have hfz95_1 := blk_frozen BK353.out 1) | (go_at_call 61; (with_reducible refine (laws_sameBits.calls b_t348 t348 b_t350 t350 false _ ?side1 ?side2 A73.out).mono ?_); (case side1 => exact hF_t348); (case side2 => exact hF_t350); rintro e w' ⟨rfl, ⟨nd, rfl⟩⟩))
                  go_meet
                  case rel => exact ⟨_, (true), (by first | rfl | (simp; done) | (simp [*]; done)), H', ⟨by have := HJ6.out; first | omega | exact Nat.le_refl _⟩, ⟨by (with_reducible repeat (first | refine blk_drewN ?_ _ | refine blk_drew ?_ | refine blk_alloc ?_ _)); exact BK346.out⟩, ⟨by (with_reducible repeat (first | refine blk_drewN ?_ _ | refine blk_drew ?_ | refine blk_alloc ?_ _)); exact BK347.out⟩, ⟨by (with_reducible repeat (first | refine blk_drewN ?_ _ | refine blk_drew ?_ | refine blk_alloc ?_ _)); exact BK352.out⟩, ⟨by (with_reducible repeat (first | refine blk_drewN ?_ _ | refine blk_drew ?_ | refine blk_alloc ?_ _)); exact BK353.out⟩, ⟨by repeat (first | (with_reducible first | exact HB.out | apply below_alloc | apply pw_below_drewN | apply below_drew1) | exact HB.out)⟩⟩
              · replace c72 := Bool.eq_false_iff.mpr c72
                subst c72
                have H1 : (laws_FnSizes.j1 kj6 l0 true) = some r := by rw [if_neg (show ¬ (false = true) by decide)] at H; exact H
                clear H
                have H := H1
                clear H1
                have H' := Aside0.mk H
                clear H
                have hnb96 := NB346_347.out
                have hnc96 := NB347_346.out
                have hnb97 := NB346_352.out
                have hnc97 := NB352_346.out
                have hnb98 := NB346_353.out
                have hnc98 := NB353_346.out
                have hcz99_0 : w68.cell? ⟨gb346, 0, none⟩ = some (.float .f64 b_t342) := (blk_cell BK346.out 0).trans rfl
                have hcz99_1 : w68.cell? ⟨gb346, 1, none⟩ = some (.float .f64 b_t343) := (blk_cell BK346.out 1).trans rfl
                have hfz99_0 := blk_frozen BK346.out 0
                have hfz99_1 := blk_frozen BK346.out 1
                have hnb100 := NB347_352.out
                have hnc100 := NB352_347.out
                have hnb101 := NB347_353.out
                have hnc101 := NB353_347.out
                have hcz102_0 : w68.cell? ⟨gb347, 0, none⟩ = some (.float .f64 b_t344) := (blk_cell BK347.out 0).trans rfl
                have hcz102_1 : w68.cell? ⟨gb347, 1, none⟩ = some (.float .f64 b_t345) := (blk_cell BK347.out 1).trans rfl
                have hfz102_0 := blk_frozen BK347.out 0
                have hfz102_1 := blk_frozen BK347.out 1
                go_wp2_with (first | ((with_reducible refine gate_callee (f := 61) rfl ?_); refine goesL_ (some 75) rfl rfl Try.func61 (by kernel_rfl) rfl #[.float .f64 b_t342, .float .f64 b_t344] rfl (by (try simp only [List.map_toArray, List.map_cons, List.map_nil]); first | done | rfl | (simp only [List.length_drop, List.length_take]; rfl)) ?_; (with_reducible refine (laws_sameBits.calls b_t342 t342 b_t344 t344 true _ ?side1 ?side2 A69.out).mono ?_); (case side1 => exact hF_t342); (case side2 => exact hF_t344); rintro e w' ⟨rfl, ⟨nd, rfl⟩⟩; refine ⟨_, rfl, ?_⟩) | (go_at_call 61; (with_reducible refine (laws_sameBits.calls b_t343 t343 b_t345 t345 false _ ?side1 ?side2 A71.out).mono ?_); (case side1 => exact hF_t343); (case side2 => exact hF_t345); rintro e w' ⟨rfl, ⟨nd, rfl⟩⟩))
                go_meet
                case rel => exact ⟨_, (true), (by first | rfl | (simp; done) | (simp [*]; done)), H', ⟨by have := HJ6.out; first | omega | exact Nat.le_refl _⟩, ⟨by (with_reducible repeat (first | refine blk_drewN ?_ _ | refine blk_drew ?_ | refine blk_alloc ?_ _)); exact BK346.out⟩, ⟨by (with_reducible repeat (first | refine blk_drewN ?_ _ | refine blk_drew ?_ | refine blk_alloc ?_ _)); exact BK347.out⟩, ⟨by (with_reducible repeat (first | refine blk_drewN ?_ _ | refine blk_drew ?_ | refine blk_alloc ?_ _)); exact BK352.out⟩, ⟨by (with_reducible repeat (first | refine blk_drewN ?_ _ | refine blk_drew ?_ | refine blk_alloc ?_ _)); exact BK353.out⟩, ⟨by repeat (first | (with_reducible first | exact HB.out | apply below_alloc | apply pw_below_drewN | apply below_drew1) | exact HB.out)⟩⟩
            · replace c70 := Bool.eq_false_iff.mpr c70
              subst c70
              have H1 : (laws_FnSizes.j1 kj6 l0 true) = some r := by rw [if_neg (show ¬ (false = true) by decide)] at H; exact H
              clear H
              have H := H1
              clear H1
              have H' := Aside0.mk H
              clear H
              have hnb103 := NB346_347.out
              have hnc103 := NB347_346.out
              have hnb104 := NB346_352.out
              have hnc104 := NB352_346.out
              have hnb105 := NB346_353.out
              have hnc105 := NB353_346.out
              have hcz106_0 : w68.cell? ⟨gb346, 0, none⟩ = some (.float .f64 b_t342) := (blk_cell BK346.out 0).trans rfl
              have hcz106_1 : w68.cell? ⟨gb346, 1, none⟩ = some (.float .f64 b_t343) := (blk_cell BK346.out 1).trans rfl
              have hfz106_0 := blk_frozen BK346.out 0
              have hfz106_1 := blk_frozen BK346.out 1
              have hnb107 := NB347_352.out
              have hnc107 := NB352_347.out
              have hnb108 := NB347_353.out
              have hnc108 := NB353_347.out
              have hcz109_0 : w68.cell? ⟨gb347, 0, none⟩ = some (.float .f64 b_t344) := (blk_cell BK347.out 0).trans rfl
              have hcz109_1 : w68.cell? ⟨gb347, 1, none⟩ = some (.float .f64 b_t345) := (blk_cell BK347.out 1).trans rfl
              have hfz109_0 := blk_frozen BK347.out 0
              have hfz109_1 := blk_frozen BK347.out 1
              go_wp2_with (first | ((with_reducible refine gate_callee (f := 61) rfl ?_); refine goesL_ (some 75) rfl rfl Try.func61 (by kernel_rfl) rfl #[.float .f64 b_t342, .float .f64 b_t344] rfl (by (try simp only [List.map_toArray, List.map_cons, List.map_nil]); first | done | rfl | (simp only [List.length_drop, List.length_take]; rfl)) ?_; (with_reducible refine (laws_sameBits.calls b_t342 t342 b_t344 t344 false _ ?side1 ?side2 A69.out).mono ?_); (case side1 => exact hF_t342); (case side2 => exact hF_t344); rintro e w' ⟨rfl, ⟨nd, rfl⟩⟩; refine ⟨_, rfl, ?_⟩))
              go_meet
              case rel => exact ⟨_, (true), (by first | rfl | (simp; done) | (simp [*]; done)), H', ⟨by have := HJ6.out; first | omega | exact Nat.le_refl _⟩, ⟨by (with_reducible repeat (first | refine blk_drewN ?_ _ | refine blk_drew ?_ | refine blk_alloc ?_ _)); exact BK346.out⟩, ⟨by (with_reducible repeat (first | refine blk_drewN ?_ _ | refine blk_drew ?_ | refine blk_alloc ?_ _)); exact BK347.out⟩, ⟨by (with_reducible repeat (first | refine blk_drewN ?_ _ | refine blk_drew ?_ | refine blk_alloc ?_ _)); exact BK352.out⟩, ⟨by (with_reducible repeat (first | refine blk_drewN ?_ _ | refine blk_drew ?_ | refine blk_alloc ?_ _)); exact BK353.out⟩, ⟨by repeat (first | (with_reducible first | exact HB.out | apply below_alloc | apply pw_below_drewN | apply below_drew1) | exact HB.out)⟩⟩
          case rest =>
            clear HC41
            try clear c1
            try clear p2
            try clear c6
            try clear c7
            try clear c8
            try clear c9
            try clear c10
            try clear c60
            try clear c61
            try clear c64
            try clear c70
            try clear c72
            try clear c74
            try clear c76
            try clear c77
            try clear c78
            try clear c80
            try clear c81
            try clear c83
            try clear c86
            try clear c87
            try clear c88
            try clear c90
            try clear c91
            try clear c93
            try clear c96
            try clear c97
            try clear c98
            try clear c100
            try clear c101
            try clear c103
            try clear c104
            try clear c105
            try clear c107
            try clear c108
            try clear hcz102_0
            try clear hcz102_1
            try clear hcz106_0
            try clear hcz106_1
            try clear hcz109_0
            try clear hcz109_1
            try clear hcz79_0
            try clear hcz79_1
            try clear hcz82_0
            try clear hcz82_1
            try clear hcz84_0
            try clear hcz84_1
            try clear hcz85_0
            try clear hcz85_1
            try clear hcz89_0
            try clear hcz89_1
            try clear hcz92_0
            try clear hcz92_1
            try clear hcz94_0
            try clear hcz94_1
            try clear hcz95_0
            try clear hcz95_1
            try clear hcz99_0
            try clear hcz99_1
            try clear hfz102_0
            try clear hfz102_1
            try clear hfz106_0
            try clear hfz106_1
            try clear hfz109_0
            try clear hfz109_1
            try clear hfz79_0
            try clear hfz79_1
            try clear hfz82_0
            try clear hfz82_1
            try clear hfz84_0
            try clear hfz84_1
            try clear hfz85_0
            try clear hfz85_1
            try clear hfz89_0
            try clear hfz89_1
            try clear hfz92_0
            try clear hfz92_1
            try clear hfz94_0
            try clear hfz94_1
            try clear hfz95_0
            try clear hfz95_1
            try clear hfz99_0
            try clear hfz99_1
            obtain ⟨kq, x100_40, rfl, HA, HJ40, BK346, BK347, BK352, BK353, HB⟩ := hcut
            cases kq with
            | zero => exact absurd HA.out (by simp [laws_FnSizes.j1])
            | succ kj40 =>
              have H := HA.out
              clear HA
              simp only [laws_FnSizes.j1] at H
              by_cases c110 : x100_40 = true
              · subst c110
                have H1 : (some false) = some r := by rw [if_pos rfl] at H; exact H
                clear H
                have H := H1
                clear H1
                obtain rfl := Option.some.inj H
                go_wp2
                go_ret
                exact ⟨by first | rfl | (simp [errW_none, errW_some] <;> rfl) | (simp [*, errW_none, errW_some] <;> rfl), by repeat (first | (with_reducible first | exact HB.out | apply below_alloc | apply pw_below_drewN | apply below_drew1) | exact HB.out)⟩
              · replace c110 := Bool.eq_false_iff.mpr c110
                subst c110
                have H1 : ((spec_DrawSmallRoots.f kj40 l0).bind fun t358 => ((impl_FromRoots.f kj40 t358).bind fun bt361 => (if bt361.2 = true then (laws_FnSizes.j2 kj40 t358 bt361.1 ((bt361.1.length : Int) != (wrap64 ((t358.length : Int) + 1)))) else (laws_FnSizes.j2 kj40 t358 bt361.1 true)))) = some r := by rw [if_neg (show ¬ (false = true) by decide)] at H; exact H
                clear H
                have H := H1
                clear H1
                replace H := Option.bind_eq_some_iff.mp H
                obtain ⟨t358, A1110, H⟩ := H
                replace H : ((impl_FromRoots.f kj40 t358).bind fun bt361 => (if bt361.2 = true then (laws_FnSizes.j2 kj40 t358 bt361.1 ((bt361.1.length : Int) != (wrap64 ((t358.length : Int) + 1)))) else (laws_FnSizes.j2 kj40 t358 bt361.1 true))) = some r := H
                have A111 := Aside0.mk A1110
                clear A1110
                replace H := Option.bind_eq_some_iff.mp H
                obtain ⟨⟨t361, t362⟩, A1120, H⟩ := H
                replace H : (if t362 = true then (laws_FnSizes.j2 kj40 t358 t361 ((t361.length : Int) != (wrap64 ((t358.length : Int) + 1)))) else (laws_FnSizes.j2 kj40 t358 t361 true)) = some r := H
                have A112 := Aside0.mk A1120
                clear A1120
                have HC113 := Aside0.mk H
                clear H
                go_upto_region 14 with (first | ((with_reducible refine gate_callee (f := 62) rfl ?_); refine goesL_ (some 102) rfl rfl Try.func62 (by kernel_rfl) rfl #[.slice A0 l0.length c0] rfl (by (try simp only [List.map_toArray, List.map_cons, List.map_nil]); first | done | rfl | (simp only [List.length_drop, List.length_take]; rfl)) ?_; (with_reducible refine (spec_DrawSmallRoots.calls kj40 _ _ l0 t358 _ ?side1 ?side2 A111.out).mono ?_); (case side1 => repeat (first | exact (Kd.C_below HR0.out HB.out) | (with_reducible refine Kd.C_alloc ?_ _) | (with_reducible refine Kd.C_drewN ?_ _) | (with_reducible refine Kd.C_drew ?_))); (case side2 => exact HC0.out); rintro e w114 ⟨v359, rfl, ho0, hb⟩; refine ⟨_, rfl, ?_⟩; have n0_ := Aside0.mk (Kd.R_lower ho0 (below_size (by exact HB.out))); have n1_ := Aside0.mk (below_step (by exact HB.out) hb); clear HB; have HO360 := n0_; have HB := n1_; clear n0_ n1_; (try clear hb); (try clear hb2); (try clear hk); (try clear hi); (try clear ho0); obtain ⟨Ao115, co115, eo115⟩ := Kd.R_slice HO360.out; subst eo115) | ((with_reducible refine gate_callee (f := 38) rfl ?_); refine goesL_ (some 105) rfl rfl Try.func38 (by kernel_rfl) rfl #[.slice Ao115 t358.length co115] rfl (by (try simp only [List.map_toArray, List.map_cons, List.map_nil]); first | done | rfl | (simp only [List.length_drop, List.length_take]; rfl)) ?_; (with_reducible refine (impl_FromRoots.calls kj40 _ _ t358 t361 t362 _ ?side1 ?side2 A112.out).mono ?_); (case side1 => repeat (first | exact (Kd.R_reads' HO360.out).2.2 | (with_reducible refine Kd.C_alloc ?_ _) | (with_reducible refine Kd.C_drewN ?_ _) | (with_reducible refine Kd.C_drew ?_))); (case side2 => exact (Kd.R_reads' HO360.out).2.1); rintro e w116 ⟨v363, rfl, ho0, hb⟩; refine ⟨_, rfl, ?_⟩; have n0_ := Aside0.mk (Kd.R_elder' (by exact HO360.out) (Kd.R_base ho0) hb); have n1_ := Aside0.mk (Kd.R_lower (Kd.R_new' ho0 (Kd.R_lt (by exact HO360.out))) (below_size (by exact HB.out))); have n2_ := Aside0.mk (below_step (by exact HB.out) hb); clear HO360; clear HB; have HO360 := n0_; have HO364 := n1_; have HB := n2_; clear n0_ n1_ n2_; (try clear hb); (try clear hb2); (try clear hk); (try clear hi); (try clear ho0)))
                (try simp only [Act.put, List.setIfInBounds_toArray, List.set_cons_zero, List.set_cons_succ])
                go_cut [117] (fun v117 wc => ∃ (kq : Nat) (x117_112 : Bool), v117 = .bool x117_112 ∧ Aside0 (laws_FnSizes.j2 kq t358 t361 x117_112 = some r) ∧ Aside0 (kq ≤ kj40) ∧ Aside0 (Kd.R k34 34 wc w.heap.size (fun k_ => some k_ ≠ (v363 : Value).ownBlock) (.slice Ao115 t358.length co115) t358) ∧ Aside0 (Kd.R k34 34 wc w.heap.size (fun k_ => some k_ ≠ ((.slice Ao115 t358.length co115) : Value).ownBlock) v363 t361) ∧ Aside0 (Below w.heap.size w wc))
                case first =>
                  have H := HC113.out
                  clear HC113
                  by_cases c117 : t362 = true
                  · subst c117
                    have H1 : (laws_FnSizes.j2 kj40 t358 t361 ((t361.length : Int) != (wrap64 ((t358.length : Int) + 1)))) = some r := by rw [if_pos rfl] at H; exact H
                    clear H
                    have H := H1
                    clear H1
                    have H' := Aside0.mk H
                    clear H
                    obtain ⟨Ao118, co118, eo118⟩ := Kd.R_slice HO364.out
                    subst eo118
                    go_wp2
                    go_meet
                    case rel => exact ⟨_, (((t361.length : Int) != (wrap64 ((t358.length : Int) + 1)))), (by first | rfl | (simp; done) | (simp [*]; done)), H', ⟨by have := HJ6.out; have := HJ40.out; first | omega | exact Nat.le_refl _⟩, ⟨by (with_reducible repeat (first | apply Kd.R_alloc | apply Kd.R_drewN | apply Kd.R_drew)); exact Kd.R_mono HO360.out (fun _ hk => hk.2)⟩, ⟨by (with_reducible repeat (first | apply Kd.R_alloc | apply Kd.R_drewN | apply Kd.R_drew)); exact Kd.R_mono HO364.out (fun _ hk => hk.2)⟩, ⟨by repeat (first | (with_reducible first | exact HB.out | apply below_alloc | apply pw_below_drewN | apply below_drew1) | exact HB.out)⟩⟩
                  · replace c117 := Bool.eq_false_iff.mpr c117
                    subst c117
                    have H1 : (laws_FnSizes.j2 kj40 t358 t361 true) = some r := by rw [if_neg (show ¬ (false = true) by decide)] at H; exact H
                    clear H
                    have H := H1
                    clear H1
                    have H' := Aside0.mk H
                    clear H
                    go_wp2
                    go_meet
                    case rel => exact ⟨_, (true), (by first | rfl | (simp; done) | (simp [*]; done)), H', ⟨by have := HJ6.out; have := HJ40.out; first | omega | exact Nat.le_refl _⟩, ⟨by (with_reducible repeat (first | apply Kd.R_alloc | apply Kd.R_drewN | apply Kd.R_drew)); exact Kd.R_mono HO360.out (fun _ hk => hk.2)⟩, ⟨by (with_reducible repeat (first | apply Kd.R_alloc | apply Kd.R_drewN | apply Kd.R_drew)); exact Kd.R_mono HO364.out (fun _ hk => hk.2)⟩, ⟨by repeat (first | (with_reducible first | exact HB.out | apply below_alloc | apply pw_below_drewN | apply below_drew1) | exact HB.out)⟩⟩
                case rest =>
                  clear HC113
                  try clear c1
                  try clear p2
                  try clear c3
                  try clear c6
                  try clear p6
                  try clear c7
                  try clear c8
                  try clear c9
                  try clear c10
                  try clear c11
                  try clear c38
                  try clear c60
                  try clear c61
                  try clear c62
                  try clear c64
                  try clear p64
                  try clear c70
                  try clear c72
                  try clear c74
                  try clear c76
                  try clear c77
                  try clear c78
                  try clear c80
                  try clear c81
                  try clear c83
                  try clear c86
                  try clear c87
                  try clear c88
                  try clear c90
                  try clear c91
                  try clear c93
                  try clear c96
                  try clear c97
                  try clear c98
                  try clear c100
                  try clear c101
                  try clear c103
                  try clear c104
                  try clear c105
                  try clear c107
                  try clear c108
                  try clear c110
                  try clear c117
                  try clear hcz102_0
                  try clear hcz102_1
                  try clear hcz106_0
                  try clear hcz106_1
                  try clear hcz109_0
                  try clear hcz109_1
                  try clear hcz79_0
                  try clear hcz79_1
                  try clear hcz82_0
                  try clear hcz82_1
                  try clear hcz84_0
                  try clear hcz84_1
                  try clear hcz85_0
                  try clear hcz85_1
                  try clear hcz89_0
                  try clear hcz89_1
                  try clear hcz92_0
                  try clear hcz92_1
                  try clear hcz94_0
                  try clear hcz94_1
                  try clear hcz95_0
                  try clear hcz95_1
                  try clear hcz99_0
                  try clear hcz99_1
                  try clear hfz102_0
                  try clear hfz102_1
                  try clear hfz106_0
                  try clear hfz106_1
                  try clear hfz109_0
                  try clear hfz109_1
                  try clear hfz79_0
                  try clear hfz79_1
                  try clear hfz82_0
                  try clear hfz82_1
                  try clear hfz84_0
                  try clear hfz84_1
                  try clear hfz85_0
                  try clear hfz85_1
                  try clear hfz89_0
                  try clear hfz89_1
                  try clear hfz92_0
                  try clear hfz92_1
                  try clear hfz94_0
                  try clear hfz94_1
                  try clear hfz95_0
                  try clear hfz95_1
                  try clear hfz99_0
                  try clear hfz99_1
                  try clear p2
                  obtain ⟨kq, x117_112, rfl, HA, HJ112, HO_11, HO_12, HB⟩ := hcut
                  cases kq with
                  | zero => exact absurd HA.out (by simp [laws_FnSizes.j2])
                  | succ kj112 =>
                    have H := HA.out
                    clear HA
                    simp only [laws_FnSizes.j2] at H
                    by_cases c119 : x117_112 = true
                    · subst c119
                      have H1 : (some false) = some r := by rw [if_pos rfl] at H; exact H
                      clear H
                      have H := H1
                      clear H1
                      obtain rfl := Option.some.inj H
                      go_wp2
                      go_ret
                      exact ⟨by first | rfl | (simp [errW_none, errW_some] <;> rfl) | (simp [*, errW_none, errW_some] <;> rfl), by repeat (first | (with_reducible first | exact HB.out | apply below_alloc | apply pw_below_drewN | apply below_drew1) | exact HB.out)⟩
                    · replace c119 := Bool.eq_false_iff.mpr c119
                      subst c119
                      have H1 : (laws_FnSizes.l0 kj112 t358 t361 0) = some r := by rw [if_neg (show ¬ (false = true) by decide)] at H; exact H
                      clear H
                      have H := H1
                      clear H1
                      have H' := Aside0.mk H
                      clear H
                      go_wp2
                      go_loopg [14] kj112 (fun kq v14 w' => ∃ (x14_4 : Int), v14 = .int .i64 x14_4 ∧ Aside0 (laws_FnSizes.l0 kq t358 t361 x14_4 = some r) ∧ Aside0 (kq ≤ kj112) ∧ Aside0 (Kd.R k34 34 w' w.heap.size (fun k_ => some k_ ≠ (v363 : Value).ownBlock) (.slice Ao115 t358.length co115) t358) ∧ Aside0 (Kd.R k34 34 w' w.heap.size (fun k_ => some k_ ≠ ((.slice Ao115 t358.length co115) : Value).ownBlock) v363 t361) ∧ Aside0 (Below w.heap.size w w'))
                      case atStart => exact ⟨(0), (by first | rfl | (simp; done) | (simp [*]; done)), H', ⟨Nat.le_refl _⟩, ⟨by (with_reducible repeat (first | apply Kd.R_alloc | apply Kd.R_drewN | apply Kd.R_drew)); exact HO_11.out⟩, ⟨by (with_reducible repeat (first | apply Kd.R_alloc | apply Kd.R_drewN | apply Kd.R_drew)); exact HO_12.out⟩, ⟨by repeat (first | (with_reducible first | exact HB.out | apply below_alloc | apply pw_below_drewN | apply below_drew1) | exact HB.out)⟩⟩
                      case round =>
                        clear H'
                        try clear c1
                        try clear p2
                        try clear c3
                        try clear c6
                        try clear p6
                        try clear c7
                        try clear c8
                        try clear c9
                        try clear c10
                        try clear c11
                        try clear c38
                        try clear c60
                        try clear c61
                        try clear c62
                        try clear c64
                        try clear p64
                        try clear c70
                        try clear c72
                        try clear c74
                        try clear c76
                        try clear c77
                        try clear c78
                        try clear c80
                        try clear c81
                        try clear c83
                        try clear c86
                        try clear c87
                        try clear c88
                        try clear c90
                        try clear c91
                        try clear c93
                        try clear c96
                        try clear c97
                        try clear c98
                        try clear c100
                        try clear c101
                        try clear c103
                        try clear c104
                        try clear c105
                        try clear c107
                        try clear c108
                        try clear c110
                        try clear c117
                        try clear c119
                        try clear hcz102_0
                        try clear hcz102_1
                        try clear hcz106_0
                        try clear hcz106_1
                        try clear hcz109_0
                        try clear hcz109_1
                        try clear hcz79_0
                        try clear hcz79_1
                        try clear hcz82_0
                        try clear hcz82_1
                        try clear hcz84_0
                        try clear hcz84_1
                        try clear hcz85_0
                        try clear hcz85_1
                        try clear hcz89_0
                        try clear hcz89_1
                        try clear hcz92_0
                        try clear hcz92_1
                        try clear hcz94_0
                        try clear hcz94_1
                        try clear hcz95_0
                        try clear hcz95_1
                        try clear hcz99_0
                        try clear hcz99_1
                        try clear hfz102_0
                        try clear hfz102_1
                        try clear hfz106_0
                        try clear hfz106_1
                        try clear hfz109_0
                        try clear hfz109_1
                        try clear hfz79_0
                        try clear hfz79_1
                        try clear hfz82_0
                        try clear hfz82_1
                        try clear hfz84_0
                        try clear hfz84_1
                        try clear hfz85_0
                        try clear hfz85_1
                        try clear hfz89_0
                        try clear hfz89_1
                        try clear hfz92_0
                        try clear hfz92_1
                        try clear hfz94_0
                        try clear hfz94_1
                        try clear hfz95_0
                        try clear hfz95_1
                        try clear hfz99_0
                        try clear hfz99_1
                        try clear p2
                        try clear p6
                        try clear p64
                        obtain ⟨x14_4, rfl, HA, HK4, HO_11, HO_12, HB⟩ := hrel
                        cases gk with
                        | zero => exact absurd HA.out (by simp [laws_FnSizes.l0])
                        | succ k4 =>
                          have H := HA.out
                          clear HA
                          simp only [laws_FnSizes.l0] at H
                          by_cases c120 : x14_4 < (t358.length : Int)
                          · rw [if_pos c120] at H
                            have c120b0 : decide (x14_4 < (t358.length : Int)) = true := decide_eq_true c120
                            clear c120
                            by_cases c121 : 0 ≤ x14_4
                            · rw [if_pos c121] at H
                              have c121b0 : decide (0 ≤ x14_4) = true := decide_eq_true c121
                              clear c121
                              obtain ⟨fr365_0, hfr365_0⟩ : ∃ y_ : Fl, y_ = ((rd_T34 t358 x14_4).f0) := ⟨_, rfl⟩
                              replace H : ((impl_Poly.f k4 t361 fr365_0 ((rd_T34 t358 x14_4).f1)).bind fun bt366 => (if bt366.2.2 = true then (if (fcmp .neq .f64 bt366.1 (cn .f64 0)) = true then (laws_FnSizes.j4 k4 t358 t361 x14_4 true) else (laws_FnSizes.j4 k4 t358 t361 x14_4 (fcmp .neq .f64 bt366.2.1 (cn .f64 0)))) else (laws_FnSizes.j4 k4 t358 t361 x14_4 true))) = some r := by first | (rw [hfr365_0]; with_reducible exact H) | (have H2_ := (Option.bind_some _ _).symm.trans H; rw [hfr365_0]; with_reducible exact H2_) | (have H2_ := (Option.bind_some _ _).symm.trans H; with_reducible exact H2_) | with_reducible exact H | (rw [hfr365_0]; exact H) | exact H
                              have Nfr365_0 := Aside0.mk hfr365_0
                              clear hfr365_0
                              obtain ⟨fr365_1, hfr365_1⟩ : ∃ y_ : Fl, y_ = ((rd_T34 t358 x14_4).f1) := ⟨_, rfl⟩
                              replace H : ((impl_Poly.f k4 t361 fr365_0 fr365_1).bind fun bt366 => (if bt366.2.2 = true then (if (fcmp .neq .f64 bt366.1 (cn .f64 0)) = true then (laws_FnSizes.j4 k4 t358 t361 x14_4 true) else (laws_FnSizes.j4 k4 t358 t361 x14_4 (fcmp .neq .f64 bt366.2.1 (cn .f64 0)))) else (laws_FnSizes.j4 k4 t358 t361 x14_4 true))) = some r := by first | (rw [hfr365_1]; with_reducible exact H) | (have H2_ := (Option.bind_some _ _).symm.trans H; rw [hfr365_1]; with_reducible exact H2_) | (have H2_ := (Option.bind_some _ _).symm.trans H; with_reducible exact H2_) | with_reducible exact H | (rw [hfr365_1]; exact H) | exact H
                              have Nfr365_1 := Aside0.mk hfr365_1
                              clear hfr365_1
                              replace H := Option.bind_eq_some_iff.mp H
                              obtain ⟨⟨t366, t367, t368⟩, A1220, H⟩ := H
                              replace H : (if t368 = true then (if (fcmp .neq .f64 t366 (cn .f64 0)) = true then (laws_FnSizes.j4 k4 t358 t361 x14_4 true) else (laws_FnSizes.j4 k4 t358 t361 x14_4 (fcmp .neq .f64 t367 (cn .f64 0)))) else (laws_FnSizes.j4 k4 t358 t361 x14_4 true)) = some r := H
                              have A122 := Aside0.mk A1220
                              clear A1220
                              have HC123 := Aside0.mk H
                              clear H
                              have p365 : 0 ≤ (x14_4 : Int) := of_decide_eq_true (by first | (with_reducible assumption) | assumption)
                              have q365 : x14_4 < (t358.length : Int) := of_decide_eq_true (by first | (with_reducible assumption) | assumption)
                              obtain ⟨ad365, b_fr365_0, b_fr365_1, e365, hx365_0, hx365_1, hF365_0, hF365_1⟩ := at_T34 (Kd.R_reads' HO_11.out).2.2 x14_4 p365 q365
                              have hF_fr365_0 := hF365_0.trans Nfr365_0.out.symm
                              clear hF365_0
                              have hF_fr365_1 := hF365_1.trans Nfr365_1.out.symm
                              clear hF365_1
                              cases e365
                              replace p365 := eq_true p365
                              replace q365 := eq_true q365
                              obtain ⟨Ao124, co124, eo124⟩ := Kd.R_slice HO_12.out
                              subst eo124
                              go_upto_region 20 with (first | ((with_reducible refine gate_callee (f := 23) rfl ?_); refine goesL_ (some 130) rfl rfl Try.func23 (by kernel_rfl) rfl #[.slice Ao124 t361.length co124, .agg #[.float .f64 b_fr365_0, .float .f64 b_fr365_1]] rfl (by (try simp only [List.map_toArray, List.map_cons, List.map_nil]); first | done | rfl | (simp only [List.length_drop, List.length_take]; rfl)) ?_; (with_reducible refine (impl_Poly.calls k4 _ _ t361 b_fr365_0 fr365_0 b_fr365_1 fr365_1 t366 t367 t368 _ ?side1 ?side2 ?side3 ?side4 A122.out).mono ?_); (case side1 => repeat (first | exact (Kd.R_reads' HO_12.out).2.2 | (with_reducible refine Kd.C_alloc ?_ _) | (with_reducible refine Kd.C_drewN ?_ _) | (with_reducible refine Kd.C_drew ?_))); (case side2 => exact (Kd.R_reads' HO_12.out).2.1); (case side3 => exact hF_fr365_0); (case side4 => exact hF_fr365_1); rintro e w125 ⟨b_t366, b_t367, rfl, hF_t366, hF_t367, hb⟩; refine ⟨_, rfl, ?_⟩; have n0_ := Aside0.mk (Kd.R_below (by exact HO_11.out) hb); have n1_ := Aside0.mk (Kd.R_below (by exact HO_12.out) hb); have n2_ := Aside0.mk (below_step (by exact HB.out) hb); clear HO_11; clear HO_12; clear HB; have HO_11 := n0_; have HO_12 := n1_; have HB := n2_; clear n0_ n1_ n2_; (try clear hb); (try clear hb2); (try clear hk); (try clear hi)) | ((with_reducible refine gate_dst (N := 15) rfl ?_); (try (refine gate_guard (by rfl) ?_; dsimp only)); refine box_event ?hg (N := 15) ?hd (cs := #[.float .f64 0, .float .f64 0]) (t := 34) ?hr ?_; (case hd => rfl); (case hg => rfl); (case hr => first | (go_simp; done) | (go_simp; rfl)); intro gb369 hg w126 hbox hb; have n0_ := Aside0.mk (Kd.R_below (Kd.R_elderB (by exact HO_11.out) gb369 (Nat.le_of_eq hg.symm)) hb); have n1_ := Aside0.mk (Kd.R_below (Kd.R_elderB (by exact HO_12.out) gb369 (Nat.le_of_eq hg.symm)) hb); have n2_ := Aside0.mk (below_step (by exact HB.out) hb); have n3_ := Aside0.mk (hbox); have n4_ := Aside0.mk ((by rw [hg]; exact (below_size (by exact HB.out)) : w.heap.size ≤ gb369)); have n5_ := Aside0.mk ((n4_.out)); clear HO_11; clear HO_12; clear HB; have HO_11 := n0_; have HO_12 := n1_; have HB := n2_; have BK369 := n3_; have GW369 := n4_; have GE369 := n5_; clear n0_ n1_ n2_ n3_ n4_ n5_; clear hb hbox hg; have hcz127_0 : w126.cell? ⟨gb369, 0, none⟩ = some (.float .f64 0) := (blk_cell BK369.out 0).trans rfl; have hcz127_1 : w126.cell? ⟨gb369, 1, none⟩ = some (.float .f64 0) := (blk_cell BK369.out 1).trans rfl; have hfz127_0 := blk_frozen BK369.out 0; have hfz127_1 := blk_frozen BK369.out 1))
                              (try simp only [Act.put, List.setIfInBounds_toArray, List.set_cons_zero, List.set_cons_succ])
                              go_cut [144] (fun v144 wc => ∃ (kq : Nat) (x144_122 : Bool), v144 = .bool x144_122 ∧ Aside0 (laws_FnSizes.j4 kq t358 t361 x14_4 x144_122 = some r) ∧ Aside0 (kq ≤ k4) ∧ Aside0 (Kd.R k34 34 wc w.heap.size (fun k_ => some k_ ≠ ((.slice Ao124 t361.length co124) : Value).ownBlock ∧ k_ ≠ gb369) (.slice (some ad365) t358.length co115) t358) ∧ Aside0 (Kd.R k34 34 wc w.heap.size (fun k_ => some k_ ≠ ((.slice (some ad365) t358.length co115) : Value).ownBlock ∧ k_ ≠ gb369) (.slice Ao124 t361.length co124) t361) ∧ Aside0 (wc.heap[gb369]? = some (.cells #[.float .f64 b_t366, .float .f64 b_t367] 34 (0, 0))) ∧ Aside0 (Below w.heap.size w wc))
                              case first =>
                                have H := HC123.out
                                clear HC123
                                by_cases c128 : t368 = true
                                · subst c128
                                  have H1 : (if (fcmp .neq .f64 t366 (cn .f64 0)) = true then (laws_FnSizes.j4 k4 t358 t361 x14_4 true) else (laws_FnSizes.j4 k4 t358 t361 x14_4 (fcmp .neq .f64 t367 (cn .f64 0)))) = some r := by rw [if_pos rfl] at H; exact H
                                  clear H
                                  have H := H1
                                  clear H1
                                  by_cases c129 : (fcmp .neq .f64 t366 (cn .f64 0)) = true
                                  · rw [if_pos c129] at H
                                    have c129b0 : (fcmp .neq .f64 t366 (cn .f64 0)) = true := c129
                                    clear c129
                                    (first | rw [c129b0] | (simp only [i64_w, i32_w]; rw [c129b0]) | skip)
                                    have H' := Aside0.mk H
                                    clear H
                                    have hcz130_0 : w126.cell? ⟨gb369, 0, none⟩ = some (.float .f64 0) := (blk_cell BK369.out 0).trans rfl
                                    have hcz130_1 : w126.cell? ⟨gb369, 1, none⟩ = some (.float .f64 0) := (blk_cell BK369.out 1).trans rfl
                                    have hfz130_0 := blk_frozen BK369.out 0
                                    have hfz130_1 := blk_frozen BK369.out 1
                                    go_wp2
                                    go_meet
                                    case rel => exact ⟨_, (true), (by first | rfl | (simp; done) | (simp [*]; done)), H', ⟨by have := HJ6.out; have := HJ40.out; have := HJ112.out; have := HK4.out; first | omega | exact Nat.le_refl _⟩, ⟨by (with_reducible repeat (first | apply Kd.R_alloc | apply Kd.R_drewN | apply Kd.R_drew)); exact Kd.R_mono (Kd.R_far (p := ⟨gb369, 1, none⟩) (Kd.R_far (p := ⟨gb369, 0, none⟩) (Kd.R_mono HO_11.out (fun k_ hk => (⟨hk, hk.2⟩ : _ ∧ k_ ≠ gb369))) (fun _ hk => hk.2) (.float .f64 b_t366)) (fun _ hk => hk.2) (.float .f64 b_t367)) (fun _ hk => ⟨hk.1.1, hk.1.2⟩)⟩, ⟨by (with_reducible repeat (first | apply Kd.R_alloc | apply Kd.R_drewN | apply Kd.R_drew)); exact Kd.R_mono (Kd.R_far (p := ⟨gb369, 1, none⟩) (Kd.R_far (p := ⟨gb369, 0, none⟩) (Kd.R_mono HO_12.out (fun k_ hk => (⟨hk, hk.2⟩ : _ ∧ k_ ≠ gb369))) (fun _ hk => hk.2) (.float .f64 b_t366)) (fun _ hk => hk.2) (.float .f64 b_t367)) (fun _ hk => ⟨hk.1.1, hk.1.2⟩)⟩, ⟨by (with_reducible repeat (first | refine blk_drewN ?_ _ | refine blk_drew ?_ | refine blk_alloc ?_ _)); refine blk_put (cs := #[.float .f64 b_t366, .float .f64 0]) ?_ 1 _ rfl; (with_reducible repeat (first | refine blk_drewN ?_ _ | refine blk_drew ?_ | refine blk_alloc ?_ _)); refine blk_put (cs := #[.float .f64 0, .float .f64 0]) ?_ 0 _ rfl; (with_reducible repeat (first | refine blk_drewN ?_ _ | refine blk_drew ?_ | refine blk_alloc ?_ _)); exact BK369.out⟩, ⟨by repeat (first | (with_reducible first | exact HB.out | apply below_alloc | apply pw_below_drewN | apply below_drew1 | refine below_set ?_ GE369.out) | exact HB.out)⟩⟩
                                  · rw [if_neg c129] at H
                                    have c129b0 : (fcmp .neq .f64 t366 (cn .f64 0)) = false := by simpa using c129
                                    clear c129
                                    (first | rw [c129b0] | (simp only [i64_w, i32_w]; rw [c129b0]) | skip)
                                    have H' := Aside0.mk H
                                    clear H
                                    have hcz131_0 : w126.cell? ⟨gb369, 0, none⟩ = some (.float .f64 0) := (blk_cell BK369.out 0).trans rfl
                                    have hcz131_1 : w126.cell? ⟨gb369, 1, none⟩ = some (.float .f64 0) := (blk_cell BK369.out 1).trans rfl
                                    have hfz131_0 := blk_frozen BK369.out 0
                                    have hfz131_1 := blk_frozen BK369.out 1
                                    go_wp2
                                    go_meet
                                    case rel => exact ⟨_, ((fcmp .neq .f64 t367 (cn .f64 0))), (by first | rfl | (simp; done) | (simp [*]; done)), H', ⟨by have := HJ6.out; have := HJ40.out; have := HJ112.out; have := HK4.out; first | omega | exact Nat.le_refl _⟩, ⟨by (with_reducible repeat (first | apply Kd.R_alloc | apply Kd.R_drewN | apply Kd.R_drew)); exact Kd.R_mono (Kd.R_far (p := ⟨gb369, 1, none⟩) (Kd.R_far (p := ⟨gb369, 0, none⟩) (Kd.R_mono HO_11.out (fun k_ hk => (⟨hk, hk.2⟩ : _ ∧ k_ ≠ gb369))) (fun _ hk => hk.2) (.float .f64 b_t366)) (fun _ hk => hk.2) (.float .f64 b_t367)) (fun _ hk => ⟨hk.1.1, hk.1.2⟩)⟩, ⟨by (with_reducible repeat (first | apply Kd.R_alloc | apply Kd.R_drewN | apply Kd.R_drew)); exact Kd.R_mono (Kd.R_far (p := ⟨gb369, 1, none⟩) (Kd.R_far (p := ⟨gb369, 0, none⟩) (Kd.R_mono HO_12.out (fun k_ hk => (⟨hk, hk.2⟩ : _ ∧ k_ ≠ gb369))) (fun _ hk => hk.2) (.float .f64 b_t366)) (fun _ hk => hk.2) (.float .f64 b_t367)) (fun _ hk => ⟨hk.1.1, hk.1.2⟩)⟩, ⟨by (with_reducible repeat (first | refine blk_drewN ?_ _ | refine blk_drew ?_ | refine blk_alloc ?_ _)); refine blk_put (cs := #[.float .f64 b_t366, .float .f64 0]) ?_ 1 _ rfl; (with_reducible repeat (first | refine blk_drewN ?_ _ | refine blk_drew ?_ | refine blk_alloc ?_ _)); refine blk_put (cs := #[.float .f64 0, .float .f64 0]) ?_ 0 _ rfl; (with_reducible repeat (first | refine blk_drewN ?_ _ | refine blk_drew ?_ | refine blk_alloc ?_ _)); exact BK369.out⟩, ⟨by repeat (first | (with_reducible first | exact HB.out | apply below_alloc | apply pw_below_drewN | apply below_drew1 | refine below_set ?_ GE369.out) | exact HB.out)⟩⟩
                                · replace c128 := Bool.eq_false_iff.mpr c128
                                  subst c128
                                  have H1 : (laws_FnSizes.j4 k4 t358 t361 x14_4 true) = some r := by rw [if_neg (show ¬ (false = true) by decide)] at H; exact H
                                  clear H
                                  have H := H1
                                  clear H1
                                  have H' := Aside0.mk H
                                  clear H
                                  go_wp2
                                  go_meet
                                  case rel => exact ⟨_, (true), (by first | rfl | (simp; done) | (simp [*]; done)), H', ⟨by have := HJ6.out; have := HJ40.out; have := HJ112.out; have := HK4.out; first | omega | exact Nat.le_refl _⟩, ⟨by (with_reducible repeat (first | apply Kd.R_alloc | apply Kd.R_drewN | apply Kd.R_drew)); exact Kd.R_mono (Kd.R_far (p := ⟨gb369, 1, none⟩) (Kd.R_far (p := ⟨gb369, 0, none⟩) (Kd.R_mono HO_11.out (fun k_ hk => (⟨hk, hk.2⟩ : _ ∧ k_ ≠ gb369))) (fun _ hk => hk.2) (.float .f64 b_t366)) (fun _ hk => hk.2) (.float .f64 b_t367)) (fun _ hk => ⟨hk.1.1, hk.1.2⟩)⟩, ⟨by (with_reducible repeat (first | apply Kd.R_alloc | apply Kd.R_drewN | apply Kd.R_drew)); exact Kd.R_mono (Kd.R_far (p := ⟨gb369, 1, none⟩) (Kd.R_far (p := ⟨gb369, 0, none⟩) (Kd.R_mono HO_12.out (fun k_ hk => (⟨hk, hk.2⟩ : _ ∧ k_ ≠ gb369))) (fun _ hk => hk.2) (.float .f64 b_t366)) (fun _ hk => hk.2) (.float .f64 b_t367)) (fun _ hk => ⟨hk.1.1, hk.1.2⟩)⟩, ⟨by (with_reducible repeat (first | refine blk_drewN ?_ _ | refine blk_drew ?_ | refine blk_alloc ?_ _)); refine blk_put (cs := #[.float .f64 b_t366, .float .f64 0]) ?_ 1 _ rfl; (with_reducible repeat (first | refine blk_drewN ?_ _ | refine blk_drew ?_ | refine blk_alloc ?_ _)); refine blk_put (cs := #[.float .f64 0, .float .f64 0]) ?_ 0 _ rfl; (with_reducible repeat (first | refine blk_drewN ?_ _ | refine blk_drew ?_ | refine blk_alloc ?_ _)); exact BK369.out⟩, ⟨by repeat (first | (with_reducible first | exact HB.out | apply below_alloc | apply pw_below_drewN | apply below_drew1 | refine below_set ?_ GE369.out) | exact HB.out)⟩⟩
                              case rest =>
                                clear HC123
                                try clear c1
                                try clear c2
                                try clear p2
                                try clear c3
                                try clear p3
                                try clear q3
                                try clear hx3
                                try clear c6
                                try clear p6
                                try clear c7
                                try clear c8
                                try clear c9
                                try clear c10
                                try clear c11
                                try clear c12
                                try clear c23
                                try clear p36
                                try clear q36
                                try clear hx36
                                try clear c38
                                try clear c60
                                try clear c61
                                try clear c62
                                try clear c64
                                try clear p64
                                try clear c70
                                try clear c72
                                try clear c74
                                try clear c76
                                try clear c77
                                try clear c78
                                try clear c80
                                try clear c81
                                try clear c83
                                try clear c86
                                try clear c87
                                try clear c88
                                try clear c90
                                try clear c91
                                try clear c93
                                try clear c96
                                try clear c97
                                try clear c98
                                try clear c100
                                try clear c101
                                try clear c103
                                try clear c104
                                try clear c105
                                try clear c107
                                try clear c108
                                try clear c110
                                try clear c117
                                try clear c119
                                try clear c120
                                try clear c120b0
                                try clear c121
                                try clear c121b0
                                try clear c128
                                try clear c129
                                try clear c129b0
                                try clear hcz102_0
                                try clear hcz102_1
                                try clear hcz106_0
                                try clear hcz106_1
                                try clear hcz109_0
                                try clear hcz109_1
                                try clear hcz127_0
                                try clear hcz127_1
                                try clear hcz130_0
                                try clear hcz130_1
                                try clear hcz131_0
                                try clear hcz131_1
                                try clear hcz79_0
                                try clear hcz79_1
                                try clear hcz82_0
                                try clear hcz82_1
                                try clear hcz84_0
                                try clear hcz84_1
                                try clear hcz85_0
                                try clear hcz85_1
                                try clear hcz89_0
                                try clear hcz89_1
                                try clear hcz92_0
                                try clear hcz92_1
                                try clear hcz94_0
                                try clear hcz94_1
                                try clear hcz95_0
                                try clear hcz95_1
                                try clear hcz99_0
                                try clear hcz99_1
                                try clear hfz102_0
                                try clear hfz102_1
                                try clear hfz106_0
                                try clear hfz106_1
                                try clear hfz109_0
                                try clear hfz109_1
                                try clear hfz127_0
                                try clear hfz127_1
                                try clear hfz130_0
                                try clear hfz130_1
                                try clear hfz131_0
                                try clear hfz131_1
                                try clear hfz79_0
                                try clear hfz79_1
                                try clear hfz82_0
                                try clear hfz82_1
                                try clear hfz84_0
                                try clear hfz84_1
                                try clear hfz85_0
                                try clear hfz85_1
                                try clear hfz89_0
                                try clear hfz89_1
                                try clear hfz92_0
                                try clear hfz92_1
                                try clear hfz94_0
                                try clear hfz94_1
                                try clear hfz95_0
                                try clear hfz95_1
                                try clear hfz99_0
                                try clear hfz99_1
                                try clear hx365_0
                                try clear hx365_1
                                try clear p2
                                try clear p365
                                try clear p6
                                try clear p64
                                try clear q365
                                obtain ⟨kq, x144_122, rfl, HA, HJ122, HO_11, HO_12, BK369, HB⟩ := hcut
                                cases kq with
                                | zero => exact absurd HA.out (by simp [laws_FnSizes.j4])
                                | succ kj122 =>
                                  have H := HA.out
                                  clear HA
                                  simp only [laws_FnSizes.j4] at H
                                  by_cases c132 : x144_122 = true
                                  · subst c132
                                    have H1 : (some false) = some r := by rw [if_pos rfl] at H; exact H
                                    clear H
                                    have H := H1
                                    clear H1
                                    obtain rfl := Option.some.inj H
                                    go_wp2
                                    go_ret
                                    exact ⟨by first | rfl | (simp [errW_none, errW_some] <;> rfl) | (simp [*, errW_none, errW_some] <;> rfl), by repeat (first | (with_reducible first | exact HB.out | apply below_alloc | apply pw_below_drewN | apply below_drew1) | exact HB.out)⟩
                                  · replace c132 := Bool.eq_false_iff.mpr c132
                                    subst c132
                                    have H1 : (laws_FnSizes.l0 kj122 t358 t361 (wrap64 (x14_4 + 1))) = some r := by rw [if_neg (show ¬ (false = true) by decide)] at H; exact H
                                    clear H
                                    have H := H1
                                    clear H1
                                    have H' := Aside0.mk H
                                    clear H
                                    go_wp2
                                    go_roundg kj122
                                    case measure => have := HJ6.out; have := HJ40.out; have := HJ112.out; have := HK4.out; have := HJ122.out; omega
                                    case rel => exact ⟨(wrap64 (x14_4 + 1)), (by first | rfl | (simp; done) | (simp [*]; done)), H', ⟨by have := HJ6.out; have := HJ40.out; have := HJ112.out; have := HK4.out; have := HJ122.out; omega⟩, ⟨by (with_reducible repeat (first | apply Kd.R_alloc | apply Kd.R_drewN | apply Kd.R_drew)); exact Kd.R_mono HO_11.out (fun _ hk => hk.1)⟩, ⟨by (with_reducible repeat (first | apply Kd.R_alloc | apply Kd.R_drewN | apply Kd.R_drew)); exact Kd.R_mono HO_12.out (fun _ hk => hk.1)⟩, ⟨by repeat (first | (with_reducible first | exact HB.out | apply below_alloc | apply pw_below_drewN | apply below_drew1) | exact HB.out)⟩⟩
                            · rw [if_neg c121] at H
                              exact absurd H (by simp)
                          · rw [if_neg c120] at H
                            have c120b0 : decide (x14_4 < (t358.length : Int)) = false := decide_eq_false c120
                            clear c120
                            replace H := Option.bind_eq_some_iff.mp H
                            obtain ⟨⟨t370, t371⟩, A1330, H⟩ := H
                            replace H : (laws_FnSizes.l1 k4 t358 t361 t370 t371 0 0) = some r := H
                            have A133 := Aside0.mk A1330
                            clear A1330
                            have H' := Aside0.mk H
                            clear H
                            go_wp2_with (first | ((with_reducible refine gate_callee (f := 27) rfl ?_); refine goesL_ (some 147) rfl rfl Try.func27 (by kernel_rfl) rfl #[.slice Ao115 t358.length co115] rfl (by (try simp only [List.map_toArray, List.map_cons, List.map_nil]); first | done | rfl | (simp only [List.length_drop, List.length_take]; rfl)) ?_; (with_reducible refine (impl_Damped.calls k4 _ _ t358 t370 t371 _ ?side1 ?side2 A133.out).mono ?_); (case side1 => repeat (first | exact (Kd.R_reads' HO_11.out).2.2 | (with_reducible refine Kd.C_alloc ?_ _) | (with_reducible refine Kd.C_drewN ?_ _) | (with_reducible refine Kd.C_drew ?_))); (case side2 => exact (Kd.R_reads' HO_11.out).2.1); rintro e w134 ⟨rfl, hb⟩; refine ⟨_, rfl, ?_⟩; have n0_ := Aside0.mk (Kd.R_below (by exact HO_11.out) hb); have n1_ := Aside0.mk (Kd.R_below (by exact HO_12.out) hb); have n2_ := Aside0.mk (below_step (by exact HB.out) hb); clear HO_11; clear HO_12; clear HB; have HO_11 := n0_; have HO_12 := n1_; have HB := n2_; clear n0_ n1_ n2_; (try clear hb); (try clear hb2); (try clear hk); (try clear hi)))
                            go_loopg [19, 20] k4 (fun kq v19 v20 w' => ∃ (x19_5 : Int) (x20_5 : Int), v19 = .int .i64 x19_5 ∧ v20 = .int .i64 x20_5 ∧ Aside0 (laws_FnSizes.l1 kq t358 t361 t370 t371 x19_5 x20_5 = some r) ∧ Aside0 (kq ≤ k4) ∧ Aside0 (Kd.R k34 34 w' w.heap.size (fun k_ => some k_ ≠ (v363 : Value).ownBlock) (.slice Ao115 t358.length co115) t358) ∧ Aside0 (Kd.R k34 34 w' w.heap.size (fun k_ => some k_ ≠ ((.slice Ao115 t358.length co115) : Value).ownBlock) v363 t361) ∧ Aside0 (Below w.heap.size w w'))
                            case atStart => exact ⟨(0), (0), (by first | rfl | (simp; done) | (simp [*]; done)), (by first | rfl | (simp; done) | (simp [*]; done)), H', ⟨Nat.le_refl _⟩, ⟨by (with_reducible repeat (first | apply Kd.R_alloc | apply Kd.R_drewN | apply Kd.R_drew)); exact HO_11.out⟩, ⟨by (with_reducible repeat (first | apply Kd.R_alloc | apply Kd.R_drewN | apply Kd.R_drew)); exact HO_12.out⟩, ⟨by repeat (first | (with_reducible first | exact HB.out | apply below_alloc | apply pw_below_drewN | apply below_drew1) | exact HB.out)⟩⟩
                            case round =>
                              clear H'
                              try clear c1
                              try clear c2
                              try clear p2
                              try clear c3
                              try clear p3
                              try clear q3
                              try clear hx3
                              try clear c6
                              try clear p6
                              try clear c7
                              try clear c8
                              try clear c9
                              try clear c10
                              try clear c11
                              try clear c12
                              try clear c13
                              try clear c23
                              try clear c27
                              try clear p36
                              try clear q36
                              try clear hx36
                              try clear c38
                              try clear c60
                              try clear c61
                              try clear c62
                              try clear c64
                              try clear p64
                              try clear c70
                              try clear c72
                              try clear c74
                              try clear c76
                              try clear c77
                              try clear c78
                              try clear c80
                              try clear c81
                              try clear c83
                              try clear c86
                              try clear c87
                              try clear c88
                              try clear c90
                              try clear c91
                              try clear c93
                              try clear c96
                              try clear c97
                              try clear c98
                              try clear c100
                              try clear c101
                              try clear c103
                              try clear c104
                              try clear c105
                              try clear c107
                              try clear c108
                              try clear c110
                              try clear c117
                              try clear c119
                              try clear c120
                              try clear c120b0
                              try clear c121
                              try clear c121b0
                              try clear c128
                              try clear c129
                              try clear c129b0
                              try clear c132
                              try clear hcz102_0
                              try clear hcz102_1
                              try clear hcz106_0
                              try clear hcz106_1
                              try clear hcz109_0
                              try clear hcz109_1
                              try clear hcz127_0
                              try clear hcz127_1
                              try clear hcz130_0
                              try clear hcz130_1
                              try clear hcz131_0
                              try clear hcz131_1
                              try clear hcz79_0
                              try clear hcz79_1
                              try clear hcz82_0
                              try clear hcz82_1
                              try clear hcz84_0
                              try clear hcz84_1
                              try clear hcz85_0
                              try clear hcz85_1
                              try clear hcz89_0
                              try clear hcz89_1
                              try clear hcz92_0
                              try clear hcz92_1
                              try clear hcz94_0
                              try clear hcz94_1
                              try clear hcz95_0
                              try clear hcz95_1
                              try clear hcz99_0
                              try clear hcz99_1
                              try clear hfz102_0
                              try clear hfz102_1
                              try clear hfz106_0
                              try clear hfz106_1
                              try clear hfz109_0
                              try clear hfz109_1
                              try clear hfz127_0
                              try clear hfz127_1
                              try clear hfz130_0
                              try clear hfz130_1
                              try clear hfz131_0
                              try clear hfz131_1
                              try clear hfz79_0
                              try clear hfz79_1
                              try clear hfz82_0
                              try clear hfz82_1
                              try clear hfz84_0
                              try clear hfz84_1
                              try clear hfz85_0
                              try clear hfz85_1
                              try clear hfz89_0
                              try clear hfz89_1
                              try clear hfz92_0
                              try clear hfz92_1
                              try clear hfz94_0
                              try clear hfz94_1
                              try clear hfz95_0
                              try clear hfz95_1
                              try clear hfz99_0
                              try clear hfz99_1
                              try clear hx365_0
                              try clear hx365_1
                              try clear p2
                              try clear p3
                              try clear p36
                              try clear p365
                              try clear p6
                              try clear p64
                              try clear q3
                              try clear q36
                              try clear q365
                              obtain ⟨x19_5, x20_5, rfl, rfl, HA, HK5, HO_11, HO_12, HB⟩ := hrel
                              cases gk with
                              | zero => exact absurd HA.out (by simp [laws_FnSizes.l1])
                              | succ k5 =>
                                have H := HA.out
                                clear HA
                                simp only [laws_FnSizes.l1] at H
                                by_cases c135 : x20_5 < (t358.length : Int)
                                · rw [if_pos c135] at H
                                  have c135b0 : decide (x20_5 < (t358.length : Int)) = true := decide_eq_true c135
                                  clear c135
                                  by_cases c136 : 0 ≤ x20_5
                                  · rw [if_pos c136] at H
                                    have c136b0 : decide (0 ≤ x20_5) = true := decide_eq_true c136
                                    clear c136
                                    obtain ⟨fr374_0, hfr374_0⟩ : ∃ y_ : Fl, y_ = ((rd_T34 t358 x20_5).f0) := ⟨_, rfl⟩
                                    replace H : (if (fcmp .lss .f64 fr374_0 (cn .f64 0)) = true then (laws_FnSizes.l1 k5 t358 t361 t370 t371 (wrap64 (x19_5 + 1)) (wrap64 (x20_5 + 1))) else (laws_FnSizes.l1 k5 t358 t361 t370 t371 x19_5 (wrap64 (x20_5 + 1)))) = some r := by first | (rw [hfr374_0]; with_reducible exact H) | (have H2_ := (Option.bind_some _ _).symm.trans H; rw [hfr374_0]; with_reducible exact H2_) | (have H2_ := (Option.bind_some _ _).symm.trans H; with_reducible exact H2_) | with_reducible exact H | (rw [hfr374_0]; exact H) | exact H
                                    have Nfr374_0 := Aside0.mk hfr374_0
                                    clear hfr374_0
                                    obtain ⟨fr374_1, hfr374_1⟩ : ∃ y_ : Fl, y_ = ((rd_T34 t358 x20_5).f1) := ⟨_, rfl⟩
                                    replace H : (if (fcmp .lss .f64 fr374_0 (cn .f64 0)) = true then (laws_FnSizes.l1 k5 t358 t361 t370 t371 (wrap64 (x19_5 + 1)) (wrap64 (x20_5 + 1))) else (laws_FnSizes.l1 k5 t358 t361 t370 t371 x19_5 (wrap64 (x20_5 + 1)))) = some r := by first | (rw [hfr374_1]; with_reducible exact H) | (have H2_ := (Option.bind_some _ _).symm.trans H; rw [hfr374_1]; with_reducible exact H2_) | (have H2_ := (Option.bind_some _ _).symm.trans H; with_reducible exact H2_) | with_reducible exact H | (rw [hfr374_1]; exact H) | exact H
                                    have Nfr374_1 := Aside0.mk hfr374_1
                                    clear hfr374_1
                                    by_cases c137 : (fcmp .lss .f64 fr374_0 (cn .f64 0)) = true
                                    · rw [if_pos c137] at H
                                      have c137b0 : (fcmp .lss .f64 fr374_0 (cn .f64 0)) = true := c137
                                      clear c137
                                      have H' := Aside0.mk H
                                      clear H
                                      have p374 : 0 ≤ (x20_5 : Int) := of_decide_eq_true (by first | (with_reducible assumption) | assumption)
                                      have q374 : x20_5 < (t358.length : Int) := of_decide_eq_true (by first | (with_reducible assumption) | assumption)
                                      obtain ⟨ad374, b_fr374_0, b_fr374_1, e374, hx374_0, hx374_1, hF374_0, hF374_1⟩ := at_T34 (Kd.R_reads' HO_11.out).2.2 x20_5 p374 q374
                                      have hF_fr374_0 := hF374_0.trans Nfr374_0.out.symm
                                      clear hF374_0
                                      have hF_fr374_1 := hF374_1.trans Nfr374_1.out.symm
                                      clear hF374_1
                                      cases e374
                                      replace p374 := eq_true p374
                                      replace q374 := eq_true q374
                                      go_wp2
                                      go_roundg k5
                                      case measure => have := HJ6.out; have := HJ40.out; have := HJ112.out; have := HK4.out; have := HK5.out; omega
                                      case rel => exact ⟨(wrap64 (x19_5 + 1)), (wrap64 (x20_5 + 1)), (by first | rfl | (simp; done) | (simp [*]; done)), (by first | rfl | (simp; done) | (simp [*]; done)), H', ⟨by have := HJ6.out; have := HJ40.out; have := HJ112.out; have := HK4.out; have := HK5.out; omega⟩, ⟨by (with_reducible repeat (first | apply Kd.R_alloc | apply Kd.R_drewN | apply Kd.R_drew)); exact HO_11.out⟩, ⟨by (with_reducible repeat (first | apply Kd.R_alloc | apply Kd.R_drewN | apply Kd.R_drew)); exact HO_12.out⟩, ⟨by repeat (first | (with_reducible first | exact HB.out | apply below_alloc | apply pw_below_drewN | apply below_drew1) | exact HB.out)⟩⟩
                                    · rw [if_neg c137] at H
                                      have c137b0 : (fcmp .lss .f64 fr374_0 (cn .f64 0)) = false := by simpa using c137
                                      clear c137
                                      have H' := Aside0.mk H
                                      clear H
                                      have p374 : 0 ≤ (x20_5 : Int) := of_decide_eq_true (by first | (with_reducible assumption) | assumption)
                                      have q374 : x20_5 < (t358.length : Int) := of_decide_eq_true (by first | (with_reducible assumption) | assumption)
                                      obtain ⟨ad374, b_fr374_0, b_fr374_1, e374, hx374_0, hx374_1, hF374_0, hF374_1⟩ := at_T34 (Kd.R_reads' HO_11.out).2.2 x20_5 p374 q374
                                      have hF_fr374_0 := hF374_0.trans Nfr374_0.out.symm
                                      clear hF374_0
                                      have hF_fr374_1 := hF374_1.trans Nfr374_1.out.symm
                                      clear hF374_1
                                      cases e374
                                      replace p374 := eq_true p374
                                      replace q374 := eq_true q374
                                      go_wp2
                                      go_roundg k5
                                      case measure => have := HJ6.out; have := HJ40.out; have := HJ112.out; have := HK4.out; have := HK5.out; omega
                                      case rel => exact ⟨(x19_5), (wrap64 (x20_5 + 1)), (by first | rfl | (simp; done) | (simp [*]; done)), (by first | rfl | (simp; done) | (simp [*]; done)), H', ⟨by have := HJ6.out; have := HJ40.out; have := HJ112.out; have := HK4.out; have := HK5.out; omega⟩, ⟨by (with_reducible repeat (first | apply Kd.R_alloc | apply Kd.R_drewN | apply Kd.R_drew)); exact HO_11.out⟩, ⟨by (with_reducible repeat (first | apply Kd.R_alloc | apply Kd.R_drewN | apply Kd.R_drew)); exact HO_12.out⟩, ⟨by repeat (first | (with_reducible first | exact HB.out | apply below_alloc | apply pw_below_drewN | apply below_drew1) | exact HB.out)⟩⟩
                                  · rw [if_neg c136] at H
                                    exact absurd H (by simp)
                                · rw [if_neg c135] at H
                                  have c135b0 : decide (x20_5 < (t358.length : Int)) = false := decide_eq_false c135
                                  clear c135
                                  by_cases c138 : t371 = true
                                  · subst c138
                                    have H1 : (if t370 = x19_5 then (if 0 < (t361.length : Int) then (if (fcmp .eql .f64 ((rd_T34 t361 0).f0) (cn .f64 4607182418800017408)) = true then (some (fcmp .eql .f64 ((rd_T34 t361 0).f1) (cn .f64 0))) else (some false)) else (none)) else (some false)) = some r := by rw [if_pos rfl] at H; exact H
                                    clear H
                                    have H := H1
                                    clear H1
                                    by_cases c139 : t370 = x19_5
                                    · rw [if_pos c139] at H
                                      have c139b0 : (t370 == x19_5) = true := beq_iff_eq.mpr c139
                                      have c139b1 : (t370 != x19_5) = false := bne_eq_false_iff_eq.mpr c139
                                      clear c139
                                      by_cases c140 : 0 < (t361.length : Int)
                                      · rw [if_pos c140] at H
                                        have c140b0 : decide (0 < (t361.length : Int)) = true := decide_eq_true c140
                                        have c140b1 : decide (0 < t361.length) = true := decide_eq_true (by omega)
                                        clear c140
                                        obtain ⟨fr372_0, hfr372_0⟩ : ∃ y_ : Fl, y_ = ((rd_T34 t361 0).f0) := ⟨_, rfl⟩
                                        replace H : (if (fcmp .eql .f64 fr372_0 (cn .f64 4607182418800017408)) = true then (some (fcmp .eql .f64 ((rd_T34 t361 0).f1) (cn .f64 0))) else (some false)) = some r := by first | (rw [hfr372_0]; with_reducible exact H) | (have H2_ := (Option.bind_some _ _).symm.trans H; rw [hfr372_0]; with_reducible exact H2_) | (have H2_ := (Option.bind_some _ _).symm.trans H; with_reducible exact H2_) | with_reducible exact H | (rw [hfr372_0]; exact H) | exact H
                                        have Nfr372_0 := Aside0.mk hfr372_0
                                        clear hfr372_0
                                        obtain ⟨fr372_1, hfr372_1⟩ : ∃ y_ : Fl, y_ = ((rd_T34 t361 0).f1) := ⟨_, rfl⟩
                                        replace H : (if (fcmp .eql .f64 fr372_0 (cn .f64 4607182418800017408)) = true then (some (fcmp .eql .f64 fr372_1 (cn .f64 0))) else (some false)) = some r := by first | (rw [hfr372_1]; with_reducible exact H) | (have H2_ := (Option.bind_some _ _).symm.trans H; rw [hfr372_1]; with_reducible exact H2_) | (have H2_ := (Option.bind_some _ _).symm.trans H; with_reducible exact H2_) | with_reducible exact H | (rw [hfr372_1]; exact H) | exact H
                                        have Nfr372_1 := Aside0.mk hfr372_1
                                        clear hfr372_1
                                        by_cases c141 : (fcmp .eql .f64 fr372_0 (cn .f64 4607182418800017408)) = true
                                        · rw [if_pos c141] at H
                                          have c141b0 : (fcmp .eql .f64 fr372_0 (cn .f64 4607182418800017408)) = true := c141
                                          clear c141
                                          obtain rfl := Option.some.inj H
                                          obtain ⟨Ao142, co142, eo142⟩ := Kd.R_slice HO_12.out
                                          subst eo142
                                          have p372 : 0 ≤ (0 : Int) := (by omega)
                                          have q372 : 0 < (t361.length : Int) := of_decide_eq_true (by first | (with_reducible assumption) | assumption)
                                          obtain ⟨ad372, b_fr372_0, b_fr372_1, e372, hx372_0, hx372_1, hF372_0, hF372_1⟩ := at_T34 (Kd.R_reads' HO_12.out).2.2 0 p372 q372
                                          have hF_fr372_0 := hF372_0.trans Nfr372_0.out.symm
                                          clear hF372_0
                                          have hF_fr372_1 := hF372_1.trans Nfr372_1.out.symm
                                          clear hF372_1
                                          cases e372
                                          have qi372 : (0 < t361.length) = True := eq_true (by omega)
                                          (try rw [show ((0 : Int)).toNat = 0 from rfl] at hx372_0)
                                          (try rw [show 0 * 2 = 0 from rfl] at hx372_0)
                                          (try rw [Addr.add_zero'] at hx372_0)
                                          (try rw [show ((0 : Int)).toNat = 0 from rfl] at hx372_1)
                                          (try rw [show 0 * 2 = 0 from rfl] at hx372_1)
                                          (try rw [Addr.add_zero'] at hx372_1)
                                          replace p372 := eq_true p372
                                          replace q372 := eq_true q372
                                          have p373 : 0 ≤ (0 : Int) := (by omega)
                                          have q373 : 0 < (t361.length : Int) := of_decide_eq_true (by first | (with_reducible assumption) | assumption)
                                          obtain ⟨ad373, b_gr373_0, b_gr373_1, e373, hx373_0, hx373_1, hF373_0, hF373_1⟩ := at_T34 (Kd.R_reads' HO_12.out).2.2 0 p373 q373
                                          clear hF373_0
                                          clear hF373_1
                                          obtain rfl : ad372 = ad373 := (by injection e373)
                                          have qi373 : (0 < t361.length) = True := eq_true (by omega)
                                          (try rw [show ((0 : Int)).toNat = 0 from rfl] at hx373_0)
                                          (try rw [show 0 * 2 = 0 from rfl] at hx373_0)
                                          (try rw [Addr.add_zero'] at hx373_0)
                                          (try rw [show ((0 : Int)).toNat = 0 from rfl] at hx373_1)
                                          (try rw [show 0 * 2 = 0 from rfl] at hx373_1)
                                          (try rw [Addr.add_zero'] at hx373_1)
                                          have ef_ := Option.some.inj (hx372_0.symm.trans hx373_0)
                                          injection ef_ with _ ef_
                                          subst ef_
                                          have ef_ := Option.some.inj (hx372_1.symm.trans hx373_1)
                                          injection ef_ with _ ef_
                                          subst ef_
                                          replace p373 := eq_true p373
                                          replace q373 := eq_true q373
                                          go_wp2
                                          go_ret
                                          exact ⟨by first | rfl | (simp [errW_none, errW_some] <;> rfl) | (simp [*, errW_none, errW_some] <;> rfl), by repeat (first | (with_reducible first | exact HB.out | apply below_alloc | apply pw_below_drewN | apply below_drew1) | exact HB.out)⟩
                                        · rw [if_neg c141] at H
                                          have c141b0 : (fcmp .eql .f64 fr372_0 (cn .f64 4607182418800017408)) = false := by simpa using c141
                                          clear c141
                                          obtain rfl := Option.some.inj H
                                          obtain ⟨Ao143, co143, eo143⟩ := Kd.R_slice HO_12.out
                                          subst eo143
                                          have p372 : 0 ≤ (0 : Int) := (by omega)
                                          have q372 : 0 < (t361.length : Int) := of_decide_eq_true (by first | (with_reducible assumption) | assumption)
                                          obtain ⟨ad372, b_fr372_0, b_fr372_1, e372, hx372_0, hx372_1, hF372_0, hF372_1⟩ := at_T34 (Kd.R_reads' HO_12.out).2.2 0 p372 q372
                                          have hF_fr372_0 := hF372_0.trans Nfr372_0.out.symm
                                          clear hF372_0
                                          have hF_fr372_1 := hF372_1.trans Nfr372_1.out.symm
                                          clear hF372_1
                                          cases e372
                                          have qi372 : (0 < t361.length) = True := eq_true (by omega)
                                          (try rw [show ((0 : Int)).toNat = 0 from rfl] at hx372_0)
                                          (try rw [show 0 * 2 = 0 from rfl] at hx372_0)
                                          (try rw [Addr.add_zero'] at hx372_0)
                                          (try rw [show ((0 : Int)).toNat = 0 from rfl] at hx372_1)
                                          (try rw [show 0 * 2 = 0 from rfl] at hx372_1)
                                          (try rw [Addr.add_zero'] at hx372_1)
                                          replace p372 := eq_true p372
                                          replace q372 := eq_true q372
                                          go_wp2
                                          go_ret
                                          exact ⟨by first | rfl | (simp [errW_none, errW_some] <;> rfl) | (simp [*, errW_none, errW_some] <;> rfl), by repeat (first | (with_reducible first | exact HB.out | apply below_alloc | apply pw_below_drewN | apply below_drew1) | exact HB.out)⟩
                                      · rw [if_neg c140] at H
                                        exact absurd H (by simp)
                                    · rw [if_neg c139] at H
                                      have c139b0 : (t370 == x19_5) = false := beq_eq_false_iff_ne.mpr c139
                                      have c139b1 : (t370 != x19_5) = true := bne_iff_ne.mpr c139
                                      obtain rfl := Option.some.inj H
                                      go_wp2
                                      go_ret
                                      exact ⟨by first | rfl | (simp [errW_none, errW_some] <;> rfl) | (simp [*, errW_none, errW_some] <;> rfl), by repeat (first | (with_reducible first | exact HB.out | apply below_alloc | apply pw_below_drewN | apply below_drew1) | exact HB.out)⟩
                                  · replace c138 := Bool.eq_false_iff.mpr c138
                                    subst c138
                                    have H1 : (some false) = some r := by rw [if_neg (show ¬ (false = true) by decide)] at H; exact H
                                    clear H
                                    have H := H1
                                    clear H1
                                    obtain rfl := Option.some.inj H
                                    go_wp2
                                    go_ret
                                    exact ⟨by first | rfl | (simp [errW_none, errW_some] <;> rfl) | (simp [*, errW_none, errW_some] <;> rfl), by repeat (first | (with_reducible first | exact HB.out | apply below_alloc | apply pw_below_drewN | apply below_drew1) | exact HB.out)⟩

/-- THE ONE PURE STATEMENT of laws_FnSizes: yours. -/
def laws_FnSizes.Pure : Prop := ∀ (l0 : List Int), l0.length ≤ maxLen → l0.length * 1 ≤ 140737488351232 → (∀ x ∈ l0, (Lit.int .u8 x).wf = true) → ∃ k, laws_FnSizes.f k l0 = some true
theorem laws_FnSizes.walk (P : laws_FnSizes.Pure) (a0 : Option Addr) (len0 cap0 : Nat) (z0 : List Int) (w : World) (w0 : (a0 = none ∧ len0 = 0 ∧ cap0 = 0 ∧ z0 = []) ∨ ∃ x, a0 = some x ∧ len0 ≤ cap0 ∧ cap0 ≤ maxLen ∧ z0.length = cap0 ∧ (∀ i, i < z0.length → w.cell? (x.add i) = some (.int .u8 (z0.getD i 0))) ∧ ∀ n ∈ z0, (Lit.int .u8 n).wf = true) (y0 : len0 * 1 ≤ 140737488351232) :
    Calls Try.prog 12 #[.slice a0 len0 cap0] w fun e w' => e = .returned (.bool true) ∧ Below w.heap.size w w' := by
  obtain ⟨l0, rfl, hr0, hm0, hw0, hc0⟩ := ReadsInt.ofRowC w0
  obtain ⟨k, h⟩ := P l0 hm0 y0 hw0
  refine (laws_FnSizes.calls k _ _ l0 true w (Kd.C_of_reads (d := (0 : Int)) (h1 := fun _ => rfl) hr0) hc0 h).mono ?_
  rintro e w' ⟨rfl, hd⟩
  exact ⟨rfl, hd⟩

end Go.Proofs.Ytfopdbdamkfglaa.QFnSizes
