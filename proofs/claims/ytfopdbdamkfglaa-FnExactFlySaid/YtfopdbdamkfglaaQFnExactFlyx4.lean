/- Lean functions that tell what the Go functions used by one law answer, and for each a proof that the Go code comes to just these answers; no condition. Printed by this session's own program over the kit's printer. -/
import Derived.Test.YtfopdbdamkfglaaQFnExactFlyx0
import Derived.Test.YtfopdbdamkfglaaQFnExactFlyx1
import Derived.Test.YtfopdbdamkfglaaQFnExactFlyx2
import Derived.Test.YtfopdbdamkfglaaQFnExactFlyx3
namespace Go.Proofs.Ytfopdbdamkfglaa.QFnExactFly
open Go.RowKit Go.Proofs.YtfopdbdamkfglaaW.PrintWords Go.Proofs.YtfopdbdamkfglaaW.PrintLast Go.Proofs.YtfopdbdamkfglaaW.PrintMore
attribute [local go_sem] max2_int min2_int max_two min_two max_three min_three max_four min_four   -- for this text's walks alone
attribute [local go_sem high] go_eql go_neq go_lss go_leq go_gtr go_geq go_store   -- for this text's walks alone
set_option linter.unusedVariables false
set_option linter.unusedSimpArgs false

/-! ### laws_FnExactFly: function 9 -/
mutual
def laws_FnExactFly.j0 : Nat → List (Fl) → Fl → List (S66) → Bool → List (Fl) → List (S66) → Bool → Bool → Fl → Fl → Fl → Fl → Fl → Fl → Fl → Fl → Fl → Option (Bool)
  | 0, _, _, _, _, _, _, _, _, _, _, _, _, _, _, _, _, _ => none
  | k + 1, x2, x3, x9, x10, x11, x12, x13, x53, x209000, x209001, x209002, x209003, x210000, x210001, x210002, x210003, x210004 => if x53 = true then (some false) else ((laws_toFloat64S.f k x2).bind fun t243 => ((laws_eqFloat64S.f k x11 t243).bind fun t246 => (if t246 = true then ((laws_markFloat64S.f k x11 1).bind fun bt247 => (if bt247.1 < 0 then (laws_FnExactFly.j1 k x2 x3 x9 x10 x12 true x209000 x209001 x209002 x209003 x210000 x210001 x210002 x210003 x210004) else ((laws_eqMotionS.f k x12 x9).bind fun t249 => (if t249 = true then (laws_FnExactFly.j1 k x2 x3 x9 x10 x12 (x13 != x10) x209000 x209001 x209002 x209003 x210000 x210001 x210002 x210003 x210004) else (laws_FnExactFly.j1 k x2 x3 x9 x10 x12 true x209000 x209001 x209002 x209003 x210000 x210001 x210002 x210003 x210004))))) else (some false))))
def laws_FnExactFly.j1 : Nat → List (Fl) → Fl → List (S66) → Bool → List (S66) → Bool → Fl → Fl → Fl → Fl → Fl → Fl → Fl → Fl → Fl → Option (Bool)
  | 0, _, _, _, _, _, _, _, _, _, _, _, _, _, _, _ => none
  | k + 1, x2, x3, x9, x10, x12, x74, x209000, x209001, x209002, x209003, x210000, x210001, x210002, x210003, x210004 => if x74 = true then (some false) else ((laws_markMotionS.f k x12 1).bind fun bt250 => ((laws_heldMotionS.f k bt250.2 1).bind fun t252 => (if t252 < 0 then (some false) else (if t252 = bt250.1 then ((laws_toMotion.f x209000 x209001 x209002 x209003).bind fun bt253 => ((laws_toForces.f x210000 x210001 x210002 x210003 x210004).bind fun bt257 => ((laws_toFloat64S.f k x2).bind fun t262 => ((impl_Fly.f k bt253.1 bt253.2.1 bt253.2.2.1 bt253.2.2.2 bt257.1 bt257.2.1 bt257.2.2.1 bt257.2.2.2.1 bt257.2.2.2.2 t262 x3).bind fun bt265 => ((laws_eqMotionS.f k bt265.1 x9).bind fun t269 => (if t269 = true then (laws_FnExactFly.j2 k bt250.2 bt250.1 (bt265.2 != x10)) else (laws_FnExactFly.j2 k bt250.2 bt250.1 true))))))) else (some false)))))
def laws_FnExactFly.j2 : Nat → List (S66) → Int → Bool → Option (Bool)
  | 0, _, _, _ => none
  | k + 1, x12, x15, x105 => if x105 = true then (some false) else ((laws_heldMotionS.f k x12 1).bind fun t270 => (if t270 < 0 then (some false) else (if t270 = x15 then (some true) else (some false))))
end
def laws_FnExactFly.f (k : Nat) (a0_0 : Fl) (a0_1 : Fl) (a0_2 : Fl) (a0_3 : Fl) (a1_0 : Fl) (a1_1 : Fl) (a1_2 : Fl) (a1_3 : Fl) (a1_4 : Fl) (l2 : List (Fl)) (a3 : Fl) : Option (Bool) := if (l2.length : Int) > 1048576 then (some true) else ((laws_toMotion.f a0_0 a0_1 a0_2 a0_3).bind fun bt210 => ((laws_toForces.f a1_0 a1_1 a1_2 a1_3 a1_4).bind fun bt214 => ((laws_toFloat64S.f k l2).bind fun t219 => ((spec_Fly.f k bt210.1 bt210.2.1 bt210.2.2.1 bt210.2.2.2 bt214.1 bt214.2.1 bt214.2.2.1 bt214.2.2.2.1 bt214.2.2.2.2 t219 a3).bind fun bt222 => ((laws_toFloat64S.f k l2).bind fun t226 => ((laws_toMotion.f a0_0 a0_1 a0_2 a0_3).bind fun bt229 => ((laws_toForces.f a1_0 a1_1 a1_2 a1_3 a1_4).bind fun bt233 => ((impl_Fly.f k bt229.1 bt229.2.1 bt229.2.2.1 bt229.2.2.2 bt233.1 bt233.2.1 bt233.2.2.1 bt233.2.2.2.1 bt233.2.2.2.2 t226 a3).bind fun bt238 => ((laws_eqMotionS.f k bt238.1 bt222.1).bind fun t242 => (if t242 = true then (laws_FnExactFly.j0 k l2 a3 bt222.1 bt222.2 t226 bt238.1 bt238.2 (bt238.2 != bt222.2) a0_0 a0_1 a0_2 a0_3 a1_0 a1_1 a1_2 a1_3 a1_4) else (laws_FnExactFly.j0 k l2 a3 bt222.1 bt222.2 t226 bt238.1 bt238.2 true a0_0 a0_1 a0_2 a0_3 a1_0 a1_1 a1_2 a1_3 a1_4)))))))))))
theorem laws_FnExactFly.mono_l : ∀ k, (∀ y0 y1 y2 y3 y4 y5 y6 y7 y8 y9 y10 y11 y12 y13 y14 y15 y16, LeO (laws_FnExactFly.j0 k y0 y1 y2 y3 y4 y5 y6 y7 y8 y9 y10 y11 y12 y13 y14 y15 y16) (laws_FnExactFly.j0 (k + 1) y0 y1 y2 y3 y4 y5 y6 y7 y8 y9 y10 y11 y12 y13 y14 y15 y16)) ∧ (∀ y0 y1 y2 y3 y4 y5 y6 y7 y8 y9 y10 y11 y12 y13 y14, LeO (laws_FnExactFly.j1 k y0 y1 y2 y3 y4 y5 y6 y7 y8 y9 y10 y11 y12 y13 y14) (laws_FnExactFly.j1 (k + 1) y0 y1 y2 y3 y4 y5 y6 y7 y8 y9 y10 y11 y12 y13 y14)) ∧ (∀ y0 y1 y2, LeO (laws_FnExactFly.j2 k y0 y1 y2) (laws_FnExactFly.j2 (k + 1) y0 y1 y2))
  | 0 => ⟨fun _ _ _ _ _ _ _ _ _ _ _ _ _ _ _ _ _ r h => by simp [laws_FnExactFly.j0] at h, fun _ _ _ _ _ _ _ _ _ _ _ _ _ _ _ r h => by simp [laws_FnExactFly.j1] at h, fun _ _ _ r h => by simp [laws_FnExactFly.j2] at h⟩
  | k + 1 => by
    obtain ⟨ih0, ih1, ih2⟩ := laws_FnExactFly.mono_l k
    refine ⟨?_, ?_, ?_⟩
    · intro y0 y1 y2 y3 y4 y5 y6 y7 y8 y9 y10 y11 y12 y13 y14 y15 y16
      unfold laws_FnExactFly.j0
      repeat' first
      | (with_reducible exact ih0 _ _ _ _ _ _ _ _ _ _ _ _ _ _ _ _ _)
      | (with_reducible exact ih1 _ _ _ _ _ _ _ _ _ _ _ _ _ _ _)
      | (with_reducible exact ih2 _ _ _)
      | (with_reducible exact impl_Fly.mono _ _ _ _ _ _ _ _ _ _ _ _)
      | (with_reducible exact laws_eqFloat64S.mono _ _ _)
      | (with_reducible exact laws_eqMotionS.mono _ _ _)
      | (with_reducible exact laws_heldMotionS.mono _ _ _)
      | (with_reducible exact laws_markFloat64S.mono _ _ _)
      | (with_reducible exact laws_markMotionS.mono _ _ _)
      | (with_reducible exact laws_toFloat64S.mono _ _)
      | (with_reducible exact spec_Fly.mono _ _ _ _ _ _ _ _ _ _ _ _)
      | (with_reducible exact LeO.refl _)
      | (with_reducible exact LeO.none _)
      | (with_reducible refine LeO.ite ?_ ?_)
      | (with_reducible refine LeO.bind ?_ (fun _ => ?_))
      | exact ih0 _ _ _ _ _ _ _ _ _ _ _ _ _ _ _ _ _
      | exact ih1 _ _ _ _ _ _ _ _ _ _ _ _ _ _ _
      | exact ih2 _ _ _
      | exact impl_Fly.mono _ _ _ _ _ _ _ _ _ _ _ _
      | exact laws_eqFloat64S.mono _ _ _
      | exact laws_eqMotionS.mono _ _ _
      | exact laws_heldMotionS.mono _ _ _
      | exact laws_markFloat64S.mono _ _ _
      | exact laws_markMotionS.mono _ _ _
      | exact laws_toFloat64S.mono _ _
      | exact spec_Fly.mono _ _ _ _ _ _ _ _ _ _ _ _
      | exact LeO.none _
      | refine LeO.ite ?_ ?_
      | refine LeO.bind ?_ (fun _ => ?_)
    · intro y0 y1 y2 y3 y4 y5 y6 y7 y8 y9 y10 y11 y12 y13 y14
      unfold laws_FnExactFly.j1
      repeat' first
      | (with_reducible exact ih0 _ _ _ _ _ _ _ _ _ _ _ _ _ _ _ _ _)
      | (with_reducible exact ih1 _ _ _ _ _ _ _ _ _ _ _ _ _ _ _)
      | (with_reducible exact ih2 _ _ _)
      | (with_reducible exact impl_Fly.mono _ _ _ _ _ _ _ _ _ _ _ _)
      | (with_reducible exact laws_eqFloat64S.mono _ _ _)
      | (with_reducible exact laws_eqMotionS.mono _ _ _)
      | (with_reducible exact laws_heldMotionS.mono _ _ _)
      | (with_reducible exact laws_markFloat64S.mono _ _ _)
      | (with_reducible exact laws_markMotionS.mono _ _ _)
      | (with_reducible exact laws_toFloat64S.mono _ _)
      | (with_reducible exact spec_Fly.mono _ _ _ _ _ _ _ _ _ _ _ _)
      | (with_reducible exact LeO.refl _)
      | (with_reducible exact LeO.none _)
      | (with_reducible refine LeO.ite ?_ ?_)
      | (with_reducible refine LeO.bind ?_ (fun _ => ?_))
      | exact ih0 _ _ _ _ _ _ _ _ _ _ _ _ _ _ _ _ _
      | exact ih1 _ _ _ _ _ _ _ _ _ _ _ _ _ _ _
      | exact ih2 _ _ _
      | exact impl_Fly.mono _ _ _ _ _ _ _ _ _ _ _ _
      | exact laws_eqFloat64S.mono _ _ _
      | exact laws_eqMotionS.mono _ _ _
      | exact laws_heldMotionS.mono _ _ _
      | exact laws_markFloat64S.mono _ _ _
      | exact laws_markMotionS.mono _ _ _
      | exact laws_toFloat64S.mono _ _
      | exact spec_Fly.mono _ _ _ _ _ _ _ _ _ _ _ _
      | exact LeO.none _
      | refine LeO.ite ?_ ?_
      | refine LeO.bind ?_ (fun _ => ?_)
    · intro y0 y1 y2
      unfold laws_FnExactFly.j2
      repeat' first
      | (with_reducible exact ih0 _ _ _ _ _ _ _ _ _ _ _ _ _ _ _ _ _)
      | (with_reducible exact ih1 _ _ _ _ _ _ _ _ _ _ _ _ _ _ _)
      | (with_reducible exact ih2 _ _ _)
      | (with_reducible exact impl_Fly.mono _ _ _ _ _ _ _ _ _ _ _ _)
      | (with_reducible exact laws_eqFloat64S.mono _ _ _)
      | (with_reducible exact laws_eqMotionS.mono _ _ _)
      | (with_reducible exact laws_heldMotionS.mono _ _ _)
      | (with_reducible exact laws_markFloat64S.mono _ _ _)
      | (with_reducible exact laws_markMotionS.mono _ _ _)
      | (with_reducible exact laws_toFloat64S.mono _ _)
      | (with_reducible exact spec_Fly.mono _ _ _ _ _ _ _ _ _ _ _ _)
      | (with_reducible exact LeO.refl _)
      | (with_reducible exact LeO.none _)
      | (with_reducible refine LeO.ite ?_ ?_)
      | (with_reducible refine LeO.bind ?_ (fun _ => ?_))
      | exact ih0 _ _ _ _ _ _ _ _ _ _ _ _ _ _ _ _ _
      | exact ih1 _ _ _ _ _ _ _ _ _ _ _ _ _ _ _
      | exact ih2 _ _ _
      | exact impl_Fly.mono _ _ _ _ _ _ _ _ _ _ _ _
      | exact laws_eqFloat64S.mono _ _ _
      | exact laws_eqMotionS.mono _ _ _
      | exact laws_heldMotionS.mono _ _ _
      | exact laws_markFloat64S.mono _ _ _
      | exact laws_markMotionS.mono _ _ _
      | exact laws_toFloat64S.mono _ _
      | exact spec_Fly.mono _ _ _ _ _ _ _ _ _ _ _ _
      | exact LeO.none _
      | refine LeO.ite ?_ ?_
      | refine LeO.bind ?_ (fun _ => ?_)
theorem laws_FnExactFly.mono : ∀ a0 a1 a2 a3 a4 a5 a6 a7 a8 a9 a10 k, LeO (laws_FnExactFly.f k a0 a1 a2 a3 a4 a5 a6 a7 a8 a9 a10) (laws_FnExactFly.f (k + 1) a0 a1 a2 a3 a4 a5 a6 a7 a8 a9 a10) := by
  intro a0 a1 a2 a3 a4 a5 a6 a7 a8 a9 a10 k
  obtain ⟨ih0, ih1, ih2⟩ := laws_FnExactFly.mono_l k
  unfold laws_FnExactFly.f
  repeat' first
      | (with_reducible exact ih0 _ _ _ _ _ _ _ _ _ _ _ _ _ _ _ _ _)
      | (with_reducible exact ih1 _ _ _ _ _ _ _ _ _ _ _ _ _ _ _)
      | (with_reducible exact ih2 _ _ _)
      | (with_reducible exact impl_Fly.mono _ _ _ _ _ _ _ _ _ _ _ _)
      | (with_reducible exact laws_eqFloat64S.mono _ _ _)
      | (with_reducible exact laws_eqMotionS.mono _ _ _)
      | (with_reducible exact laws_heldMotionS.mono _ _ _)
      | (with_reducible exact laws_markFloat64S.mono _ _ _)
      | (with_reducible exact laws_markMotionS.mono _ _ _)
      | (with_reducible exact laws_toFloat64S.mono _ _)
      | (with_reducible exact spec_Fly.mono _ _ _ _ _ _ _ _ _ _ _ _)
      | (with_reducible exact LeO.refl _)
      | (with_reducible exact LeO.none _)
      | (with_reducible refine LeO.ite ?_ ?_)
      | (with_reducible refine LeO.bind ?_ (fun _ => ?_))
      | exact ih0 _ _ _ _ _ _ _ _ _ _ _ _ _ _ _ _ _
      | exact ih1 _ _ _ _ _ _ _ _ _ _ _ _ _ _ _
      | exact ih2 _ _ _
      | exact impl_Fly.mono _ _ _ _ _ _ _ _ _ _ _ _
      | exact laws_eqFloat64S.mono _ _ _
      | exact laws_eqMotionS.mono _ _ _
      | exact laws_heldMotionS.mono _ _ _
      | exact laws_markFloat64S.mono _ _ _
      | exact laws_markMotionS.mono _ _ _
      | exact laws_toFloat64S.mono _ _
      | exact spec_Fly.mono _ _ _ _ _ _ _ _ _ _ _ _
      | exact LeO.none _
      | refine LeO.ite ?_ ?_
      | refine LeO.bind ?_ (fun _ => ?_)
def laws_FnExactFly.T3 : Bool × List (List Nat × List Nat) := (true, [([], []), ([0], [0]), ([], []), ([2, 1], [2]), ([], []), ([4, 3], [4]), ([], []), ([1, 3, 5, 6, 5], [1, 3, 5, 6]), ([7], [7]), ([8], [8]), ([8], [8]), ([9, 7, 0, 1, 2, 3, 4, 5, 6, 7, 8, 9], [9]), ([10, 11, 0, 1, 2, 3, 4, 5, 6, 7, 8, 9, 10, 11], [10])])
def laws_FnExactFly.B3 : List Nat := [0, 1, 0, 7, 0, 31, 0, 127, 255, 511, 511, 1023, 4095]
theorem laws_FnExactFly.tab3 : rtab .any (opsOf Try.f9 3) = laws_FnExactFly.T3 := by kernel_rfl
theorem laws_FnExactFly.bits3 : waitsOk laws_FnExactFly.T3.2 laws_FnExactFly.B3 = true := by kernel_rfl
def laws_FnExactFly.T5 : Bool × List (List Nat × List Nat) := (true, [([], []), ([0], [0]), ([], []), ([2, 1], [2]), ([], []), ([], []), ([1, 3, 4, 5, 3], [1, 3, 4, 5]), ([6], [6]), ([7], [7]), ([7], [7]), ([8, 6, 0, 1, 2, 3, 4, 5, 6, 7, 8], [8]), ([9, 10, 0, 1, 2, 3, 4, 5, 6, 7, 8, 9, 10], [9])])
def laws_FnExactFly.B5 : List Nat := [0, 1, 0, 7, 0, 0, 63, 127, 255, 255, 511, 2047]
theorem laws_FnExactFly.tab5 : rtab .any (opsOf Try.f9 5) = laws_FnExactFly.T5 := by kernel_rfl
theorem laws_FnExactFly.bits5 : waitsOk laws_FnExactFly.T5.2 laws_FnExactFly.B5 = true := by kernel_rfl
def laws_FnExactFly.T22 : Bool × List (List Nat × List Nat) := (true, [([], []), ([0], [0]), ([], []), ([2, 1], [2]), ([], []), ([4, 3], [4]), ([], []), ([1, 3, 5, 6, 5], [1, 3, 5, 6]), ([7], [7]), ([8], [8]), ([8], [8]), ([9, 7, 0, 1, 2, 3, 4, 5, 6, 7, 8, 9], [9]), ([10, 11, 0, 1, 2, 3, 4, 5, 6, 7, 8, 9, 10, 11], [10])])
def laws_FnExactFly.B22 : List Nat := [0, 1, 0, 7, 0, 31, 0, 127, 255, 511, 511, 1023, 4095]
theorem laws_FnExactFly.tab22 : rtab .any (opsOf Try.f9 22) = laws_FnExactFly.T22 := by kernel_rfl
theorem laws_FnExactFly.bits22 : waitsOk laws_FnExactFly.T22.2 laws_FnExactFly.B22 = true := by kernel_rfl
set_option maxHeartbeats 8000000 in
set_option maxRecDepth 100000 in
theorem laws_FnExactFly.calls (k : Nat) (b_a0_0 : Nat) (a0_0 : Fl) (b_a0_1 : Nat) (a0_1 : Fl) (b_a0_2 : Nat) (a0_2 : Fl) (b_a0_3 : Nat) (a0_3 : Fl) (b_a1_0 : Nat) (a1_0 : Fl) (b_a1_1 : Nat) (a1_1 : Fl) (b_a1_2 : Nat) (a1_2 : Fl) (b_a1_3 : Nat) (a1_3 : Fl) (b_a1_4 : Nat) (a1_4 : Fl) (A2 : Option Addr) (c2 : Nat) (l2 : List (Fl)) (b_a3 : Nat) (a3 : Fl) (r : Bool) (w : World) (hF_a0_0 : cn .f64 b_a0_0 = a0_0) (hF_a0_1 : cn .f64 b_a0_1 = a0_1) (hF_a0_2 : cn .f64 b_a0_2 = a0_2) (hF_a0_3 : cn .f64 b_a0_3 = a0_3) (hF_a1_0 : cn .f64 b_a1_0 = a1_0) (hF_a1_1 : cn .f64 b_a1_1 = a1_1) (hF_a1_2 : cn .f64 b_a1_2 = a1_2) (hF_a1_3 : cn .f64 b_a1_3 = a1_3) (hF_a1_4 : cn .f64 b_a1_4 = a1_4) (hr2 : Kd.C (Kd.fl .f64) w A2 l2.length l2) (hc2 : l2.length ≤ c2) (hF_a3 : cn .f64 b_a3 = a3) (h : laws_FnExactFly.f k a0_0 a0_1 a0_2 a0_3 a1_0 a1_1 a1_2 a1_3 a1_4 l2 a3 = some r) :
    Calls Try.prog 9 #[.agg #[.float .f64 b_a0_0, .float .f64 b_a0_1, .float .f64 b_a0_2, .float .f64 b_a0_3], .agg #[.float .f64 b_a1_0, .float .f64 b_a1_1, .float .f64 b_a1_2, .float .f64 b_a1_3, .float .f64 b_a1_4], .slice A2 l2.length c2, .float .f64 b_a3] w fun e w' => e = .returned (.bool r) ∧ Below w.heap.size w w' := by
  have hu60 := Try.underlying60
  have hu62 := Try.underlying62
  have HR2 := Aside0.mk hr2
  have HC2 := Aside0.mk hc2
  clear hr2 hc2
  have HB := Aside0.mk (Below.refl w.heap.size w)
  have H : (if (l2.length : Int) > 1048576 then (some true) else ((laws_toMotion.f a0_0 a0_1 a0_2 a0_3).bind fun bt210 => ((laws_toForces.f a1_0 a1_1 a1_2 a1_3 a1_4).bind fun bt214 => ((laws_toFloat64S.f k l2).bind fun t219 => ((spec_Fly.f k bt210.1 bt210.2.1 bt210.2.2.1 bt210.2.2.2 bt214.1 bt214.2.1 bt214.2.2.1 bt214.2.2.2.1 bt214.2.2.2.2 t219 a3).bind fun bt222 => ((laws_toFloat64S.f k l2).bind fun t226 => ((laws_toMotion.f a0_0 a0_1 a0_2 a0_3).bind fun bt229 => ((laws_toForces.f a1_0 a1_1 a1_2 a1_3 a1_4).bind fun bt233 => ((impl_Fly.f k bt229.1 bt229.2.1 bt229.2.2.1 bt229.2.2.2 bt233.1 bt233.2.1 bt233.2.2.1 bt233.2.2.2.1 bt233.2.2.2.2 t226 a3).bind fun bt238 => ((laws_eqMotionS.f k bt238.1 bt222.1).bind fun t242 => (if t242 = true then (laws_FnExactFly.j0 k l2 a3 bt222.1 bt222.2 t226 bt238.1 bt238.2 (bt238.2 != bt222.2) a0_0 a0_1 a0_2 a0_3 a1_0 a1_1 a1_2 a1_3 a1_4) else (laws_FnExactFly.j0 k l2 a3 bt222.1 bt222.2 t226 bt238.1 bt238.2 true a0_0 a0_1 a0_2 a0_3 a1_0 a1_1 a1_2 a1_3 a1_4)))))))))))) = some r := h
  clear h
  by_cases c5 : (l2.length : Int) > 1048576
  · rw [if_pos c5] at H
    have c5b0 : decide (1048576 < (l2.length : Int)) = true := decide_eq_true c5
    have c5b1 : decide (1048576 < l2.length) = true := decide_eq_true (by omega)
    clear c5
    obtain rfl := Option.some.inj H
    go_enter Try.func9, Try.ntmps9
    go_wp2_with (first | ((with_reducible refine gate_dst (N := 4) rfl ?_); refine box_event ?hg (N := 4) ?hd (cs := #[.float .f64 b_a0_0, .float .f64 b_a0_1, .float .f64 b_a0_2, .float .f64 b_a0_3]) (t := 60) ?hr ?_; (case hd => rfl); (case hg => rfl); (case hr => first | (go_simp; done) | (go_simp; rfl)); intro gb208 hg w6 hbox hb; have n0_ := Aside0.mk (below_step (by repeat (first | (with_reducible first | exact HB.out | apply below_alloc | apply pw_below_drewN | apply below_drew1) | exact HB.out)) hb); have n1_ := Aside0.mk (hbox); have n2_ := Aside0.mk ((by rw [hg]; exact (below_size (by repeat (first | (with_reducible first | exact HB.out | apply below_alloc | apply pw_below_drewN | apply below_drew1) | exact HB.out))) : w.heap.size ≤ gb208)); have n3_ := Aside0.mk ((by rw [hg]; exact (below_size (by repeat (first | (with_reducible first | exact HB.out | apply below_alloc | apply pw_below_drewN | apply below_drew1) | exact HB.out))) : w.heap.size ≤ gb208)); clear HB; have HB := n0_; have BK208 := n1_; have GW208 := n2_; have GE208 := n3_; clear n0_ n1_ n2_ n3_; clear hb hbox hg) | ((with_reducible refine gate_dst (N := 5) rfl ?_); refine box_event ?hg (N := 5) ?hd (cs := #[.float .f64 b_a1_0, .float .f64 b_a1_1, .float .f64 b_a1_2, .float .f64 b_a1_3, .float .f64 b_a1_4]) (t := 62) ?hr ?_; (case hd => rfl); (case hg => rfl); (case hr => first | (go_simp; done) | (go_simp; rfl)); intro gb209 hg w7 hbox hb; have n0_ := Aside0.mk (blk_below (g := gb208) (o := .cells #[.float .f64 b_a0_0, .float .f64 b_a0_1, .float .f64 b_a0_2, .float .f64 b_a0_3] 60 (0, 0)) (by (with_reducible repeat (first | refine blk_drewN ?_ _ | refine blk_drew ?_ | refine blk_alloc ?_ _)); exact BK208.out) hb); have n1_ := Aside0.mk (below_step (by repeat (first | (with_reducible first | exact HB.out | apply below_alloc | apply pw_below_drewN | apply below_drew1 | refine below_set ?_ GE208.out) | exact HB.out)) hb); have n2_ := Aside0.mk (hbox); have n3_ := Aside0.mk ((by rw [hg]; exact (below_size (by repeat (first | (with_reducible first | exact HB.out | apply below_alloc | apply pw_below_drewN | apply below_drew1 | refine below_set ?_ GE208.out) | exact HB.out))) : w.heap.size ≤ gb209)); have n4_ := Aside0.mk ((by rw [hg]; exact (below_size (by repeat (first | (with_reducible first | exact HB.out | apply below_alloc | apply pw_below_drewN | apply below_drew1 | refine below_set ?_ GE208.out) | exact HB.out))) : w.heap.size ≤ gb209)); have n5_ := Aside0.mk ((by rw [hg]; exact Nat.ne_of_lt (blk_lt (g := gb208) (o := .cells #[.float .f64 b_a0_0, .float .f64 b_a0_1, .float .f64 b_a0_2, .float .f64 b_a0_3] 60 (0, 0)) (by (with_reducible repeat (first | refine blk_drewN ?_ _ | refine blk_drew ?_ | refine blk_alloc ?_ _)); exact BK208.out)) : gb208 ≠ gb209)); have n6_ := Aside0.mk ((by rw [hg]; exact Nat.ne_of_gt (blk_lt (g := gb208) (o := .cells #[.float .f64 b_a0_0, .float .f64 b_a0_1, .float .f64 b_a0_2, .float .f64 b_a0_3] 60 (0, 0)) (by (with_reducible repeat (first | refine blk_drewN ?_ _ | refine blk_drew ?_ | refine blk_alloc ?_ _)); exact BK208.out)) : gb209 ≠ gb208)); clear BK208; clear HB; have BK208 := n0_; have HB := n1_; have BK209 := n2_; have GW209 := n3_; have GE209 := n4_; have NB208_209 := n5_; have NB209_208 := n6_; clear n0_ n1_ n2_ n3_ n4_ n5_ n6_; clear hb hbox hg))
    go_ret
    exact ⟨by first | rfl | (simp [errW_none, errW_some] <;> rfl) | (simp [*, errW_none, errW_some] <;> rfl), by repeat (first | (with_reducible first | exact HB.out | apply below_alloc | apply pw_below_drewN | apply below_drew1 | refine below_set ?_ GE208.out | refine below_set ?_ GE209.out) | exact HB.out)⟩
  · rw [if_neg c5] at H
    have c5b0 : decide (1048576 < (l2.length : Int)) = false := decide_eq_false c5
    have c5b1 : decide (1048576 < l2.length) = false := decide_eq_false (by omega)
    clear c5
    replace H := Option.bind_eq_some_iff.mp H
    obtain ⟨⟨t210, t211, t212, t213⟩, A80, H⟩ := H
    replace H : ((laws_toForces.f a1_0 a1_1 a1_2 a1_3 a1_4).bind fun bt214 => ((laws_toFloat64S.f k l2).bind fun t219 => ((spec_Fly.f k t210 t211 t212 t213 bt214.1 bt214.2.1 bt214.2.2.1 bt214.2.2.2.1 bt214.2.2.2.2 t219 a3).bind fun bt222 => ((laws_toFloat64S.f k l2).bind fun t226 => ((laws_toMotion.f a0_0 a0_1 a0_2 a0_3).bind fun bt229 => ((laws_toForces.f a1_0 a1_1 a1_2 a1_3 a1_4).bind fun bt233 => ((impl_Fly.f k bt229.1 bt229.2.1 bt229.2.2.1 bt229.2.2.2 bt233.1 bt233.2.1 bt233.2.2.1 bt233.2.2.2.1 bt233.2.2.2.2 t226 a3).bind fun bt238 => ((laws_eqMotionS.f k bt238.1 bt222.1).bind fun t242 => (if t242 = true then (laws_FnExactFly.j0 k l2 a3 bt222.1 bt222.2 t226 bt238.1 bt238.2 (bt238.2 != bt222.2) a0_0 a0_1 a0_2 a0_3 a1_0 a1_1 a1_2 a1_3 a1_4) else (laws_FnExactFly.j0 k l2 a3 bt222.1 bt222.2 t226 bt238.1 bt238.2 true a0_0 a0_1 a0_2 a0_3 a1_0 a1_1 a1_2 a1_3 a1_4)))))))))) = some r := H
    have A8 := Aside0.mk A80
    clear A80
    replace H := Option.bind_eq_some_iff.mp H
    obtain ⟨⟨t214, t215, t216, t217, t218⟩, A90, H⟩ := H
    replace H : ((laws_toFloat64S.f k l2).bind fun t219 => ((spec_Fly.f k t210 t211 t212 t213 t214 t215 t216 t217 t218 t219 a3).bind fun bt222 => ((laws_toFloat64S.f k l2).bind fun t226 => ((laws_toMotion.f a0_0 a0_1 a0_2 a0_3).bind fun bt229 => ((laws_toForces.f a1_0 a1_1 a1_2 a1_3 a1_4).bind fun bt233 => ((impl_Fly.f k bt229.1 bt229.2.1 bt229.2.2.1 bt229.2.2.2 bt233.1 bt233.2.1 bt233.2.2.1 bt233.2.2.2.1 bt233.2.2.2.2 t226 a3).bind fun bt238 => ((laws_eqMotionS.f k bt238.1 bt222.1).bind fun t242 => (if t242 = true then (laws_FnExactFly.j0 k l2 a3 bt222.1 bt222.2 t226 bt238.1 bt238.2 (bt238.2 != bt222.2) a0_0 a0_1 a0_2 a0_3 a1_0 a1_1 a1_2 a1_3 a1_4) else (laws_FnExactFly.j0 k l2 a3 bt222.1 bt222.2 t226 bt238.1 bt238.2 true a0_0 a0_1 a0_2 a0_3 a1_0 a1_1 a1_2 a1_3 a1_4))))))))) = some r := H
    have A9 := Aside0.mk A90
    clear A90
    replace H := Option.bind_eq_some_iff.mp H
    obtain ⟨t219, A100, H⟩ := H
    replace H : ((spec_Fly.f k t210 t211 t212 t213 t214 t215 t216 t217 t218 t219 a3).bind fun bt222 => ((laws_toFloat64S.f k l2).bind fun t226 => ((laws_toMotion.f a0_0 a0_1 a0_2 a0_3).bind fun bt229 => ((laws_toForces.f a1_0 a1_1 a1_2 a1_3 a1_4).bind fun bt233 => ((impl_Fly.f k bt229.1 bt229.2.1 bt229.2.2.1 bt229.2.2.2 bt233.1 bt233.2.1 bt233.2.2.1 bt233.2.2.2.1 bt233.2.2.2.2 t226 a3).bind fun bt238 => ((laws_eqMotionS.f k bt238.1 bt222.1).bind fun t242 => (if t242 = true then (laws_FnExactFly.j0 k l2 a3 bt222.1 bt222.2 t226 bt238.1 bt238.2 (bt238.2 != bt222.2) a0_0 a0_1 a0_2 a0_3 a1_0 a1_1 a1_2 a1_3 a1_4) else (laws_FnExactFly.j0 k l2 a3 bt222.1 bt222.2 t226 bt238.1 bt238.2 true a0_0 a0_1 a0_2 a0_3 a1_0 a1_1 a1_2 a1_3 a1_4)))))))) = some r := H
    have A10 := Aside0.mk A100
    clear A100
    replace H := Option.bind_eq_some_iff.mp H
    obtain ⟨⟨t222, t225⟩, A110, H⟩ := H
    replace H : ((laws_toFloat64S.f k l2).bind fun t226 => ((laws_toMotion.f a0_0 a0_1 a0_2 a0_3).bind fun bt229 => ((laws_toForces.f a1_0 a1_1 a1_2 a1_3 a1_4).bind fun bt233 => ((impl_Fly.f k bt229.1 bt229.2.1 bt229.2.2.1 bt229.2.2.2 bt233.1 bt233.2.1 bt233.2.2.1 bt233.2.2.2.1 bt233.2.2.2.2 t226 a3).bind fun bt238 => ((laws_eqMotionS.f k bt238.1 t222).bind fun t242 => (if t242 = true then (laws_FnExactFly.j0 k l2 a3 t222 t225 t226 bt238.1 bt238.2 (bt238.2 != t225) a0_0 a0_1 a0_2 a0_3 a1_0 a1_1 a1_2 a1_3 a1_4) else (laws_FnExactFly.j0 k l2 a3 t222 t225 t226 bt238.1 bt238.2 true a0_0 a0_1 a0_2 a0_3 a1_0 a1_1 a1_2 a1_3 a1_4))))))) = some r := H
    have A11 := Aside0.mk A110
    clear A110
    replace H := Option.bind_eq_some_iff.mp H
    obtain ⟨t226, A120, H⟩ := H
    replace H : ((laws_toMotion.f a0_0 a0_1 a0_2 a0_3).bind fun bt229 => ((laws_toForces.f a1_0 a1_1 a1_2 a1_3 a1_4).bind fun bt233 => ((impl_Fly.f k bt229.1 bt229.2.1 bt229.2.2.1 bt229.2.2.2 bt233.1 bt233.2.1 bt233.2.2.1 bt233.2.2.2.1 bt233.2.2.2.2 t226 a3).bind fun bt238 => ((laws_eqMotionS.f k bt238.1 t222).bind fun t242 => (if t242 = true then (laws_FnExactFly.j0 k l2 a3 t222 t225 t226 bt238.1 bt238.2 (bt238.2 != t225) a0_0 a0_1 a0_2 a0_3 a1_0 a1_1 a1_2 a1_3 a1_4) else (laws_FnExactFly.j0 k l2 a3 t222 t225 t226 bt238.1 bt238.2 true a0_0 a0_1 a0_2 a0_3 a1_0 a1_1 a1_2 a1_3 a1_4)))))) = some r := H
    have A12 := Aside0.mk A120
    clear A120
    replace H := Option.bind_eq_some_iff.mp H
    obtain ⟨⟨t229, t230, t231, t232⟩, A130, H⟩ := H
    replace H : ((laws_toForces.f a1_0 a1_1 a1_2 a1_3 a1_4).bind fun bt233 => ((impl_Fly.f k t229 t230 t231 t232 bt233.1 bt233.2.1 bt233.2.2.1 bt233.2.2.2.1 bt233.2.2.2.2 t226 a3).bind fun bt238 => ((laws_eqMotionS.f k bt238.1 t222).bind fun t242 => (if t242 = true then (laws_FnExactFly.j0 k l2 a3 t222 t225 t226 bt238.1 bt238.2 (bt238.2 != t225) a0_0 a0_1 a0_2 a0_3 a1_0 a1_1 a1_2 a1_3 a1_4) else (laws_FnExactFly.j0 k l2 a3 t222 t225 t226 bt238.1 bt238.2 true a0_0 a0_1 a0_2 a0_3 a1_0 a1_1 a1_2 a1_3 a1_4))))) = some r := H
    have A13 := Aside0.mk A130
    clear A130
    replace H := Option.bind_eq_some_iff.mp H
    obtain ⟨⟨t233, t234, t235, t236, t237⟩, A140, H⟩ := H
    replace H : ((impl_Fly.f k t229 t230 t231 t232 t233 t234 t235 t236 t237 t226 a3).bind fun bt238 => ((laws_eqMotionS.f k bt238.1 t222).bind fun t242 => (if t242 = true then (laws_FnExactFly.j0 k l2 a3 t222 t225 t226 bt238.1 bt238.2 (bt238.2 != t225) a0_0 a0_1 a0_2 a0_3 a1_0 a1_1 a1_2 a1_3 a1_4) else (laws_FnExactFly.j0 k l2 a3 t222 t225 t226 bt238.1 bt238.2 true a0_0 a0_1 a0_2 a0_3 a1_0 a1_1 a1_2 a1_3 a1_4)))) = some r := H
    have A14 := Aside0.mk A140
    clear A140
    replace H := Option.bind_eq_some_iff.mp H
    obtain ⟨⟨t238, t241⟩, A150, H⟩ := H
    replace H : ((laws_eqMotionS.f k t238 t222).bind fun t242 => (if t242 = true then (laws_FnExactFly.j0 k l2 a3 t222 t225 t226 t238 t241 (t241 != t225) a0_0 a0_1 a0_2 a0_3 a1_0 a1_1 a1_2 a1_3 a1_4) else (laws_FnExactFly.j0 k l2 a3 t222 t225 t226 t238 t241 true a0_0 a0_1 a0_2 a0_3 a1_0 a1_1 a1_2 a1_3 a1_4))) = some r := H
    have A15 := Aside0.mk A150
    clear A150
    have HC16 := Aside0.mk H
    clear H
    go_enter Try.func9, Try.ntmps9
    try go_wp2_with (first | ((with_reducible refine gate_dst (N := 4) rfl ?_); refine box_event ?hg (N := 4) ?hd (cs := #[.float .f64 b_a0_0, .float .f64 b_a0_1, .float .f64 b_a0_2, .float .f64 b_a0_3]) (t := 60) ?hr ?_; (case hd => rfl); (case hg => rfl); (case hr => first | (go_simp; done) | (go_simp; rfl)); intro gb208 hg w17 hbox hb; have n0_ := Aside0.mk (below_step (by repeat (first | (with_reducible first | exact HB.out | apply below_alloc | apply pw_below_drewN | apply below_drew1) | exact HB.out)) hb); have n1_ := Aside0.mk (hbox); have n2_ := Aside0.mk ((by rw [hg]; exact (below_size (by repeat (first | (with_reducible first | exact HB.out | apply below_alloc | apply pw_below_drewN | apply below_drew1) | exact HB.out))) : w.heap.size ≤ gb208)); have n3_ := Aside0.mk ((by rw [hg]; exact (below_size (by repeat (first | (with_reducible first | exact HB.out | apply below_alloc | apply pw_below_drewN | apply below_drew1) | exact HB.out))) : w.heap.size ≤ gb208)); clear HB; have HB := n0_; have BK208 := n1_; have GW208 := n2_; have GE208 := n3_; clear n0_ n1_ n2_ n3_; clear hb hbox hg) | ((with_reducible refine gate_dst (N := 5) rfl ?_); refine box_event ?hg (N := 5) ?hd (cs := #[.float .f64 b_a1_0, .float .f64 b_a1_1, .float .f64 b_a1_2, .float .f64 b_a1_3, .float .f64 b_a1_4]) (t := 62) ?hr ?_; (case hd => rfl); (case hg => rfl); (case hr => first | (go_simp; done) | (go_simp; rfl)); intro gb209 hg w18 hbox hb; have n0_ := Aside0.mk (blk_below (g := gb208) (o := .cells #[.float .f64 b_a0_0, .float .f64 b_a0_1, .float .f64 b_a0_2, .float .f64 b_a0_3] 60 (0, 0)) (by (with_reducible repeat (first | refine blk_drewN ?_ _ | refine blk_drew ?_ | refine blk_alloc ?_ _)); exact BK208.out) hb); have n1_ := Aside0.mk (below_step (by repeat (first | (with_reducible first | exact HB.out | apply below_alloc | apply pw_below_drewN | apply below_drew1 | refine below_set ?_ GE208.out) | exact HB.out)) hb); have n2_ := Aside0.mk (hbox); have n3_ := Aside0.mk ((by rw [hg]; exact (below_size (by repeat (first | (with_reducible first | exact HB.out | apply below_alloc | apply pw_below_drewN | apply below_drew1 | refine below_set ?_ GE208.out) | exact HB.out))) : w.heap.size ≤ gb209)); have n4_ := Aside0.mk ((by rw [hg]; exact (below_size (by repeat (first | (with_reducible first | exact HB.out | apply below_alloc | apply pw_below_drewN | apply below_drew1 | refine below_set ?_ GE208.out) | exact HB.out))) : w.heap.size ≤ gb209)); have n5_ := Aside0.mk ((by rw [hg]; exact Nat.ne_of_lt (blk_lt (g := gb208) (o := .cells #[.float .f64 b_a0_0, .float .f64 b_a0_1, .float .f64 b_a0_2, .float .f64 b_a0_3] 60 (0, 0)) (by (with_reducible repeat (first | refine blk_drewN ?_ _ | refine blk_drew ?_ | refine blk_alloc ?_ _)); exact BK208.out)) : gb208 ≠ gb209)); have n6_ := Aside0.mk ((by rw [hg]; exact Nat.ne_of_gt (blk_lt (g := gb208) (o := .cells #[.float .f64 b_a0_0, .float .f64 b_a0_1, .float .f64 b_a0_2, .float .f64 b_a0_3] 60 (0, 0)) (by (with_reducible repeat (first | refine blk_drewN ?_ _ | refine blk_drew ?_ | refine blk_alloc ?_ _)); exact BK208.out)) : gb209 ≠ gb208)); clear BK208; clear HB; have BK208 := n0_; have HB := n1_; have BK209 := n2_; have GW209 := n3_; have GE209 := n4_; have NB208_209 := n5_; have NB209_208 := n6_; clear n0_ n1_ n2_ n3_ n4_ n5_ n6_; clear hb hbox hg))
    have n0_ := Aside0.mk (blk_drew BK208.out)
    have n1_ := Aside0.mk (blk_drew BK209.out)
    have n2_ := Aside0.mk (below_drew1 HB.out)
    clear BK208
    clear BK209
    clear HB
    have BK208 := n0_
    have BK209 := n1_
    have HB := n2_
    clear n0_ n1_ n2_
    refine start_ (n := 13) (S := fun w' => w'.cell? ⟨gb208, 0, none⟩ = some (.float .f64 b_a0_0) ∧ w'.cell? ⟨gb208, 1, none⟩ = some (.float .f64 b_a0_1) ∧ w'.cell? ⟨gb208, 2, none⟩ = some (.float .f64 b_a0_2) ∧ w'.cell? ⟨gb208, 3, none⟩ = some (.float .f64 b_a0_3) ∧ w'.cell? ⟨gb209, 0, none⟩ = some (.float .f64 b_a1_0) ∧ w'.cell? ⟨gb209, 1, none⟩ = some (.float .f64 b_a1_1) ∧ w'.cell? ⟨gb209, 2, none⟩ = some (.float .f64 b_a1_2) ∧ w'.cell? ⟨gb209, 3, none⟩ = some (.float .f64 b_a1_3) ∧ w'.cell? ⟨gb209, 4, none⟩ = some (.float .f64 b_a1_4)) (ds := []) #[false, false, false, false, false, false, false, false, false, false, false, false, false] (by kernel_rfl) rfl rfl ⟨(blk_cell BK208.out 0).trans rfl, (blk_cell BK208.out 1).trans rfl, (blk_cell BK208.out 2).trans rfl, (blk_cell BK208.out 3).trans rfl, (blk_cell BK209.out 0).trans rfl, (blk_cell BK209.out 1).trans rfl, (blk_cell BK209.out 2).trans rfl, (blk_cell BK209.out 3).trans rfl, (blk_cell BK209.out 4).trans rfl⟩ (fun hHeld => ?_); refine with_tabW laws_FnExactFly.tab3 laws_FnExactFly.bits3 (fun HT_ HW_ => ?_)
    generalize w18.drew = w19 at BK208 BK209 HB hHeld ⊢
    refine pure_ (i := 4) (N := some 27) (v := ?_) (a' := ?_) #[false, false, false, false, true, false, false, false, false, false, false, false, false] rfl rfl (any_of HT_.out (by kernel_rfl)) (fun _ _ _ h => h) (Or.inl ⟨by rfl, ?_⟩) ?_ ?_
    rotate_left
    · intro w'
      go_simp
      with_reducible rfl
    rotate_left
    · simp only [Act.put, List.setIfInBounds_toArray, List.set_cons_zero, List.set_cons_succ, i64_w, i32_w]
      rfl
    refine pure_ (i := 6) (N := some 29) (v := ?_) (a' := ?_) #[false, false, false, false, true, false, true, false, false, false, false, false, false] rfl rfl (any_of HT_.out (by kernel_rfl)) (fun _ _ _ h => h) (Or.inl ⟨by rfl, ?_⟩) ?_ ?_
    rotate_left
    · intro w'
      go_simp
      with_reducible rfl
    rotate_left
    · simp only [Act.put, List.setIfInBounds_toArray, List.set_cons_zero, List.set_cons_succ, i64_w, i32_w]
      rfl
    refine take_ (i := 0) (N := some 23) (v := ?_) (a' := ?_) #[true, false, false, false, true, false, true, false, false, false, false, false, false] rfl rfl (take_ofW HT_.out HW_.out (by kernel_rfl)) (fun _ _ _ h => h) (Or.inl ⟨by rfl, ?_⟩) hHeld ?_ ?_
    rotate_left
    · rintro w' ⟨s0, s1, s2, s3, s4, s5, s6, s7, s8⟩
      go_simp
      with_reducible rfl
    rotate_left
    · simp only [Act.put, List.setIfInBounds_toArray, List.set_cons_zero, List.set_cons_succ, i64_w, i32_w]
      rfl
    refine take_ (i := 2) (N := some 25) (v := ?_) (a' := ?_) #[true, false, true, false, true, false, true, false, false, false, false, false, false] rfl rfl (take_ofW HT_.out HW_.out (by kernel_rfl)) (fun _ _ _ h => h) (Or.inl ⟨by rfl, ?_⟩) hHeld ?_ ?_
    rotate_left
    · rintro w' ⟨s0, s1, s2, s3, s4, s5, s6, s7, s8⟩
      go_simp
      with_reducible rfl
    rotate_left
    · simp only [Act.put, List.setIfInBounds_toArray, List.set_cons_zero, List.set_cons_succ, i64_w, i32_w]
      rfl
    refine one_ (i := 1) (N := some 24) #[true, true, true, false, true, false, true, false, false, false, false, false, false] rfl rfl (one_of HT_.out (by kernel_rfl)) (by decide) (fun K hK => ?_)
    refine goes_ Try.func42 (by kernel_rfl) rfl #[.agg #[.float .f64 b_a0_0, .float .f64 b_a0_1, .float .f64 b_a0_2, .float .f64 b_a0_3]] (by rfl) rfl rfl (by (try simp only [List.map_toArray, List.map_cons, List.map_nil]); first | done | rfl | (simp only [List.length_drop, List.length_take]; rfl)) ?_
    with_reducible refine (laws_toMotion.calls b_a0_0 a0_0 b_a0_1 a0_1 b_a0_2 a0_2 b_a0_3 a0_3 t210 t211 t212 t213 _ ?side1 ?side2 ?side3 ?side4 A8.out).mono ?_
    (case side1 => exact hF_a0_0)
    (case side2 => exact hF_a0_1)
    (case side3 => exact hF_a0_2)
    (case side4 => exact hF_a0_3)
    rintro e w20 ⟨b_t210, b_t211, b_t212, b_t213, rfl, hF_t210, hF_t211, hF_t212, hF_t213, hb⟩
    refine ⟨_, rfl, ?_⟩
    have n0_ := Aside0.mk (blk_below (g := gb208) (o := .cells #[.float .f64 b_a0_0, .float .f64 b_a0_1, .float .f64 b_a0_2, .float .f64 b_a0_3] 60 (0, 0)) (by (with_reducible repeat (first | refine blk_drewN ?_ _ | refine blk_drew ?_ | refine blk_alloc ?_ _)); exact BK208.out) hb)
    have n1_ := Aside0.mk (blk_below (g := gb209) (o := .cells #[.float .f64 b_a1_0, .float .f64 b_a1_1, .float .f64 b_a1_2, .float .f64 b_a1_3, .float .f64 b_a1_4] 62 (0, 0)) (by (with_reducible repeat (first | refine blk_drewN ?_ _ | refine blk_drew ?_ | refine blk_alloc ?_ _)); exact BK209.out) hb)
    have n2_ := Aside0.mk (below_step (by repeat (first | (with_reducible first | exact HB.out | apply below_alloc | apply pw_below_drewN | apply below_drew1 | refine below_set ?_ GE208.out | refine below_set ?_ GE209.out) | exact HB.out)) hb)
    clear BK208
    clear BK209
    clear HB
    have BK208 := n0_
    have BK209 := n1_
    have HB := n2_
    clear n0_ n1_ n2_
    (try clear hb)
    (try clear hb2)
    (try clear hk)
    (try clear hi)
    refine hK.out _ _ ⟨(blk_cell BK208.out 0).trans rfl, (blk_cell BK208.out 1).trans rfl, (blk_cell BK208.out 2).trans rfl, (blk_cell BK208.out 3).trans rfl, (blk_cell BK209.out 0).trans rfl, (blk_cell BK209.out 1).trans rfl, (blk_cell BK209.out 2).trans rfl, (blk_cell BK209.out 3).trans rfl, (blk_cell BK209.out 4).trans rfl⟩ (fun hHeld => ?_)
    clear hK K
    refine norm_ (a' := ?_) ?_ ?_
    rotate_left
    · show Act.put _ (some 24) _ = _
      simp only [Act.put, List.setIfInBounds_toArray, List.set_cons_zero, List.set_cons_succ, i64_w, i32_w]
      rfl
    refine one_ (i := 3) (N := some 26) #[true, true, true, true, true, false, true, false, false, false, false, false, false] rfl rfl (one_of HT_.out (by kernel_rfl)) (by decide) (fun K hK => ?_)
    refine goes_ Try.func43 (by kernel_rfl) rfl #[.agg #[.float .f64 b_a1_0, .float .f64 b_a1_1, .float .f64 b_a1_2, .float .f64 b_a1_3, .float .f64 b_a1_4]] (by rfl) rfl rfl (by (try simp only [List.map_toArray, List.map_cons, List.map_nil]); first | done | rfl | (simp only [List.length_drop, List.length_take]; rfl)) ?_
    with_reducible refine (laws_toForces.calls b_a1_0 a1_0 b_a1_1 a1_1 b_a1_2 a1_2 b_a1_3 a1_3 b_a1_4 a1_4 t214 t215 t216 t217 t218 _ ?side1 ?side2 ?side3 ?side4 ?side5 A9.out).mono ?_
    (case side1 => exact hF_a1_0)
    (case side2 => exact hF_a1_1)
    (case side3 => exact hF_a1_2)
    (case side4 => exact hF_a1_3)
    (case side5 => exact hF_a1_4)
    rintro e w21 ⟨b_t214, b_t215, b_t216, b_t217, b_t218, rfl, hF_t214, hF_t215, hF_t216, hF_t217, hF_t218, hb⟩
    refine ⟨_, rfl, ?_⟩
    have n0_ := Aside0.mk (blk_below (g := gb208) (o := .cells #[.float .f64 b_a0_0, .float .f64 b_a0_1, .float .f64 b_a0_2, .float .f64 b_a0_3] 60 (0, 0)) (by (with_reducible repeat (first | refine blk_drewN ?_ _ | refine blk_drew ?_ | refine blk_alloc ?_ _)); exact BK208.out) hb)
    have n1_ := Aside0.mk (blk_below (g := gb209) (o := .cells #[.float .f64 b_a1_0, .float .f64 b_a1_1, .float .f64 b_a1_2, .float .f64 b_a1_3, .float .f64 b_a1_4] 62 (0, 0)) (by (with_reducible repeat (first | refine blk_drewN ?_ _ | refine blk_drew ?_ | refine blk_alloc ?_ _)); exact BK209.out) hb)
    have n2_ := Aside0.mk (below_step (by repeat (first | (with_reducible first | exact HB.out | apply below_alloc | apply pw_below_drewN | apply below_drew1 | refine below_set ?_ GE208.out | refine below_set ?_ GE209.out) | exact HB.out)) hb)
    clear BK208
    clear BK209
    clear HB
    have BK208 := n0_
    have BK209 := n1_
    have HB := n2_
    clear n0_ n1_ n2_
    (try clear hb)
    (try clear hb2)
    (try clear hk)
    (try clear hi)
    refine hK.out _ _ ⟨(blk_cell BK208.out 0).trans rfl, (blk_cell BK208.out 1).trans rfl, (blk_cell BK208.out 2).trans rfl, (blk_cell BK208.out 3).trans rfl, (blk_cell BK209.out 0).trans rfl, (blk_cell BK209.out 1).trans rfl, (blk_cell BK209.out 2).trans rfl, (blk_cell BK209.out 3).trans rfl, (blk_cell BK209.out 4).trans rfl⟩ (fun hHeld => ?_)
    clear hK K
    refine norm_ (a' := ?_) ?_ ?_
    rotate_left
    · show Act.put _ (some 26) _ = _
      simp only [Act.put, List.setIfInBounds_toArray, List.set_cons_zero, List.set_cons_succ, i64_w, i32_w]
      rfl
    refine one_ (i := 5) (N := some 28) #[true, true, true, true, true, true, true, false, false, false, false, false, false] rfl rfl (one_of HT_.out (by kernel_rfl)) (by decide) (fun K hK => ?_)
    refine goes_ Try.func15 (by kernel_rfl) rfl #[.slice A2 l2.length c2] (by rfl) rfl rfl (by (try simp only [List.map_toArray, List.map_cons, List.map_nil]); first | done | rfl | (simp only [List.length_drop, List.length_take]; rfl)) ?_
    with_reducible refine (laws_toFloat64S.calls k _ _ l2 t219 _ ?side1 ?side2 A10.out).mono ?_
    (case side1 => repeat (first | exact (Kd.C_below HR2.out HB.out) | (with_reducible refine Kd.C_alloc ?_ _) | (with_reducible refine Kd.C_drewN ?_ _) | (with_reducible refine Kd.C_drew ?_)))
    (case side2 => exact HC2.out)
    rintro e w22 ⟨v220, rfl, ho0, hb⟩
    refine ⟨_, rfl, ?_⟩
    have n0_ := Aside0.mk (Kd.R_lower ho0 (below_size (by repeat (first | (with_reducible first | exact HB.out | apply below_alloc | apply pw_below_drewN | apply below_drew1 | refine below_set ?_ GE208.out | refine below_set ?_ GE209.out) | exact HB.out))))
    have n1_ := Aside0.mk (blk_below (g := gb208) (o := .cells #[.float .f64 b_a0_0, .float .f64 b_a0_1, .float .f64 b_a0_2, .float .f64 b_a0_3] 60 (0, 0)) (by (with_reducible repeat (first | refine blk_drewN ?_ _ | refine blk_drew ?_ | refine blk_alloc ?_ _)); exact BK208.out) hb)
    have n2_ := Aside0.mk (blk_below (g := gb209) (o := .cells #[.float .f64 b_a1_0, .float .f64 b_a1_1, .float .f64 b_a1_2, .float .f64 b_a1_3, .float .f64 b_a1_4] 62 (0, 0)) (by (with_reducible repeat (first | refine blk_drewN ?_ _ | refine blk_drew ?_ | refine blk_alloc ?_ _)); exact BK209.out) hb)
    have n3_ := Aside0.mk (below_step (by repeat (first | (with_reducible first | exact HB.out | apply below_alloc | apply pw_below_drewN | apply below_drew1 | refine below_set ?_ GE208.out | refine below_set ?_ GE209.out) | exact HB.out)) hb)
    clear BK208
    clear BK209
    clear HB
    have HO221 := n0_
    have BK208 := n1_
    have BK209 := n2_
    have HB := n3_
    clear n0_ n1_ n2_ n3_
    (try clear hb)
    (try clear hb2)
    (try clear hk)
    (try clear hi)
    (try clear ho0)
    obtain ⟨Ao23, co23, eo23⟩ := Kd.R_slice HO221.out
    (first | subst eo23 | (injection eo23 with f1_ f2_ f3_; have f4_ := f1_.symm; have f5_ := f3_.symm; clear f1_ f2_ f3_; subst f4_; subst f5_))
    refine hK.out _ _ ⟨(blk_cell BK208.out 0).trans rfl, (blk_cell BK208.out 1).trans rfl, (blk_cell BK208.out 2).trans rfl, (blk_cell BK208.out 3).trans rfl, (blk_cell BK209.out 0).trans rfl, (blk_cell BK209.out 1).trans rfl, (blk_cell BK209.out 2).trans rfl, (blk_cell BK209.out 3).trans rfl, (blk_cell BK209.out 4).trans rfl⟩ (fun hHeld => ?_)
    clear hK K
    refine norm_ (a' := ?_) ?_ ?_
    rotate_left
    · show Act.put _ (some 28) _ = _
      simp only [Act.put, List.setIfInBounds_toArray, List.set_cons_zero, List.set_cons_succ, i64_w, i32_w]
      rfl
    refine one_ (i := 7) (N := some 30) #[true, true, true, true, true, true, true, true, false, false, false, false, false] rfl rfl (one_of HT_.out (by kernel_rfl)) (by decide) (fun K hK => ?_)
    refine goes_ Try.func41 (by kernel_rfl) rfl #[.agg #[.float .f64 b_t210, .float .f64 b_t211, .float .f64 b_t212, .float .f64 b_t213], .agg #[.float .f64 b_t214, .float .f64 b_t215, .float .f64 b_t216, .float .f64 b_t217, .float .f64 b_t218], .slice Ao23 t219.length co23, .float .f64 b_a3] (by rfl) rfl rfl (by (try simp only [List.map_toArray, List.map_cons, List.map_nil]); first | done | rfl | (simp only [List.length_drop, List.length_take]; rfl)) ?_
    with_reducible refine (spec_Fly.calls k b_t210 t210 b_t211 t211 b_t212 t212 b_t213 t213 b_t214 t214 b_t215 t215 b_t216 t216 b_t217 t217 b_t218 t218 _ _ t219 b_a3 a3 t222 t225 _ ?side1 ?side2 ?side3 ?side4 ?side5 ?side6 ?side7 ?side8 ?side9 ?side10 ?side11 ?side12 A11.out).mono ?_
    (case side1 => exact hF_t210)
    (case side2 => exact hF_t211)
    (case side3 => exact hF_t212)
    (case side4 => exact hF_t213)
    (case side5 => exact hF_t214)
    (case side6 => exact hF_t215)
    (case side7 => exact hF_t216)
    (case side8 => exact hF_t217)
    (case side9 => exact hF_t218)
    (case side10 => repeat (first | exact (Kd.R_reads' HO221.out).2.2 | (with_reducible refine Kd.C_alloc ?_ _) | (with_reducible refine Kd.C_drewN ?_ _) | (with_reducible refine Kd.C_drew ?_)))
    (case side11 => exact (Kd.R_reads' HO221.out).2.1)
    (case side12 => exact hF_a3)
    rintro e w24 ⟨v223, rfl, ho0, hb⟩
    refine ⟨_, rfl, ?_⟩
    have n0_ := Aside0.mk (Kd.R_below (by (with_reducible repeat (first | apply Kd.R_alloc | apply Kd.R_drewN | apply Kd.R_drew)); exact HO221.out) hb)
    have n1_ := Aside0.mk (Kd.R_lower ho0 (below_size (by repeat (first | (with_reducible first | exact HB.out | apply below_alloc | apply pw_below_drewN | apply below_drew1 | refine below_set ?_ GE208.out | refine below_set ?_ GE209.out) | exact HB.out))))
    have n2_ := Aside0.mk (blk_below (g := gb208) (o := .cells #[.float .f64 b_a0_0, .float .f64 b_a0_1, .float .f64 b_a0_2, .float .f64 b_a0_3] 60 (0, 0)) (by (with_reducible repeat (first | refine blk_drewN ?_ _ | refine blk_drew ?_ | refine blk_alloc ?_ _)); exact BK208.out) hb)
    have n3_ := Aside0.mk (blk_below (g := gb209) (o := .cells #[.float .f64 b_a1_0, .float .f64 b_a1_1, .float .f64 b_a1_2, .float .f64 b_a1_3, .float .f64 b_a1_4] 62 (0, 0)) (by (with_reducible repeat (first | refine blk_drewN ?_ _ | refine blk_drew ?_ | refine blk_alloc ?_ _)); exact BK209.out) hb)
    have n4_ := Aside0.mk (below_step (by repeat (first | (with_reducible first | exact HB.out | apply below_alloc | apply pw_below_drewN | apply below_drew1 | refine below_set ?_ GE208.out | refine below_set ?_ GE209.out) | exact HB.out)) hb)
    clear HO221
    clear BK208
    clear BK209
    clear HB
    have HO221 := n0_
    have HO224 := n1_
    have BK208 := n2_
    have BK209 := n3_
    have HB := n4_
    clear n0_ n1_ n2_ n3_ n4_
    (try clear hb)
    (try clear hb2)
    (try clear hk)
    (try clear hi)
    (try clear ho0)
    refine hK.out _ _ ⟨(blk_cell BK208.out 0).trans rfl, (blk_cell BK208.out 1).trans rfl, (blk_cell BK208.out 2).trans rfl, (blk_cell BK208.out 3).trans rfl, (blk_cell BK209.out 0).trans rfl, (blk_cell BK209.out 1).trans rfl, (blk_cell BK209.out 2).trans rfl, (blk_cell BK209.out 3).trans rfl, (blk_cell BK209.out 4).trans rfl⟩ (fun hHeld => ?_)
    clear hK K
    refine norm_ (a' := ?_) ?_ ?_
    rotate_left
    · show Act.put _ (some 30) _ = _
      simp only [Act.put, List.setIfInBounds_toArray, List.set_cons_zero, List.set_cons_succ, i64_w, i32_w]
      rfl
    refine pure_ (i := 8) (N := some 22) (v := ?_) (a' := ?_) #[true, true, true, true, true, true, true, true, true, false, false, false, false] rfl rfl (any_of HT_.out (by kernel_rfl)) (fun _ _ _ h => h) (Or.inl ⟨by rfl, ?_⟩) ?_ ?_
    rotate_left
    · intro w'
      go_simp
      with_reducible rfl
    rotate_left
    · simp only [Act.put, List.setIfInBounds_toArray, List.set_cons_zero, List.set_cons_succ, i64_w, i32_w]
      rfl
    refine pure_ (i := 9) (N := some 31) (v := ?_) (a' := ?_) #[true, true, true, true, true, true, true, true, true, true, false, false, false] rfl rfl (any_of HT_.out (by kernel_rfl)) (fun _ _ _ h => h) (Or.inl ⟨by rfl, ?_⟩) ?_ ?_
    rotate_left
    · intro w'
      go_simp
      with_reducible rfl
    rotate_left
    · simp only [Act.put, List.setIfInBounds_toArray, List.set_cons_zero, List.set_cons_succ, i64_w, i32_w]
      rfl
    refine pure_ (i := 10) (N := some 32) (v := ?_) (a' := ?_) #[true, true, true, true, true, true, true, true, true, true, true, false, false] rfl rfl (any_of HT_.out (by kernel_rfl)) (fun _ _ _ h => h) (Or.inl ⟨by rfl, ?_⟩) ?_ ?_
    rotate_left
    · intro w'
      go_simp
      with_reducible rfl
    rotate_left
    · simp only [Act.put, List.setIfInBounds_toArray, List.set_cons_zero, List.set_cons_succ, i64_w, i32_w]
      rfl
    refine pure_ (i := 11) (N := some 9) (v := ?_) (a' := ?_) #[true, true, true, true, true, true, true, true, true, true, true, true, false] rfl rfl (any_of HT_.out (by kernel_rfl)) (fun _ _ _ h => h) (Or.inl ⟨by rfl, ?_⟩) ?_ ?_
    rotate_left
    · intro w'
      go_simp
      with_reducible rfl
    rotate_left
    · simp only [Act.put, List.setIfInBounds_toArray, List.set_cons_zero, List.set_cons_succ, i64_w, i32_w]
      rfl
    refine pure_ (i := 12) (N := some 10) (v := ?_) (a' := ?_) #[true, true, true, true, true, true, true, true, true, true, true, true, true] rfl rfl (any_of HT_.out (by kernel_rfl)) (fun _ _ _ h => h) (Or.inl ⟨by rfl, ?_⟩) ?_ ?_
    rotate_left
    · intro w'
      go_simp
      with_reducible rfl
    rotate_left
    · simp only [Act.put, List.setIfInBounds_toArray, List.set_cons_zero, List.set_cons_succ, i64_w, i32_w]
      rfl
    refine done_ (done_of HT_.out (by kernel_rfl)) ?_
    try go_wp2_with (first | ((with_reducible refine gate_callee (f := 15) rfl ?_); refine goesL_ (some 34) rfl rfl Try.func15 (by kernel_rfl) rfl #[.slice A2 l2.length c2] rfl (by (try simp only [List.map_toArray, List.map_cons, List.map_nil]); first | done | rfl | (simp only [List.length_drop, List.length_take]; rfl)) ?_; (with_reducible refine (laws_toFloat64S.calls k _ _ l2 t226 _ ?side1 ?side2 A12.out).mono ?_); (case side1 => repeat (first | exact (Kd.C_below HR2.out HB.out) | (with_reducible refine Kd.C_alloc ?_ _) | (with_reducible refine Kd.C_drewN ?_ _) | (with_reducible refine Kd.C_drew ?_))); (case side2 => exact HC2.out); rintro e w25 ⟨v227, rfl, ho0, hb⟩; refine ⟨_, rfl, ?_⟩; have n0_ := Aside0.mk (Kd.R_elder' (by (with_reducible repeat (first | apply Kd.R_alloc | apply Kd.R_drewN | apply Kd.R_drew)); exact HO221.out) (Kd.R_base ho0) hb); have n1_ := Aside0.mk (Kd.R_below (by (with_reducible repeat (first | apply Kd.R_alloc | apply Kd.R_drewN | apply Kd.R_drew)); exact HO224.out) hb); have n2_ := Aside0.mk (Kd.R_lower (Kd.R_new' ho0 (Kd.R_lt (by (with_reducible repeat (first | apply Kd.R_alloc | apply Kd.R_drewN | apply Kd.R_drew)); exact HO221.out))) (below_size (by repeat (first | (with_reducible first | exact HB.out | apply below_alloc | apply pw_below_drewN | apply below_drew1 | refine below_set ?_ GE208.out | refine below_set ?_ GE209.out) | exact HB.out)))); have n3_ := Aside0.mk (blk_below (g := gb208) (o := .cells #[.float .f64 b_a0_0, .float .f64 b_a0_1, .float .f64 b_a0_2, .float .f64 b_a0_3] 60 (0, 0)) (by (with_reducible repeat (first | refine blk_drewN ?_ _ | refine blk_drew ?_ | refine blk_alloc ?_ _)); exact BK208.out) hb); have n4_ := Aside0.mk (blk_below (g := gb209) (o := .cells #[.float .f64 b_a1_0, .float .f64 b_a1_1, .float .f64 b_a1_2, .float .f64 b_a1_3, .float .f64 b_a1_4] 62 (0, 0)) (by (with_reducible repeat (first | refine blk_drewN ?_ _ | refine blk_drew ?_ | refine blk_alloc ?_ _)); exact BK209.out) hb); have n5_ := Aside0.mk (below_step (by repeat (first | (with_reducible first | exact HB.out | apply below_alloc | apply pw_below_drewN | apply below_drew1 | refine below_set ?_ GE208.out | refine below_set ?_ GE209.out) | exact HB.out)) hb); clear HO221; clear HO224; clear BK208; clear BK209; clear HB; have HO221 := n0_; have HO224 := n1_; have HO228 := n2_; have BK208 := n3_; have BK209 := n4_; have HB := n5_; clear n0_ n1_ n2_ n3_ n4_ n5_; (try clear hb); (try clear hb2); (try clear hk); (try clear hi); (try clear ho0)))
    have n0_ := Aside0.mk (Kd.R_drew HO221.out)
    have n1_ := Aside0.mk (Kd.R_drew HO224.out)
    have n2_ := Aside0.mk (Kd.R_drew HO228.out)
    have n3_ := Aside0.mk (blk_drew BK208.out)
    have n4_ := Aside0.mk (blk_drew BK209.out)
    have n5_ := Aside0.mk (below_drew1 HB.out)
    clear HO221
    clear HO224
    clear HO228
    clear BK208
    clear BK209
    clear HB
    have HO221 := n0_
    have HO224 := n1_
    have HO228 := n2_
    have BK208 := n3_
    have BK209 := n4_
    have HB := n5_
    clear n0_ n1_ n2_ n3_ n4_ n5_
    refine start_ (n := 12) (S := fun w' => w'.cell? ⟨gb208, 0, none⟩ = some (.float .f64 b_a0_0) ∧ w'.cell? ⟨gb208, 1, none⟩ = some (.float .f64 b_a0_1) ∧ w'.cell? ⟨gb208, 2, none⟩ = some (.float .f64 b_a0_2) ∧ w'.cell? ⟨gb208, 3, none⟩ = some (.float .f64 b_a0_3) ∧ w'.cell? ⟨gb209, 0, none⟩ = some (.float .f64 b_a1_0) ∧ w'.cell? ⟨gb209, 1, none⟩ = some (.float .f64 b_a1_1) ∧ w'.cell? ⟨gb209, 2, none⟩ = some (.float .f64 b_a1_2) ∧ w'.cell? ⟨gb209, 3, none⟩ = some (.float .f64 b_a1_3) ∧ w'.cell? ⟨gb209, 4, none⟩ = some (.float .f64 b_a1_4)) (ds := []) #[false, false, false, false, false, false, false, false, false, false, false, false] (by kernel_rfl) rfl rfl ⟨(blk_cell BK208.out 0).trans rfl, (blk_cell BK208.out 1).trans rfl, (blk_cell BK208.out 2).trans rfl, (blk_cell BK208.out 3).trans rfl, (blk_cell BK209.out 0).trans rfl, (blk_cell BK209.out 1).trans rfl, (blk_cell BK209.out 2).trans rfl, (blk_cell BK209.out 3).trans rfl, (blk_cell BK209.out 4).trans rfl⟩ (fun hHeld => ?_); refine with_tabW laws_FnExactFly.tab5 laws_FnExactFly.bits5 (fun HT_ HW_ => ?_)
    generalize w25.drew = w26 at HO221 HO224 HO228 BK208 BK209 HB hHeld ⊢
    refine pure_ (i := 4) (N := some 40) (v := ?_) (a' := ?_) #[false, false, false, false, true, false, false, false, false, false, false, false] rfl rfl (any_of HT_.out (by kernel_rfl)) (fun _ _ _ h => h) (Or.inl ⟨by rfl, ?_⟩) ?_ ?_
    rotate_left
    · intro w'
      go_simp
      with_reducible rfl
    rotate_left
    · simp only [Act.put, List.setIfInBounds_toArray, List.set_cons_zero, List.set_cons_succ, i64_w, i32_w]
      rfl
    refine pure_ (i := 5) (N := some 41) (v := ?_) (a' := ?_) #[false, false, false, false, true, true, false, false, false, false, false, false] rfl rfl (any_of HT_.out (by kernel_rfl)) (fun _ _ _ h => h) (Or.inl ⟨by rfl, ?_⟩) ?_ ?_
    rotate_left
    · intro w'
      go_simp
      with_reducible rfl
    rotate_left
    · simp only [Act.put, List.setIfInBounds_toArray, List.set_cons_zero, List.set_cons_succ, i64_w, i32_w]
      rfl
    refine take_ (i := 0) (N := some 36) (v := ?_) (a' := ?_) #[true, false, false, false, true, true, false, false, false, false, false, false] rfl rfl (take_ofW HT_.out HW_.out (by kernel_rfl)) (fun _ _ _ h => h) (Or.inl ⟨by rfl, ?_⟩) hHeld ?_ ?_
    rotate_left
    · rintro w' ⟨s0, s1, s2, s3, s4, s5, s6, s7, s8⟩
      go_simp
      with_reducible rfl
    rotate_left
    · simp only [Act.put, List.setIfInBounds_toArray, List.set_cons_zero, List.set_cons_succ, i64_w, i32_w]
      rfl
    refine take_ (i := 2) (N := some 38) (v := ?_) (a' := ?_) #[true, false, true, false, true, true, false, false, false, false, false, false] rfl rfl (take_ofW HT_.out HW_.out (by kernel_rfl)) (fun _ _ _ h => h) (Or.inl ⟨by rfl, ?_⟩) hHeld ?_ ?_
    rotate_left
    · rintro w' ⟨s0, s1, s2, s3, s4, s5, s6, s7, s8⟩
      go_simp
      with_reducible rfl
    rotate_left
    · simp only [Act.put, List.setIfInBounds_toArray, List.set_cons_zero, List.set_cons_succ, i64_w, i32_w]
      rfl
    refine one_ (i := 1) (N := some 37) #[true, true, true, false, true, true, false, false, false, false, false, false] rfl rfl (one_of HT_.out (by kernel_rfl)) (by decide) (fun K hK => ?_)
    refine goes_ Try.func42 (by kernel_rfl) rfl #[.agg #[.float .f64 b_a0_0, .float .f64 b_a0_1, .float .f64 b_a0_2, .float .f64 b_a0_3]] (by rfl) rfl rfl (by (try simp only [List.map_toArray, List.map_cons, List.map_nil]); first | done | rfl | (simp only [List.length_drop, List.length_take]; rfl)) ?_
    with_reducible refine (laws_toMotion.calls b_a0_0 a0_0 b_a0_1 a0_1 b_a0_2 a0_2 b_a0_3 a0_3 t229 t230 t231 t232 _ ?side1 ?side2 ?side3 ?side4 A13.out).mono ?_
    (case side1 => exact hF_a0_0)
    (case side2 => exact hF_a0_1)
    (case side3 => exact hF_a0_2)
    (case side4 => exact hF_a0_3)
    rintro e w27 ⟨b_t229, b_t230, b_t231, b_t232, rfl, hF_t229, hF_t230, hF_t231, hF_t232, hb⟩
    refine ⟨_, rfl, ?_⟩
    have n0_ := Aside0.mk (Kd.R_below (by (with_reducible repeat (first | apply Kd.R_alloc | apply Kd.R_drewN | apply Kd.R_drew)); exact HO221.out) hb)
    have n1_ := Aside0.mk (Kd.R_below (by (with_reducible repeat (first | apply Kd.R_alloc | apply Kd.R_drewN | apply Kd.R_drew)); exact HO224.out) hb)
    have n2_ := Aside0.mk (Kd.R_below (by (with_reducible repeat (first | apply Kd.R_alloc | apply Kd.R_drewN | apply Kd.R_drew)); exact HO228.out) hb)
    have n3_ := Aside0.mk (blk_below (g := gb208) (o := .cells #[.float .f64 b_a0_0, .float .f64 b_a0_1, .float .f64 b_a0_2, .float .f64 b_a0_3] 60 (0, 0)) (by (with_reducible repeat (first | refine blk_drewN ?_ _ | refine blk_drew ?_ | refine blk_alloc ?_ _)); exact BK208.out) hb)
    have n4_ := Aside0.mk (blk_below (g := gb209) (o := .cells #[.float .f64 b_a1_0, .float .f64 b_a1_1, .float .f64 b_a1_2, .float .f64 b_a1_3, .float .f64 b_a1_4] 62 (0, 0)) (by (with_reducible repeat (first | refine blk_drewN ?_ _ | refine blk_drew ?_ | refine blk_alloc ?_ _)); exact BK209.out) hb)
    have n5_ := Aside0.mk (below_step (by repeat (first | (with_reducible first | exact HB.out | apply below_alloc | apply pw_below_drewN | apply below_drew1 | refine below_set ?_ GE208.out | refine below_set ?_ GE209.out) | exact HB.out)) hb)
    clear HO221
    clear HO224
    clear HO228
    clear BK208
    clear BK209
    clear HB
    have HO221 := n0_
    have HO224 := n1_
    have HO228 := n2_
    have BK208 := n3_
    have BK209 := n4_
    have HB := n5_
    clear n0_ n1_ n2_ n3_ n4_ n5_
    (try clear hb)
    (try clear hb2)
    (try clear hk)
    (try clear hi)
    refine hK.out _ _ ⟨(blk_cell BK208.out 0).trans rfl, (blk_cell BK208.out 1).trans rfl, (blk_cell BK208.out 2).trans rfl, (blk_cell BK208.out 3).trans rfl, (blk_cell BK209.out 0).trans rfl, (blk_cell BK209.out 1).trans rfl, (blk_cell BK209.out 2).trans rfl, (blk_cell BK209.out 3).trans rfl, (blk_cell BK209.out 4).trans rfl⟩ (fun hHeld => ?_)
    clear hK K
    refine norm_ (a' := ?_) ?_ ?_
    rotate_left
    · show Act.put _ (some 37) _ = _
      simp only [Act.put, List.setIfInBounds_toArray, List.set_cons_zero, List.set_cons_succ, i64_w, i32_w]
      rfl
    refine one_ (i := 3) (N := some 39) #[true, true, true, true, true, true, false, false, false, false, false, false] rfl rfl (one_of HT_.out (by kernel_rfl)) (by decide) (fun K hK => ?_)
    refine goes_ Try.func43 (by kernel_rfl) rfl #[.agg #[.float .f64 b_a1_0, .float .f64 b_a1_1, .float .f64 b_a1_2, .float .f64 b_a1_3, .float .f64 b_a1_4]] (by rfl) rfl rfl (by (try simp only [List.map_toArray, List.map_cons, List.map_nil]); first | done | rfl | (simp only [List.length_drop, List.length_take]; rfl)) ?_
    with_reducible refine (laws_toForces.calls b_a1_0 a1_0 b_a1_1 a1_1 b_a1_2 a1_2 b_a1_3 a1_3 b_a1_4 a1_4 t233 t234 t235 t236 t237 _ ?side1 ?side2 ?side3 ?side4 ?side5 A14.out).mono ?_
    (case side1 => exact hF_a1_0)
    (case side2 => exact hF_a1_1)
    (case side3 => exact hF_a1_2)
    (case side4 => exact hF_a1_3)
    (case side5 => exact hF_a1_4)
    rintro e w28 ⟨b_t233, b_t234, b_t235, b_t236, b_t237, rfl, hF_t233, hF_t234, hF_t235, hF_t236, hF_t237, hb⟩
    refine ⟨_, rfl, ?_⟩
    have n0_ := Aside0.mk (Kd.R_below (by (with_reducible repeat (first | apply Kd.R_alloc | apply Kd.R_drewN | apply Kd.R_drew)); exact HO221.out) hb)
    have n1_ := Aside0.mk (Kd.R_below (by (with_reducible repeat (first | apply Kd.R_alloc | apply Kd.R_drewN | apply Kd.R_drew)); exact HO224.out) hb)
    have n2_ := Aside0.mk (Kd.R_below (by (with_reducible repeat (first | apply Kd.R_alloc | apply Kd.R_drewN | apply Kd.R_drew)); exact HO228.out) hb)
    have n3_ := Aside0.mk (blk_below (g := gb208) (o := .cells #[.float .f64 b_a0_0, .float .f64 b_a0_1, .float .f64 b_a0_2, .float .f64 b_a0_3] 60 (0, 0)) (by (with_reducible repeat (first | refine blk_drewN ?_ _ | refine blk_drew ?_ | refine blk_alloc ?_ _)); exact BK208.out) hb)
    have n4_ := Aside0.mk (blk_below (g := gb209) (o := .cells #[.float .f64 b_a1_0, .float .f64 b_a1_1, .float .f64 b_a1_2, .float .f64 b_a1_3, .float .f64 b_a1_4] 62 (0, 0)) (by (with_reducible repeat (first | refine blk_drewN ?_ _ | refine blk_drew ?_ | refine blk_alloc ?_ _)); exact BK209.out) hb)
    have n5_ := Aside0.mk (below_step (by repeat (first | (with_reducible first | exact HB.out | apply below_alloc | apply pw_below_drewN | apply below_drew1 | refine below_set ?_ GE208.out | refine below_set ?_ GE209.out) | exact HB.out)) hb)
    clear HO221
    clear HO224
    clear HO228
    clear BK208
    clear BK209
    clear HB
    have HO221 := n0_
    have HO224 := n1_
    have HO228 := n2_
    have BK208 := n3_
    have BK209 := n4_
    have HB := n5_
    clear n0_ n1_ n2_ n3_ n4_ n5_
    (try clear hb)
    (try clear hb2)
    (try clear hk)
    (try clear hi)
    obtain ⟨Ao29, co29, eo29⟩ := Kd.R_slice HO228.out
    (first | subst eo29 | (injection eo29 with f1_ f2_ f3_; have f4_ := f1_.symm; have f5_ := f3_.symm; clear f1_ f2_ f3_; subst f4_; subst f5_))
    refine hK.out _ _ ⟨(blk_cell BK208.out 0).trans rfl, (blk_cell BK208.out 1).trans rfl, (blk_cell BK208.out 2).trans rfl, (blk_cell BK208.out 3).trans rfl, (blk_cell BK209.out 0).trans rfl, (blk_cell BK209.out 1).trans rfl, (blk_cell BK209.out 2).trans rfl, (blk_cell BK209.out 3).trans rfl, (blk_cell BK209.out 4).trans rfl⟩ (fun hHeld => ?_)
    clear hK K
    refine norm_ (a' := ?_) ?_ ?_
    rotate_left
    · show Act.put _ (some 39) _ = _
      simp only [Act.put, List.setIfInBounds_toArray, List.set_cons_zero, List.set_cons_succ, i64_w, i32_w]
      rfl
    refine one_ (i := 6) (N := some 42) #[true, true, true, true, true, true, true, false, false, false, false, false] rfl rfl (one_of HT_.out (by kernel_rfl)) (by decide) (fun K hK => ?_)
    refine goes_ Try.func44 (by kernel_rfl) rfl #[.agg #[.float .f64 b_t229, .float .f64 b_t230, .float .f64 b_t231, .float .f64 b_t232], .agg #[.float .f64 b_t233, .float .f64 b_t234, .float .f64 b_t235, .float .f64 b_t236, .float .f64 b_t237], .slice Ao29 t226.length co29, .float .f64 b_a3] (by rfl) rfl rfl (by (try simp only [List.map_toArray, List.map_cons, List.map_nil]); first | done | rfl | (simp only [List.length_drop, List.length_take]; rfl)) ?_
    with_reducible refine (impl_Fly.calls k b_t229 t229 b_t230 t230 b_t231 t231 b_t232 t232 b_t233 t233 b_t234 t234 b_t235 t235 b_t236 t236 b_t237 t237 _ _ t226 b_a3 a3 t238 t241 _ ?side1 ?side2 ?side3 ?side4 ?side5 ?side6 ?side7 ?side8 ?side9 ?side10 ?side11 ?side12 A15.out).mono ?_
    (case side1 => exact hF_t229)
    (case side2 => exact hF_t230)
    (case side3 => exact hF_t231)
    (case side4 => exact hF_t232)
    (case side5 => exact hF_t233)
    (case side6 => exact hF_t234)
    (case side7 => exact hF_t235)
    (case side8 => exact hF_t236)
    (case side9 => exact hF_t237)
    (case side10 => repeat (first | exact (Kd.R_reads' HO228.out).2.2 | (with_reducible refine Kd.C_alloc ?_ _) | (with_reducible refine Kd.C_drewN ?_ _) | (with_reducible refine Kd.C_drew ?_)))
    (case side11 => exact (Kd.R_reads' HO228.out).2.1)
    (case side12 => exact hF_a3)
    rintro e w30 ⟨v239, rfl, ho0, hb⟩
    refine ⟨_, rfl, ?_⟩
    have n0_ := Aside0.mk (Kd.R_below (by (with_reducible repeat (first | apply Kd.R_alloc | apply Kd.R_drewN | apply Kd.R_drew)); exact HO221.out) hb)
    have n1_ := Aside0.mk (Kd.R_elder' (by (with_reducible repeat (first | apply Kd.R_alloc | apply Kd.R_drewN | apply Kd.R_drew)); exact HO224.out) (Kd.R_base ho0) hb)
    have n2_ := Aside0.mk (Kd.R_below (by (with_reducible repeat (first | apply Kd.R_alloc | apply Kd.R_drewN | apply Kd.R_drew)); exact HO228.out) hb)
    have n3_ := Aside0.mk (Kd.R_lower (Kd.R_new' ho0 (Kd.R_lt (by (with_reducible repeat (first | apply Kd.R_alloc | apply Kd.R_drewN | apply Kd.R_drew)); exact HO224.out))) (below_size (by repeat (first | (with_reducible first | exact HB.out | apply below_alloc | apply pw_below_drewN | apply below_drew1 | refine below_set ?_ GE208.out | refine below_set ?_ GE209.out) | exact HB.out))))
    have n4_ := Aside0.mk (blk_below (g := gb208) (o := .cells #[.float .f64 b_a0_0, .float .f64 b_a0_1, .float .f64 b_a0_2, .float .f64 b_a0_3] 60 (0, 0)) (by (with_reducible repeat (first | refine blk_drewN ?_ _ | refine blk_drew ?_ | refine blk_alloc ?_ _)); exact BK208.out) hb)
    have n5_ := Aside0.mk (blk_below (g := gb209) (o := .cells #[.float .f64 b_a1_0, .float .f64 b_a1_1, .float .f64 b_a1_2, .float .f64 b_a1_3, .float .f64 b_a1_4] 62 (0, 0)) (by (with_reducible repeat (first | refine blk_drewN ?_ _ | refine blk_drew ?_ | refine blk_alloc ?_ _)); exact BK209.out) hb)
    have n6_ := Aside0.mk (below_step (by repeat (first | (with_reducible first | exact HB.out | apply below_alloc | apply pw_below_drewN | apply below_drew1 | refine below_set ?_ GE208.out | refine below_set ?_ GE209.out) | exact HB.out)) hb)
    clear HO221
    clear HO224
    clear HO228
    clear BK208
    clear BK209
    clear HB
    have HO221 := n0_
    have HO224 := n1_
    have HO228 := n2_
    have HO240 := n3_
    have BK208 := n4_
    have BK209 := n5_
    have HB := n6_
    clear n0_ n1_ n2_ n3_ n4_ n5_ n6_
    (try clear hb)
    (try clear hb2)
    (try clear hk)
    (try clear hi)
    (try clear ho0)
    refine hK.out _ _ ⟨(blk_cell BK208.out 0).trans rfl, (blk_cell BK208.out 1).trans rfl, (blk_cell BK208.out 2).trans rfl, (blk_cell BK208.out 3).trans rfl, (blk_cell BK209.out 0).trans rfl, (blk_cell BK209.out 1).trans rfl, (blk_cell BK209.out 2).trans rfl, (blk_cell BK209.out 3).trans rfl, (blk_cell BK209.out 4).trans rfl⟩ (fun hHeld => ?_)
    clear hK K
    refine norm_ (a' := ?_) ?_ ?_
    rotate_left
    · show Act.put _ (some 42) _ = _
      simp only [Act.put, List.setIfInBounds_toArray, List.set_cons_zero, List.set_cons_succ, i64_w, i32_w]
      rfl
    refine pure_ (i := 7) (N := some 35) (v := ?_) (a' := ?_) #[true, true, true, true, true, true, true, true, false, false, false, false] rfl rfl (any_of HT_.out (by kernel_rfl)) (fun _ _ _ h => h) (Or.inl ⟨by rfl, ?_⟩) ?_ ?_
    rotate_left
    · intro w'
      go_simp
      with_reducible rfl
    rotate_left
    · simp only [Act.put, List.setIfInBounds_toArray, List.set_cons_zero, List.set_cons_succ, i64_w, i32_w]
      rfl
    refine pure_ (i := 8) (N := some 43) (v := ?_) (a' := ?_) #[true, true, true, true, true, true, true, true, true, false, false, false] rfl rfl (any_of HT_.out (by kernel_rfl)) (fun _ _ _ h => h) (Or.inl ⟨by rfl, ?_⟩) ?_ ?_
    rotate_left
    · intro w'
      go_simp
      with_reducible rfl
    rotate_left
    · simp only [Act.put, List.setIfInBounds_toArray, List.set_cons_zero, List.set_cons_succ, i64_w, i32_w]
      rfl
    refine pure_ (i := 9) (N := some 44) (v := ?_) (a' := ?_) #[true, true, true, true, true, true, true, true, true, true, false, false] rfl rfl (any_of HT_.out (by kernel_rfl)) (fun _ _ _ h => h) (Or.inl ⟨by rfl, ?_⟩) ?_ ?_
    rotate_left
    · intro w'
      go_simp
      with_reducible rfl
    rotate_left
    · simp only [Act.put, List.setIfInBounds_toArray, List.set_cons_zero, List.set_cons_succ, i64_w, i32_w]
      rfl
    refine pure_ (i := 10) (N := some 12) (v := ?_) (a' := ?_) #[true, true, true, true, true, true, true, true, true, true, true, false] rfl rfl (any_of HT_.out (by kernel_rfl)) (fun _ _ _ h => h) (Or.inl ⟨by rfl, ?_⟩) ?_ ?_
    rotate_left
    · intro w'
      go_simp
      with_reducible rfl
    rotate_left
    · simp only [Act.put, List.setIfInBounds_toArray, List.set_cons_zero, List.set_cons_succ, i64_w, i32_w]
      rfl
    refine pure_ (i := 11) (N := some 13) (v := ?_) (a' := ?_) #[true, true, true, true, true, true, true, true, true, true, true, true] rfl rfl (any_of HT_.out (by kernel_rfl)) (fun _ _ _ h => h) (Or.inl ⟨by rfl, ?_⟩) ?_ ?_
    rotate_left
    · intro w'
      go_simp
      with_reducible rfl
    rotate_left
    · simp only [Act.put, List.setIfInBounds_toArray, List.set_cons_zero, List.set_cons_succ, i64_w, i32_w]
      rfl
    refine done_ (done_of HT_.out (by kernel_rfl)) ?_
    go_upto_region 6 with (fail)
    go_cut [53] (fun v53 wc => ∃ (kq : Nat) (x53_15 : Bool), v53 = .bool x53_15 ∧ Aside0 (laws_FnExactFly.j0 kq l2 a3 t222 t225 t226 t238 t241 x53_15 a0_0 a0_1 a0_2 a0_3 a1_0 a1_1 a1_2 a1_3 a1_4 = some r) ∧ Aside0 (kq ≤ k) ∧ Aside0 (Kd.R k66 66 wc w.heap.size (fun k_ => some k_ ≠ (v239 : Value).ownBlock) v223 t222) ∧ Aside0 (Kd.R (Kd.fl .f64) 23 wc w.heap.size (fun _ => True) (.slice Ao29 t226.length co29) t226) ∧ Aside0 (Kd.R k66 66 wc w.heap.size (fun k_ => some k_ ≠ (v223 : Value).ownBlock) v239 t238) ∧ Aside0 (wc.heap[gb208]? = some (.cells #[.float .f64 b_a0_0, .float .f64 b_a0_1, .float .f64 b_a0_2, .float .f64 b_a0_3] 60 (0, 0))) ∧ Aside0 (wc.heap[gb209]? = some (.cells #[.float .f64 b_a1_0, .float .f64 b_a1_1, .float .f64 b_a1_2, .float .f64 b_a1_3, .float .f64 b_a1_4] 62 (0, 0))) ∧ Aside0 (Below w.heap.size w wc))
    case first =>
      have H := HC16.out
      clear HC16
      replace H := Option.bind_eq_some_iff.mp H
      obtain ⟨t242, A310, H⟩ := H
      replace H : (if t242 = true then (laws_FnExactFly.j0 k l2 a3 t222 t225 t226 t238 t241 (t241 != t225) a0_0 a0_1 a0_2 a0_3 a1_0 a1_1 a1_2 a1_3 a1_4) else (laws_FnExactFly.j0 k l2 a3 t222 t225 t226 t238 t241 true a0_0 a0_1 a0_2 a0_3 a1_0 a1_1 a1_2 a1_3 a1_4)) = some r := H
      have A31 := Aside0.mk A310
      clear A310
      by_cases c32 : t242 = true
      · subst c32
        have H1 : (laws_FnExactFly.j0 k l2 a3 t222 t225 t226 t238 t241 (t241 != t225) a0_0 a0_1 a0_2 a0_3 a1_0 a1_1 a1_2 a1_3 a1_4) = some r := by rw [if_pos rfl] at H; exact H
        clear H
        have H := H1
        clear H1
        have H' := Aside0.mk H
        clear H
        obtain ⟨Ao33, co33, eo33⟩ := Kd.R_slice HO240.out
        subst eo33
        obtain ⟨Ao34, co34, eo34⟩ := Kd.R_slice HO224.out
        subst eo34
        go_wp2_with (first | ((with_reducible refine gate_callee (f := 45) rfl ?_); refine goesL_ (some 47) rfl rfl Try.func45 (by kernel_rfl) rfl #[.slice Ao33 t238.length co33, .slice Ao34 t222.length co34] rfl (by (try simp only [List.map_toArray, List.map_cons, List.map_nil]); first | done | rfl | (simp only [List.length_drop, List.length_take]; rfl)) ?_; (with_reducible refine (laws_eqMotionS.calls k _ _ t238 _ _ t222 true _ ?side1 ?side2 ?side3 ?side4 A31.out).mono ?_); (case side1 => repeat (first | exact (Kd.R_reads' HO240.out).2.2 | (with_reducible refine Kd.C_alloc ?_ _) | (with_reducible refine Kd.C_drewN ?_ _) | (with_reducible refine Kd.C_drew ?_))); (case side2 => exact (Kd.R_reads' HO240.out).2.1); (case side3 => repeat (first | exact (Kd.R_reads' HO224.out).2.2 | (with_reducible refine Kd.C_alloc ?_ _) | (with_reducible refine Kd.C_drewN ?_ _) | (with_reducible refine Kd.C_drew ?_))); (case side4 => exact (Kd.R_reads' HO224.out).2.1); rintro e w35 ⟨rfl, hb⟩; refine ⟨_, rfl, ?_⟩; have n0_ := Aside0.mk (Kd.R_below (by (with_reducible repeat (first | apply Kd.R_alloc | apply Kd.R_drewN | apply Kd.R_drew)); exact HO221.out) hb); have n1_ := Aside0.mk (Kd.R_below (by (with_reducible repeat (first | apply Kd.R_alloc | apply Kd.R_drewN | apply Kd.R_drew)); exact HO224.out) hb); have n2_ := Aside0.mk (Kd.R_below (by (with_reducible repeat (first | apply Kd.R_alloc | apply Kd.R_drewN | apply Kd.R_drew)); exact HO228.out) hb); have n3_ := Aside0.mk (Kd.R_below (by (with_reducible repeat (first | apply Kd.R_alloc | apply Kd.R_drewN | apply Kd.R_drew)); exact HO240.out) hb); have n4_ := Aside0.mk (blk_below (g := gb208) (o := .cells #[.float .f64 b_a0_0, .float .f64 b_a0_1, .float .f64 b_a0_2, .float .f64 b_a0_3] 60 (0, 0)) (by (with_reducible repeat (first | refine blk_drewN ?_ _ | refine blk_drew ?_ | refine blk_alloc ?_ _)); exact BK208.out) hb); have n5_ := Aside0.mk (blk_below (g := gb209) (o := .cells #[.float .f64 b_a1_0, .float .f64 b_a1_1, .float .f64 b_a1_2, .float .f64 b_a1_3, .float .f64 b_a1_4] 62 (0, 0)) (by (with_reducible repeat (first | refine blk_drewN ?_ _ | refine blk_drew ?_ | refine blk_alloc ?_ _)); exact BK209.out) hb); have n6_ := Aside0.mk (below_step (by repeat (first | (with_reducible first | exact HB.out | apply below_alloc | apply pw_below_drewN | apply below_drew1 | refine below_set ?_ GE208.out | refine below_set ?_ GE209.out) | exact HB.out)) hb); clear HO221; clear HO224; clear HO228; clear HO240; clear BK208; clear BK209; clear HB; have HO221 := n0_; have HO224 := n1_; have HO228 := n2_; have HO240 := n3_; have BK208 := n4_; have BK209 := n5_; have HB := n6_; clear n0_ n1_ n2_ n3_ n4_ n5_ n6_; (try clear hb); (try clear hb2); (try clear hk); (try clear hi)))
        go_meet
        case rel => exact ⟨_, ((t241 != t225)), (by first | rfl | (simp; done) | (simp [*]; done)), H', ⟨by first | omega | exact Nat.le_refl _⟩, ⟨by (with_reducible repeat (first | apply Kd.R_alloc | apply Kd.R_drewN | apply Kd.R_drew)); exact Kd.R_mono HO224.out (fun _ hk => hk.2)⟩, ⟨by (with_reducible repeat (first | apply Kd.R_alloc | apply Kd.R_drewN | apply Kd.R_drew)); exact Kd.R_mono HO228.out (fun _ hk => trivial)⟩, ⟨by (with_reducible repeat (first | apply Kd.R_alloc | apply Kd.R_drewN | apply Kd.R_drew)); exact Kd.R_mono HO240.out (fun _ hk => hk.2)⟩, ⟨by (with_reducible repeat (first | refine blk_drewN ?_ _ | refine blk_drew ?_ | refine blk_alloc ?_ _)); exact BK208.out⟩, ⟨by (with_reducible repeat (first | refine blk_drewN ?_ _ | refine blk_drew ?_ | refine blk_alloc ?_ _)); exact BK209.out⟩, ⟨by repeat (first | (with_reducible first | exact HB.out | apply below_alloc | apply pw_below_drewN | apply below_drew1 | refine below_set ?_ GE208.out | refine below_set ?_ GE209.out) | exact HB.out)⟩⟩
      · replace c32 := Bool.eq_false_iff.mpr c32
        subst c32
        have H1 : (laws_FnExactFly.j0 k l2 a3 t222 t225 t226 t238 t241 true a0_0 a0_1 a0_2 a0_3 a1_0 a1_1 a1_2 a1_3 a1_4) = some r := by rw [if_neg (show ¬ (false = true) by decide)] at H; exact H
        clear H
        have H := H1
        clear H1
        have H' := Aside0.mk H
        clear H
        obtain ⟨Ao36, co36, eo36⟩ := Kd.R_slice HO240.out
        subst eo36
        obtain ⟨Ao37, co37, eo37⟩ := Kd.R_slice HO224.out
        subst eo37
        go_wp2_with (first | ((with_reducible refine gate_callee (f := 45) rfl ?_); refine goesL_ (some 47) rfl rfl Try.func45 (by kernel_rfl) rfl #[.slice Ao36 t238.length co36, .slice Ao37 t222.length co37] rfl (by (try simp only [List.map_toArray, List.map_cons, List.map_nil]); first | done | rfl | (simp only [List.length_drop, List.length_take]; rfl)) ?_; (with_reducible refine (laws_eqMotionS.calls k _ _ t238 _ _ t222 false _ ?side1 ?side2 ?side3 ?side4 A31.out).mono ?_); (case side1 => repeat (first | exact (Kd.R_reads' HO240.out).2.2 | (with_reducible refine Kd.C_alloc ?_ _) | (with_reducible refine Kd.C_drewN ?_ _) | (with_reducible refine Kd.C_drew ?_))); (case side2 => exact (Kd.R_reads' HO240.out).2.1); (case side3 => repeat (first | exact (Kd.R_reads' HO224.out).2.2 | (with_reducible refine Kd.C_alloc ?_ _) | (with_reducible refine Kd.C_drewN ?_ _) | (with_reducible refine Kd.C_drew ?_))); (case side4 => exact (Kd.R_reads' HO224.out).2.1); rintro e w38 ⟨rfl, hb⟩; refine ⟨_, rfl, ?_⟩; have n0_ := Aside0.mk (Kd.R_below (by (with_reducible repeat (first | apply Kd.R_alloc | apply Kd.R_drewN | apply Kd.R_drew)); exact HO221.out) hb); have n1_ := Aside0.mk (Kd.R_below (by (with_reducible repeat (first | apply Kd.R_alloc | apply Kd.R_drewN | apply Kd.R_drew)); exact HO224.out) hb); have n2_ := Aside0.mk (Kd.R_below (by (with_reducible repeat (first | apply Kd.R_alloc | apply Kd.R_drewN | apply Kd.R_drew)); exact HO228.out) hb); have n3_ := Aside0.mk (Kd.R_below (by (with_reducible repeat (first | apply Kd.R_alloc | apply Kd.R_drewN | apply Kd.R_drew)); exact HO240.out) hb); have n4_ := Aside0.mk (blk_below (g := gb208) (o := .cells #[.float .f64 b_a0_0, .float .f64 b_a0_1, .float .f64 b_a0_2, .float .f64 b_a0_3] 60 (0, 0)) (by (with_reducible repeat (first | refine blk_drewN ?_ _ | refine blk_drew ?_ | refine blk_alloc ?_ _)); exact BK208.out) hb); have n5_ := Aside0.mk (blk_below (g := gb209) (o := .cells #[.float .f64 b_a1_0, .float .f64 b_a1_1, .float .f64 b_a1_2, .float .f64 b_a1_3, .float .f64 b_a1_4] 62 (0, 0)) (by (with_reducible repeat (first | refine blk_drewN ?_ _ | refine blk_drew ?_ | refine blk_alloc ?_ _)); exact BK209.out) hb); have n6_ := Aside0.mk (below_step (by repeat (first | (with_reducible first | exact HB.out | apply below_alloc | apply pw_below_drewN | apply below_drew1 | refine below_set ?_ GE208.out | refine below_set ?_ GE209.out) | exact HB.out)) hb); clear HO221; clear HO224; clear HO228; clear HO240; clear BK208; clear BK209; clear HB; have HO221 := n0_; have HO224 := n1_; have HO228 := n2_; have HO240 := n3_; have BK208 := n4_; have BK209 := n5_; have HB := n6_; clear n0_ n1_ n2_ n3_ n4_ n5_ n6_; (try clear hb); (try clear hb2); (try clear hk); (try clear hi)))
        go_meet
        case rel => exact ⟨_, (true), (by first | rfl | (simp; done) | (simp [*]; done)), H', ⟨by first | omega | exact Nat.le_refl _⟩, ⟨by (with_reducible repeat (first | apply Kd.R_alloc | apply Kd.R_drewN | apply Kd.R_drew)); exact Kd.R_mono HO224.out (fun _ hk => hk.2)⟩, ⟨by (with_reducible repeat (first | apply Kd.R_alloc | apply Kd.R_drewN | apply Kd.R_drew)); exact Kd.R_mono HO228.out (fun _ hk => trivial)⟩, ⟨by (with_reducible repeat (first | apply Kd.R_alloc | apply Kd.R_drewN | apply Kd.R_drew)); exact Kd.R_mono HO240.out (fun _ hk => hk.2)⟩, ⟨by (with_reducible repeat (first | refine blk_drewN ?_ _ | refine blk_drew ?_ | refine blk_alloc ?_ _)); exact BK208.out⟩, ⟨by (with_reducible repeat (first | refine blk_drewN ?_ _ | refine blk_drew ?_ | refine blk_alloc ?_ _)); exact BK209.out⟩, ⟨by repeat (first | (with_reducible first | exact HB.out | apply below_alloc | apply pw_below_drewN | apply below_drew1 | refine below_set ?_ GE208.out | refine below_set ?_ GE209.out) | exact HB.out)⟩⟩
    case rest =>
      clear HC16
      try clear c1
      try clear c2
      try clear p2
      try clear c3
      try clear c4
      try clear c5
      try clear c5b0
      try clear c5b1
      try clear c9
      try clear c15
      try clear c32
      obtain ⟨kq, x53_15, rfl, HA, HJ15, HO_9, HO_11, HO_12, BK208, BK209, HB⟩ := hcut
      cases kq with
      | zero => exact absurd HA.out (by simp [laws_FnExactFly.j0])
      | succ kj15 =>
        have H := HA.out
        clear HA
        simp only [laws_FnExactFly.j0] at H
        by_cases c39 : x53_15 = true
        · subst c39
          have H1 : (some false) = some r := by rw [if_pos rfl] at H; exact H
          clear H
          have H := H1
          clear H1
          obtain rfl := Option.some.inj H
          go_wp2
          go_ret
          exact ⟨by first | rfl | (simp [errW_none, errW_some] <;> rfl) | (simp [*, errW_none, errW_some] <;> rfl), by repeat (first | (with_reducible first | exact HB.out | apply below_alloc | apply pw_below_drewN | apply below_drew1 | refine below_set ?_ GE208.out | refine below_set ?_ GE209.out) | exact HB.out)⟩
        · replace c39 := Bool.eq_false_iff.mpr c39
          subst c39
          have H1 : ((laws_toFloat64S.f kj15 l2).bind fun t243 => ((laws_eqFloat64S.f kj15 t226 t243).bind fun t246 => (if t246 = true then ((laws_markFloat64S.f kj15 t226 1).bind fun bt247 => (if bt247.1 < 0 then (laws_FnExactFly.j1 kj15 l2 a3 t222 t225 t238 true a0_0 a0_1 a0_2 a0_3 a1_0 a1_1 a1_2 a1_3 a1_4) else ((laws_eqMotionS.f kj15 t238 t222).bind fun t249 => (if t249 = true then (laws_FnExactFly.j1 kj15 l2 a3 t222 t225 t238 (t241 != t225) a0_0 a0_1 a0_2 a0_3 a1_0 a1_1 a1_2 a1_3 a1_4) else (laws_FnExactFly.j1 kj15 l2 a3 t222 t225 t238 true a0_0 a0_1 a0_2 a0_3 a1_0 a1_1 a1_2 a1_3 a1_4))))) else (some false)))) = some r := by rw [if_neg (show ¬ (false = true) by decide)] at H; exact H
          clear H
          have H := H1
          clear H1
          replace H := Option.bind_eq_some_iff.mp H
          obtain ⟨t243, A400, H⟩ := H
          replace H : ((laws_eqFloat64S.f kj15 t226 t243).bind fun t246 => (if t246 = true then ((laws_markFloat64S.f kj15 t226 1).bind fun bt247 => (if bt247.1 < 0 then (laws_FnExactFly.j1 kj15 l2 a3 t222 t225 t238 true a0_0 a0_1 a0_2 a0_3 a1_0 a1_1 a1_2 a1_3 a1_4) else ((laws_eqMotionS.f kj15 t238 t222).bind fun t249 => (if t249 = true then (laws_FnExactFly.j1 kj15 l2 a3 t222 t225 t238 (t241 != t225) a0_0 a0_1 a0_2 a0_3 a1_0 a1_1 a1_2 a1_3 a1_4) else (laws_FnExactFly.j1 kj15 l2 a3 t222 t225 t238 true a0_0 a0_1 a0_2 a0_3 a1_0 a1_1 a1_2 a1_3 a1_4))))) else (some false))) = some r := H
          have A40 := Aside0.mk A400
          clear A400
          replace H := Option.bind_eq_some_iff.mp H
          obtain ⟨t246, A410, H⟩ := H
          replace H : (if t246 = true then ((laws_markFloat64S.f kj15 t226 1).bind fun bt247 => (if bt247.1 < 0 then (laws_FnExactFly.j1 kj15 l2 a3 t222 t225 t238 true a0_0 a0_1 a0_2 a0_3 a1_0 a1_1 a1_2 a1_3 a1_4) else ((laws_eqMotionS.f kj15 t238 t222).bind fun t249 => (if t249 = true then (laws_FnExactFly.j1 kj15 l2 a3 t222 t225 t238 (t241 != t225) a0_0 a0_1 a0_2 a0_3 a1_0 a1_1 a1_2 a1_3 a1_4) else (laws_FnExactFly.j1 kj15 l2 a3 t222 t225 t238 true a0_0 a0_1 a0_2 a0_3 a1_0 a1_1 a1_2 a1_3 a1_4))))) else (some false)) = some r := H
          have A41 := Aside0.mk A410
          clear A410
          by_cases c42 : t246 = true
          · subst c42
            have H1 : ((laws_markFloat64S.f kj15 t226 1).bind fun bt247 => (if bt247.1 < 0 then (laws_FnExactFly.j1 kj15 l2 a3 t222 t225 t238 true a0_0 a0_1 a0_2 a0_3 a1_0 a1_1 a1_2 a1_3 a1_4) else ((laws_eqMotionS.f kj15 t238 t222).bind fun t249 => (if t249 = true then (laws_FnExactFly.j1 kj15 l2 a3 t222 t225 t238 (t241 != t225) a0_0 a0_1 a0_2 a0_3 a1_0 a1_1 a1_2 a1_3 a1_4) else (laws_FnExactFly.j1 kj15 l2 a3 t222 t225 t238 true a0_0 a0_1 a0_2 a0_3 a1_0 a1_1 a1_2 a1_3 a1_4))))) = some r := by rw [if_pos rfl] at H; exact H
            clear H
            have H := H1
            clear H1
            replace H := Option.bind_eq_some_iff.mp H
            obtain ⟨⟨t247, t248⟩, A430, H⟩ := H
            replace H : (if t247 < 0 then (laws_FnExactFly.j1 kj15 l2 a3 t222 t225 t238 true a0_0 a0_1 a0_2 a0_3 a1_0 a1_1 a1_2 a1_3 a1_4) else ((laws_eqMotionS.f kj15 t238 t222).bind fun t249 => (if t249 = true then (laws_FnExactFly.j1 kj15 l2 a3 t222 t225 t238 (t241 != t225) a0_0 a0_1 a0_2 a0_3 a1_0 a1_1 a1_2 a1_3 a1_4) else (laws_FnExactFly.j1 kj15 l2 a3 t222 t225 t238 true a0_0 a0_1 a0_2 a0_3 a1_0 a1_1 a1_2 a1_3 a1_4)))) = some r := H
            have A43 := Aside0.mk A430
            clear A430
            have HC44 := Aside0.mk H
            clear H
            go_upto_region 12 with (first | ((with_reducible refine gate_callee (f := 15) rfl ?_); refine goesL_ (some 56) rfl rfl Try.func15 (by kernel_rfl) rfl #[.slice A2 l2.length c2] rfl (by (try simp only [List.map_toArray, List.map_cons, List.map_nil]); first | done | rfl | (simp only [List.length_drop, List.length_take]; rfl)) ?_; (with_reducible refine (laws_toFloat64S.calls kj15 _ _ l2 t243 _ ?side1 ?side2 A40.out).mono ?_); (case side1 => repeat (first | exact (Kd.C_below HR2.out HB.out) | (with_reducible refine Kd.C_alloc ?_ _) | (with_reducible refine Kd.C_drewN ?_ _) | (with_reducible refine Kd.C_drew ?_))); (case side2 => exact HC2.out); rintro e w45 ⟨v244, rfl, ho0, hb⟩; refine ⟨_, rfl, ?_⟩; have n0_ := Aside0.mk (Kd.R_below (by (with_reducible repeat (first | apply Kd.R_alloc | apply Kd.R_drewN | apply Kd.R_drew)); exact HO_9.out) hb); have n1_ := Aside0.mk (Kd.R_elder' (by (with_reducible repeat (first | apply Kd.R_alloc | apply Kd.R_drewN | apply Kd.R_drew)); exact HO_11.out) (Kd.R_base ho0) hb); have n2_ := Aside0.mk (Kd.R_below (by (with_reducible repeat (first | apply Kd.R_alloc | apply Kd.R_drewN | apply Kd.R_drew)); exact HO_12.out) hb); have n3_ := Aside0.mk (Kd.R_lower (Kd.R_new' ho0 (Kd.R_lt (by (with_reducible repeat (first | apply Kd.R_alloc | apply Kd.R_drewN | apply Kd.R_drew)); exact HO_11.out))) (below_size (by repeat (first | (with_reducible first | exact HB.out | apply below_alloc | apply pw_below_drewN | apply below_drew1 | refine below_set ?_ GE208.out | refine below_set ?_ GE209.out) | exact HB.out)))); have n4_ := Aside0.mk (blk_below (g := gb208) (o := .cells #[.float .f64 b_a0_0, .float .f64 b_a0_1, .float .f64 b_a0_2, .float .f64 b_a0_3] 60 (0, 0)) (by (with_reducible repeat (first | refine blk_drewN ?_ _ | refine blk_drew ?_ | refine blk_alloc ?_ _)); exact BK208.out) hb); have n5_ := Aside0.mk (blk_below (g := gb209) (o := .cells #[.float .f64 b_a1_0, .float .f64 b_a1_1, .float .f64 b_a1_2, .float .f64 b_a1_3, .float .f64 b_a1_4] 62 (0, 0)) (by (with_reducible repeat (first | refine blk_drewN ?_ _ | refine blk_drew ?_ | refine blk_alloc ?_ _)); exact BK209.out) hb); have n6_ := Aside0.mk (below_step (by repeat (first | (with_reducible first | exact HB.out | apply below_alloc | apply pw_below_drewN | apply below_drew1 | refine below_set ?_ GE208.out | refine below_set ?_ GE209.out) | exact HB.out)) hb); clear HO_9; clear HO_11; clear HO_12; clear BK208; clear BK209; clear HB; have HO_9 := n0_; have HO_11 := n1_; have HO_12 := n2_; have HO245 := n3_; have BK208 := n4_; have BK209 := n5_; have HB := n6_; clear n0_ n1_ n2_ n3_ n4_ n5_ n6_; (try clear hb); (try clear hb2); (try clear hk); (try clear hi); (try clear ho0); obtain ⟨Ao46, co46, eo46⟩ := Kd.R_slice HO245.out; subst eo46) | ((with_reducible refine gate_callee (f := 18) rfl ?_); refine goesL_ (some 57) rfl rfl Try.func18 (by kernel_rfl) rfl #[.slice Ao29 t226.length co29, .slice Ao46 t243.length co46] rfl (by (try simp only [List.map_toArray, List.map_cons, List.map_nil]); first | done | rfl | (simp only [List.length_drop, List.length_take]; rfl)) ?_; (with_reducible refine (laws_eqFloat64S.calls kj15 _ _ t226 _ _ t243 true _ ?side1 ?side2 ?side3 ?side4 A41.out).mono ?_); (case side1 => repeat (first | exact (Kd.R_reads' HO_11.out).2.2 | (with_reducible refine Kd.C_alloc ?_ _) | (with_reducible refine Kd.C_drewN ?_ _) | (with_reducible refine Kd.C_drew ?_))); (case side2 => exact (Kd.R_reads' HO_11.out).2.1); (case side3 => repeat (first | exact (Kd.R_reads' HO245.out).2.2 | (with_reducible refine Kd.C_alloc ?_ _) | (with_reducible refine Kd.C_drewN ?_ _) | (with_reducible refine Kd.C_drew ?_))); (case side4 => exact (Kd.R_reads' HO245.out).2.1); rintro e w' ⟨rfl, ⟨nd, rfl⟩⟩; refine ⟨_, rfl, ?_⟩) | ((with_reducible refine gate_callee (f := 35) rfl ?_); refine goesL_ (some 61) rfl rfl Try.func35 (by kernel_rfl) rfl #[.slice Ao29 t226.length co29, .int .i64 1] rfl (by (try simp only [List.map_toArray, List.map_cons, List.map_nil]); first | done | rfl | (simp only [List.length_drop, List.length_take]; rfl)) ?_; (with_reducible refine (laws_markFloat64S.calls kj15 (fun k_ => some k_ = (.slice Ao29 t226.length co29 : Value).ownBlock) (.slice Ao29 t226.length co29) t226 1 t247 t248 w _ ?side1 ?side2 A43.out).mono ?_); (case side1 => repeat (first | (with_reducible first | exact HB.out | apply below_alloc | apply pw_below_drewN | apply below_drew1 | refine below_set ?_ GE208.out | refine below_set ?_ GE209.out) | exact HB.out)); (case side2 => exact Kd.R_tight rfl HO_11.out); rintro e w47 ⟨rfl, hy0, hb, hkp⟩; refine ⟨_, rfl, ?_⟩; have n0_ := Aside0.mk (Kd.R_mono (ok' := fun k_ => some k_ ≠ (v239 : Value).ownBlock) (Kd.R_keptB ((Kd.R_apart' HO_9.out (Kd.R_typed HO_11.out) (by decide))) hkp (fun k_ hk_ hs_ => (hk_.2) hs_)) (fun k_ hk_ => hk_.1.1)); have n1_ := Aside0.mk (Kd.R_reok rfl hy0 (fun k_ e_ => HO_11.out.1 k_ e_)); have n2_ := Aside0.mk (Kd.R_mono (ok' := fun k_ => some k_ ≠ (v223 : Value).ownBlock) (Kd.R_keptB ((Kd.R_apart' HO_12.out (Kd.R_typed HO_11.out) (by decide))) hkp (fun k_ hk_ hs_ => (hk_.2) hs_)) (fun k_ hk_ => hk_.1.1)); have n3_ := Aside0.mk (blk_kept (by (with_reducible repeat (first | refine blk_drewN ?_ _ | refine blk_drew ?_ | refine blk_alloc ?_ _)); exact BK208.out) hkp (fun hs_ => (fun e_ => (Kd.R_ne HO_11.out BK208.out (by decide)) e_) hs_)); have n4_ := Aside0.mk (blk_kept (by (with_reducible repeat (first | refine blk_drewN ?_ _ | refine blk_drew ?_ | refine blk_alloc ?_ _)); exact BK209.out) hkp (fun hs_ => (fun e_ => (Kd.R_ne HO_11.out BK209.out (by decide)) e_) hs_)); have n5_ := Aside0.mk (Kd.R_mono (ok' := fun k_ => some k_ ≠ (.slice Ao29 t226.length co29 : Value).ownBlock) (Kd.R_keptB (HO245.out) hkp (fun k_ hk_ hs_ => (hk_.2) hs_)) (fun k_ hk_ => hk_.1.2)); have n6_ := Aside0.mk (hb); clear HO_9; clear HO_11; clear HO_12; clear BK208; clear BK209; clear HO245; clear HB; have HO_9 := n0_; have HO_11 := n1_; have HO_12 := n2_; have BK208 := n3_; have BK209 := n4_; have HO245 := n5_; have HB := n6_; clear n0_ n1_ n2_ n3_ n4_ n5_ n6_; (try clear hb); (try clear hkp); (try clear hy0)))
            (try simp only [Act.put, List.setIfInBounds_toArray, List.set_cons_zero, List.set_cons_succ])
            go_cut [74] (fun v74 wc => ∃ (kq : Nat) (x74_43 : Bool), v74 = .bool x74_43 ∧ Aside0 (laws_FnExactFly.j1 kq l2 a3 t222 t225 t238 x74_43 a0_0 a0_1 a0_2 a0_3 a1_0 a1_1 a1_2 a1_3 a1_4 = some r) ∧ Aside0 (kq ≤ kj15) ∧ Aside0 (Kd.R k66 66 wc w.heap.size (fun k_ => some k_ ≠ (v239 : Value).ownBlock) v223 t222) ∧ Aside0 (Kd.R k66 66 wc w.heap.size (fun k_ => some k_ ≠ (v223 : Value).ownBlock) v239 t238) ∧ Aside0 (wc.heap[gb208]? = some (.cells #[.float .f64 b_a0_0, .float .f64 b_a0_1, .float .f64 b_a0_2, .float .f64 b_a0_3] 60 (0, 0))) ∧ Aside0 (wc.heap[gb209]? = some (.cells #[.float .f64 b_a1_0, .float .f64 b_a1_1, .float .f64 b_a1_2, .float .f64 b_a1_3, .float .f64 b_a1_4] 62 (0, 0))) ∧ Aside0 (Below w.heap.size w wc))
            case first =>
              have H := HC44.out
              clear HC44
              by_cases c48 : t247 < 0
              · rw [if_pos c48] at H
                have c48b0 : decide (t247 < 0) = true := decide_eq_true c48
                clear c48
                (first | rw [c48b0] | (simp only [i64_w, i32_w]; rw [c48b0]) | skip)
                have H' := Aside0.mk H
                clear H
                go_wp2
                go_meet
                case rel => exact ⟨_, (true), (by first | rfl | (simp; done) | (simp [*]; done)), H', ⟨by have := HJ15.out; first | omega | exact Nat.le_refl _⟩, ⟨by (with_reducible repeat (first | apply Kd.R_alloc | apply Kd.R_drewN | apply Kd.R_drew)); exact HO_9.out⟩, ⟨by (with_reducible repeat (first | apply Kd.R_alloc | apply Kd.R_drewN | apply Kd.R_drew)); exact HO_12.out⟩, ⟨by (with_reducible repeat (first | refine blk_drewN ?_ _ | refine blk_drew ?_ | refine blk_alloc ?_ _)); exact BK208.out⟩, ⟨by (with_reducible repeat (first | refine blk_drewN ?_ _ | refine blk_drew ?_ | refine blk_alloc ?_ _)); exact BK209.out⟩, ⟨by repeat (first | (with_reducible first | exact HB.out | apply below_alloc | apply pw_below_drewN | apply below_drew1 | refine below_set ?_ GE208.out | refine below_set ?_ GE209.out) | exact HB.out)⟩⟩
              · rw [if_neg c48] at H
                have c48b0 : decide (t247 < 0) = false := decide_eq_false c48
                clear c48
                (first | rw [c48b0] | (simp only [i64_w, i32_w]; rw [c48b0]) | skip)
                replace H := Option.bind_eq_some_iff.mp H
                obtain ⟨t249, A490, H⟩ := H
                replace H : (if t249 = true then (laws_FnExactFly.j1 kj15 l2 a3 t222 t225 t238 (t241 != t225) a0_0 a0_1 a0_2 a0_3 a1_0 a1_1 a1_2 a1_3 a1_4) else (laws_FnExactFly.j1 kj15 l2 a3 t222 t225 t238 true a0_0 a0_1 a0_2 a0_3 a1_0 a1_1 a1_2 a1_3 a1_4)) = some r := H
                have A49 := Aside0.mk A490
                clear A490
                by_cases c50 : t249 = true
                · subst c50
                  have H1 : (laws_FnExactFly.j1 kj15 l2 a3 t222 t225 t238 (t241 != t225) a0_0 a0_1 a0_2 a0_3 a1_0 a1_1 a1_2 a1_3 a1_4) = some r := by rw [if_pos rfl] at H; exact H
                  clear H
                  have H := H1
                  clear H1
                  have H' := Aside0.mk H
                  clear H
                  obtain ⟨Ao51, co51, eo51⟩ := Kd.R_slice HO_12.out
                  subst eo51
                  obtain ⟨Ao52, co52, eo52⟩ := Kd.R_slice HO_9.out
                  subst eo52
                  go_wp2_with (first | (go_at_call 45; (with_reducible refine (laws_eqMotionS.calls kj15 _ _ t238 _ _ t222 true _ ?side1 ?side2 ?side3 ?side4 A49.out).mono ?_); (case side1 => repeat (first | exact (Kd.R_reads' HO_12.out).2.2 | (with_reducible refine Kd.C_alloc ?_ _) | (with_reducible refine Kd.C_drewN ?_ _) | (with_reducible refine Kd.C_drew ?_))); (case side2 => exact (Kd.R_reads' HO_12.out).2.1); (case side3 => repeat (first | exact (Kd.R_reads' HO_9.out).2.2 | (with_reducible refine Kd.C_alloc ?_ _) | (with_reducible refine Kd.C_drewN ?_ _) | (with_reducible refine Kd.C_drew ?_))); (case side4 => exact (Kd.R_reads' HO_9.out).2.1); rintro e w53 ⟨rfl, hb⟩; have n0_ := Aside0.mk (Kd.R_below (by (with_reducible repeat (first | apply Kd.R_alloc | apply Kd.R_drewN | apply Kd.R_drew)); exact HO_9.out) hb); have n1_ := Aside0.mk (Kd.R_below (by (with_reducible repeat (first | apply Kd.R_alloc | apply Kd.R_drewN | apply Kd.R_drew)); exact HO_11.out) hb); have n2_ := Aside0.mk (Kd.R_below (by (with_reducible repeat (first | apply Kd.R_alloc | apply Kd.R_drewN | apply Kd.R_drew)); exact HO_12.out) hb); have n3_ := Aside0.mk (Kd.R_below (by (with_reducible repeat (first | apply Kd.R_alloc | apply Kd.R_drewN | apply Kd.R_drew)); exact HO245.out) hb); have n4_ := Aside0.mk (blk_below (g := gb208) (o := .cells #[.float .f64 b_a0_0, .float .f64 b_a0_1, .float .f64 b_a0_2, .float .f64 b_a0_3] 60 (0, 0)) (by (with_reducible repeat (first | refine blk_drewN ?_ _ | refine blk_drew ?_ | refine blk_alloc ?_ _)); exact BK208.out) hb); have n5_ := Aside0.mk (blk_below (g := gb209) (o := .cells #[.float .f64 b_a1_0, .float .f64 b_a1_1, .float .f64 b_a1_2, .float .f64 b_a1_3, .float .f64 b_a1_4] 62 (0, 0)) (by (with_reducible repeat (first | refine blk_drewN ?_ _ | refine blk_drew ?_ | refine blk_alloc ?_ _)); exact BK209.out) hb); have n6_ := Aside0.mk (below_step (by repeat (first | (with_reducible first | exact HB.out | apply below_alloc | apply pw_below_drewN | apply below_drew1 | refine below_set ?_ GE208.out | refine below_set ?_ GE209.out) | exact HB.out)) hb); clear HO_9; clear HO_11; clear HO_12; clear HO245; clear BK208; clear BK209; clear HB; have HO_9 := n0_; have HO_11 := n1_; have HO_12 := n2_; have HO245 := n3_; have BK208 := n4_; have BK209 := n5_; have HB := n6_; clear n0_ n1_ n2_ n3_ n4_ n5_ n6_; (try clear hb); (try clear hb2); (try clear hk); (try clear hi)))
                  go_meet
                  case rel => exact ⟨_, ((t241 != t225)), (by first | rfl | (simp; done) | (simp [*]; done)), H', ⟨by have := HJ15.out; first | omega | exact Nat.le_refl _⟩, ⟨by (with_reducible repeat (first | apply Kd.R_alloc | apply Kd.R_drewN | apply Kd.R_drew)); exact HO_9.out⟩, ⟨by (with_reducible repeat (first | apply Kd.R_alloc | apply Kd.R_drewN | apply Kd.R_drew)); exact HO_12.out⟩, ⟨by (with_reducible repeat (first | refine blk_drewN ?_ _ | refine blk_drew ?_ | refine blk_alloc ?_ _)); exact BK208.out⟩, ⟨by (with_reducible repeat (first | refine blk_drewN ?_ _ | refine blk_drew ?_ | refine blk_alloc ?_ _)); exact BK209.out⟩, ⟨by repeat (first | (with_reducible first | exact HB.out | apply below_alloc | apply pw_below_drewN | apply below_drew1 | refine below_set ?_ GE208.out | refine below_set ?_ GE209.out) | exact HB.out)⟩⟩
                · replace c50 := Bool.eq_false_iff.mpr c50
                  subst c50
                  have H1 : (laws_FnExactFly.j1 kj15 l2 a3 t222 t225 t238 true a0_0 a0_1 a0_2 a0_3 a1_0 a1_1 a1_2 a1_3 a1_4) = some r := by rw [if_neg (show ¬ (false = true) by decide)] at H; exact H
                  clear H
                  have H := H1
                  clear H1
                  have H' := Aside0.mk H
                  clear H
                  obtain ⟨Ao54, co54, eo54⟩ := Kd.R_slice HO_12.out
                  subst eo54
                  obtain ⟨Ao55, co55, eo55⟩ := Kd.R_slice HO_9.out
                  subst eo55
                  go_wp2_with (first | (go_at_call 45; (with_reducible refine (laws_eqMotionS.calls kj15 _ _ t238 _ _ t222 false _ ?side1 ?side2 ?side3 ?side4 A49.out).mono ?_); (case side1 => repeat (first | exact (Kd.R_reads' HO_12.out).2.2 | (with_reducible refine Kd.C_alloc ?_ _) | (with_reducible refine Kd.C_drewN ?_ _) | (with_reducible refine Kd.C_drew ?_))); (case side2 => exact (Kd.R_reads' HO_12.out).2.1); (case side3 => repeat (first | exact (Kd.R_reads' HO_9.out).2.2 | (with_reducible refine Kd.C_alloc ?_ _) | (with_reducible refine Kd.C_drewN ?_ _) | (with_reducible refine Kd.C_drew ?_))); (case side4 => exact (Kd.R_reads' HO_9.out).2.1); rintro e w56 ⟨rfl, hb⟩; have n0_ := Aside0.mk (Kd.R_below (by (with_reducible repeat (first | apply Kd.R_alloc | apply Kd.R_drewN | apply Kd.R_drew)); exact HO_9.out) hb); have n1_ := Aside0.mk (Kd.R_below (by (with_reducible repeat (first | apply Kd.R_alloc | apply Kd.R_drewN | apply Kd.R_drew)); exact HO_11.out) hb); have n2_ := Aside0.mk (Kd.R_below (by (with_reducible repeat (first | apply Kd.R_alloc | apply Kd.R_drewN | apply Kd.R_drew)); exact HO_12.out) hb); have n3_ := Aside0.mk (Kd.R_below (by (with_reducible repeat (first | apply Kd.R_alloc | apply Kd.R_drewN | apply Kd.R_drew)); exact HO245.out) hb); have n4_ := Aside0.mk (blk_below (g := gb208) (o := .cells #[.float .f64 b_a0_0, .float .f64 b_a0_1, .float .f64 b_a0_2, .float .f64 b_a0_3] 60 (0, 0)) (by (with_reducible repeat (first | refine blk_drewN ?_ _ | refine blk_drew ?_ | refine blk_alloc ?_ _)); exact BK208.out) hb); have n5_ := Aside0.mk (blk_below (g := gb209) (o := .cells #[.float .f64 b_a1_0, .float .f64 b_a1_1, .float .f64 b_a1_2, .float .f64 b_a1_3, .float .f64 b_a1_4] 62 (0, 0)) (by (with_reducible repeat (first | refine blk_drewN ?_ _ | refine blk_drew ?_ | refine blk_alloc ?_ _)); exact BK209.out) hb); have n6_ := Aside0.mk (below_step (by repeat (first | (with_reducible first | exact HB.out | apply below_alloc | apply pw_below_drewN | apply below_drew1 | refine below_set ?_ GE208.out | refine below_set ?_ GE209.out) | exact HB.out)) hb); clear HO_9; clear HO_11; clear HO_12; clear HO245; clear BK208; clear BK209; clear HB; have HO_9 := n0_; have HO_11 := n1_; have HO_12 := n2_; have HO245 := n3_; have BK208 := n4_; have BK209 := n5_; have HB := n6_; clear n0_ n1_ n2_ n3_ n4_ n5_ n6_; (try clear hb); (try clear hb2); (try clear hk); (try clear hi)))
                  go_meet
                  case rel => exact ⟨_, (true), (by first | rfl | (simp; done) | (simp [*]; done)), H', ⟨by have := HJ15.out; first | omega | exact Nat.le_refl _⟩, ⟨by (with_reducible repeat (first | apply Kd.R_alloc | apply Kd.R_drewN | apply Kd.R_drew)); exact HO_9.out⟩, ⟨by (with_reducible repeat (first | apply Kd.R_alloc | apply Kd.R_drewN | apply Kd.R_drew)); exact HO_12.out⟩, ⟨by (with_reducible repeat (first | refine blk_drewN ?_ _ | refine blk_drew ?_ | refine blk_alloc ?_ _)); exact BK208.out⟩, ⟨by (with_reducible repeat (first | refine blk_drewN ?_ _ | refine blk_drew ?_ | refine blk_alloc ?_ _)); exact BK209.out⟩, ⟨by repeat (first | (with_reducible first | exact HB.out | apply below_alloc | apply pw_below_drewN | apply below_drew1 | refine below_set ?_ GE208.out | refine below_set ?_ GE209.out) | exact HB.out)⟩⟩
            case rest =>
              clear HC44
              try clear c1
              try clear c2
              try clear p2
              try clear c3
              try clear c4
              try clear c5
              try clear c5b0
              try clear c5b1
              try clear c9
              try clear c15
              try clear c18
              try clear c32
              try clear c35
              try clear c39
              try clear c41
              try clear c42
              try clear c43
              try clear c44
              try clear c45
              try clear c48
              try clear c48b0
              try clear c50
              try clear p2
              obtain ⟨kq, x74_43, rfl, HA, HJ43, HO_9, HO_12, BK208, BK209, HB⟩ := hcut
              cases kq with
              | zero => exact absurd HA.out (by simp [laws_FnExactFly.j1])
              | succ kj43 =>
                have H := HA.out
                clear HA
                simp only [laws_FnExactFly.j1] at H
                by_cases c57 : x74_43 = true
                · subst c57
                  have H1 : (some false) = some r := by rw [if_pos rfl] at H; exact H
                  clear H
                  have H := H1
                  clear H1
                  obtain rfl := Option.some.inj H
                  go_wp2
                  go_ret
                  exact ⟨by first | rfl | (simp [errW_none, errW_some] <;> rfl) | (simp [*, errW_none, errW_some] <;> rfl), by repeat (first | (with_reducible first | exact HB.out | apply below_alloc | apply pw_below_drewN | apply below_drew1 | refine below_set ?_ GE208.out | refine below_set ?_ GE209.out) | exact HB.out)⟩
                · replace c57 := Bool.eq_false_iff.mpr c57
                  subst c57
                  have H1 : ((laws_markMotionS.f kj43 t238 1).bind fun bt250 => ((laws_heldMotionS.f kj43 bt250.2 1).bind fun t252 => (if t252 < 0 then (some false) else (if t252 = bt250.1 then ((laws_toMotion.f a0_0 a0_1 a0_2 a0_3).bind fun bt253 => ((laws_toForces.f a1_0 a1_1 a1_2 a1_3 a1_4).bind fun bt257 => ((laws_toFloat64S.f kj43 l2).bind fun t262 => ((impl_Fly.f kj43 bt253.1 bt253.2.1 bt253.2.2.1 bt253.2.2.2 bt257.1 bt257.2.1 bt257.2.2.1 bt257.2.2.2.1 bt257.2.2.2.2 t262 a3).bind fun bt265 => ((laws_eqMotionS.f kj43 bt265.1 t222).bind fun t269 => (if t269 = true then (laws_FnExactFly.j2 kj43 bt250.2 bt250.1 (bt265.2 != t225)) else (laws_FnExactFly.j2 kj43 bt250.2 bt250.1 true))))))) else (some false))))) = some r := by rw [if_neg (show ¬ (false = true) by decide)] at H; exact H
                  clear H
                  have H := H1
                  clear H1
                  replace H := Option.bind_eq_some_iff.mp H
                  obtain ⟨⟨t250, t251⟩, A580, H⟩ := H
                  replace H : ((laws_heldMotionS.f kj43 t251 1).bind fun t252 => (if t252 < 0 then (some false) else (if t252 = t250 then ((laws_toMotion.f a0_0 a0_1 a0_2 a0_3).bind fun bt253 => ((laws_toForces.f a1_0 a1_1 a1_2 a1_3 a1_4).bind fun bt257 => ((laws_toFloat64S.f kj43 l2).bind fun t262 => ((impl_Fly.f kj43 bt253.1 bt253.2.1 bt253.2.2.1 bt253.2.2.2 bt257.1 bt257.2.1 bt257.2.2.1 bt257.2.2.2.1 bt257.2.2.2.2 t262 a3).bind fun bt265 => ((laws_eqMotionS.f kj43 bt265.1 t222).bind fun t269 => (if t269 = true then (laws_FnExactFly.j2 kj43 t251 t250 (bt265.2 != t225)) else (laws_FnExactFly.j2 kj43 t251 t250 true))))))) else (some false)))) = some r := H
                  have A58 := Aside0.mk A580
                  clear A580
                  replace H := Option.bind_eq_some_iff.mp H
                  obtain ⟨t252, A590, H⟩ := H
                  replace H : (if t252 < 0 then (some false) else (if t252 = t250 then ((laws_toMotion.f a0_0 a0_1 a0_2 a0_3).bind fun bt253 => ((laws_toForces.f a1_0 a1_1 a1_2 a1_3 a1_4).bind fun bt257 => ((laws_toFloat64S.f kj43 l2).bind fun t262 => ((impl_Fly.f kj43 bt253.1 bt253.2.1 bt253.2.2.1 bt253.2.2.2 bt257.1 bt257.2.1 bt257.2.2.1 bt257.2.2.2.1 bt257.2.2.2.2 t262 a3).bind fun bt265 => ((laws_eqMotionS.f kj43 bt265.1 t222).bind fun t269 => (if t269 = true then (laws_FnExactFly.j2 kj43 t251 t250 (bt265.2 != t225)) else (laws_FnExactFly.j2 kj43 t251 t250 true))))))) else (some false))) = some r := H
                  have A59 := Aside0.mk A590
                  clear A590
                  by_cases c60 : t252 < 0
                  · rw [if_pos c60] at H
                    have c60b0 : decide (t252 < 0) = true := decide_eq_true c60
                    clear c60
                    obtain rfl := Option.some.inj H
                    obtain ⟨Ao61, co61, eo61⟩ := Kd.R_slice HO_12.out
                    subst eo61
                    go_wp2_with (first | ((with_reducible refine gate_callee (f := 46) rfl ?_); refine goesL_ (some 77) rfl rfl Try.func46 (by kernel_rfl) rfl #[.slice Ao61 t238.length co61, .int .i64 1] rfl (by (try simp only [List.map_toArray, List.map_cons, List.map_nil]); first | done | rfl | (simp only [List.length_drop, List.length_take]; rfl)) ?_; (with_reducible refine (laws_markMotionS.calls kj43 (fun k_ => some k_ = (.slice Ao61 t238.length co61 : Value).ownBlock) (.slice Ao61 t238.length co61) t238 1 t250 t251 w _ ?side1 ?side2 A58.out).mono ?_); (case side1 => repeat (first | (with_reducible first | exact HB.out | apply below_alloc | apply pw_below_drewN | apply below_drew1 | refine below_set ?_ GE208.out | refine below_set ?_ GE209.out) | exact HB.out)); (case side2 => exact Kd.R_tight rfl HO_12.out); rintro e w62 ⟨rfl, hy0, hb, hkp⟩; refine ⟨_, rfl, ?_⟩; have n0_ := Aside0.mk (Kd.R_mono (ok' := fun k_ => some k_ ≠ (.slice Ao61 t238.length co61 : Value).ownBlock) (Kd.R_keptB (HO_9.out) hkp (fun k_ hk_ hs_ => (hk_) hs_)) (fun k_ hk_ => hk_.1)); have n1_ := Aside0.mk (Kd.R_reok rfl hy0 (fun k_ e_ => HO_12.out.1 k_ e_)); have n2_ := Aside0.mk (blk_kept (by (with_reducible repeat (first | refine blk_drewN ?_ _ | refine blk_drew ?_ | refine blk_alloc ?_ _)); exact BK208.out) hkp (fun hs_ => (fun e_ => (Kd.R_ne HO_12.out BK208.out (by decide)) e_) hs_)); have n3_ := Aside0.mk (blk_kept (by (with_reducible repeat (first | refine blk_drewN ?_ _ | refine blk_drew ?_ | refine blk_alloc ?_ _)); exact BK209.out) hkp (fun hs_ => (fun e_ => (Kd.R_ne HO_12.out BK209.out (by decide)) e_) hs_)); have n4_ := Aside0.mk (hb); clear HO_9; clear HO_12; clear BK208; clear BK209; clear HB; have HO_9 := n0_; have HO_12 := n1_; have BK208 := n2_; have BK209 := n3_; have HB := n4_; clear n0_ n1_ n2_ n3_ n4_; (try clear hb); (try clear hkp); (try clear hy0)) | ((with_reducible refine gate_callee (f := 47) rfl ?_); refine goesL_ (some 80) rfl rfl Try.func47 (by kernel_rfl) rfl #[.slice Ao61 t251.length co61, .int .i64 1] rfl (by (try simp only [List.map_toArray, List.map_cons, List.map_nil]); first | done | (rw [show t251.length = t238.length from (Kd.R_reads' HO_12.out).1.symm] <;> rfl) | rfl | (simp only [List.length_drop, List.length_take]; rfl)) ?_; (with_reducible refine (laws_heldMotionS.calls kj43 _ _ t251 1 t252 _ ?side1 ?side2 A59.out).mono ?_); (case side1 => repeat (first | exact (Kd.R_reads' HO_12.out).2.2 | (with_reducible refine Kd.C_alloc ?_ _) | (with_reducible refine Kd.C_drewN ?_ _) | (with_reducible refine Kd.C_drew ?_))); (case side2 => rw [show t251.length = t238.length from (Kd.R_reads' HO_12.out).1.symm]; exact (Kd.R_reads' HO_12.out).2.1); rintro e w' ⟨rfl, ⟨nd, rfl⟩⟩; refine ⟨_, rfl, ?_⟩))
                    go_ret
                    exact ⟨by first | rfl | (simp [errW_none, errW_some] <;> rfl) | (simp [*, errW_none, errW_some] <;> rfl), by repeat (first | (with_reducible first | exact HB.out | apply below_alloc | apply pw_below_drewN | apply below_drew1 | refine below_set ?_ GE208.out | refine below_set ?_ GE209.out) | exact HB.out)⟩
                  · rw [if_neg c60] at H
                    have c60b0 : decide (t252 < 0) = false := decide_eq_false c60
                    clear c60
                    by_cases c63 : t252 = t250
                    · rw [if_pos c63] at H
                      have c63b0 : (t252 == t250) = true := beq_iff_eq.mpr c63
                      have c63b1 : (t252 != t250) = false := bne_eq_false_iff_eq.mpr c63
                      clear c63
                      replace H := Option.bind_eq_some_iff.mp H
                      obtain ⟨⟨t253, t254, t255, t256⟩, A640, H⟩ := H
                      replace H : ((laws_toForces.f a1_0 a1_1 a1_2 a1_3 a1_4).bind fun bt257 => ((laws_toFloat64S.f kj43 l2).bind fun t262 => ((impl_Fly.f kj43 t253 t254 t255 t256 bt257.1 bt257.2.1 bt257.2.2.1 bt257.2.2.2.1 bt257.2.2.2.2 t262 a3).bind fun bt265 => ((laws_eqMotionS.f kj43 bt265.1 t222).bind fun t269 => (if t269 = true then (laws_FnExactFly.j2 kj43 t251 t250 (bt265.2 != t225)) else (laws_FnExactFly.j2 kj43 t251 t250 true)))))) = some r := H
                      have A64 := Aside0.mk A640
                      clear A640
                      replace H := Option.bind_eq_some_iff.mp H
                      obtain ⟨⟨t257, t258, t259, t260, t261⟩, A650, H⟩ := H
                      replace H : ((laws_toFloat64S.f kj43 l2).bind fun t262 => ((impl_Fly.f kj43 t253 t254 t255 t256 t257 t258 t259 t260 t261 t262 a3).bind fun bt265 => ((laws_eqMotionS.f kj43 bt265.1 t222).bind fun t269 => (if t269 = true then (laws_FnExactFly.j2 kj43 t251 t250 (bt265.2 != t225)) else (laws_FnExactFly.j2 kj43 t251 t250 true))))) = some r := H
                      have A65 := Aside0.mk A650
                      clear A650
                      replace H := Option.bind_eq_some_iff.mp H
                      obtain ⟨t262, A660, H⟩ := H
                      replace H : ((impl_Fly.f kj43 t253 t254 t255 t256 t257 t258 t259 t260 t261 t262 a3).bind fun bt265 => ((laws_eqMotionS.f kj43 bt265.1 t222).bind fun t269 => (if t269 = true then (laws_FnExactFly.j2 kj43 t251 t250 (bt265.2 != t225)) else (laws_FnExactFly.j2 kj43 t251 t250 true)))) = some r := H
                      have A66 := Aside0.mk A660
                      clear A660
                      replace H := Option.bind_eq_some_iff.mp H
                      obtain ⟨⟨t265, t268⟩, A670, H⟩ := H
                      replace H : ((laws_eqMotionS.f kj43 t265 t222).bind fun t269 => (if t269 = true then (laws_FnExactFly.j2 kj43 t251 t250 (t268 != t225)) else (laws_FnExactFly.j2 kj43 t251 t250 true))) = some r := H
                      have A67 := Aside0.mk A670
                      clear A670
                      have HC68 := Aside0.mk H
                      clear H
                      obtain ⟨Ao69, co69, eo69⟩ := Kd.R_slice HO_12.out
                      subst eo69
                      try go_wp2_with (first | ((with_reducible refine gate_callee (f := 46) rfl ?_); refine goesL_ (some 77) rfl rfl Try.func46 (by kernel_rfl) rfl #[.slice Ao69 t238.length co69, .int .i64 1] rfl (by (try simp only [List.map_toArray, List.map_cons, List.map_nil]); first | done | rfl | (simp only [List.length_drop, List.length_take]; rfl)) ?_; (with_reducible refine (laws_markMotionS.calls kj43 (fun k_ => some k_ = (.slice Ao69 t238.length co69 : Value).ownBlock) (.slice Ao69 t238.length co69) t238 1 t250 t251 w _ ?side1 ?side2 A58.out).mono ?_); (case side1 => repeat (first | (with_reducible first | exact HB.out | apply below_alloc | apply pw_below_drewN | apply below_drew1 | refine below_set ?_ GE208.out | refine below_set ?_ GE209.out) | exact HB.out)); (case side2 => exact Kd.R_tight rfl HO_12.out); rintro e w70 ⟨rfl, hy0, hb, hkp⟩; refine ⟨_, rfl, ?_⟩; have n0_ := Aside0.mk (Kd.R_mono (ok' := fun k_ => some k_ ≠ (.slice Ao69 t238.length co69 : Value).ownBlock) (Kd.R_keptB (HO_9.out) hkp (fun k_ hk_ hs_ => (hk_) hs_)) (fun k_ hk_ => hk_.1)); have n1_ := Aside0.mk (Kd.R_reok rfl hy0 (fun k_ e_ => HO_12.out.1 k_ e_)); have n2_ := Aside0.mk (blk_kept (by (with_reducible repeat (first | refine blk_drewN ?_ _ | refine blk_drew ?_ | refine blk_alloc ?_ _)); exact BK208.out) hkp (fun hs_ => (fun e_ => (Kd.R_ne HO_12.out BK208.out (by decide)) e_) hs_)); have n3_ := Aside0.mk (blk_kept (by (with_reducible repeat (first | refine blk_drewN ?_ _ | refine blk_drew ?_ | refine blk_alloc ?_ _)); exact BK209.out) hkp (fun hs_ => (fun e_ => (Kd.R_ne HO_12.out BK209.out (by decide)) e_) hs_)); have n4_ := Aside0.mk (hb); clear HO_9; clear HO_12; clear BK208; clear BK209; clear HB; have HO_9 := n0_; have HO_12 := n1_; have BK208 := n2_; have BK209 := n3_; have HB := n4_; clear n0_ n1_ n2_ n3_ n4_; (try clear hb); (try clear hkp); (try clear hy0)) | ((with_reducible refine gate_callee (f := 47) rfl ?_); refine goesL_ (some 80) rfl rfl Try.func47 (by kernel_rfl) rfl #[.slice Ao69 t251.length co69, .int .i64 1] rfl (by (try simp only [List.map_toArray, List.map_cons, List.map_nil]); first | done | (rw [show t251.length = t238.length from (Kd.R_reads' HO_12.out).1.symm] <;> rfl) | rfl | (simp only [List.length_drop, List.length_take]; rfl)) ?_; (with_reducible refine (laws_heldMotionS.calls kj43 _ _ t251 1 t252 _ ?side1 ?side2 A59.out).mono ?_); (case side1 => repeat (first | exact (Kd.R_reads' HO_12.out).2.2 | (with_reducible refine Kd.C_alloc ?_ _) | (with_reducible refine Kd.C_drewN ?_ _) | (with_reducible refine Kd.C_drew ?_))); (case side2 => rw [show t251.length = t238.length from (Kd.R_reads' HO_12.out).1.symm]; exact (Kd.R_reads' HO_12.out).2.1); rintro e w' ⟨rfl, ⟨nd, rfl⟩⟩; refine ⟨_, rfl, ?_⟩))
                      (first | (rw [World.drewN_drewN]; (repeat rw [World.drewN_drewN]); generalize hq_ : World.drewN w70 _ = w70; have n0_ : Aside0 (Kd.R k66 66 w70 w.heap.size (fun k_ => some k_ ≠ (v223 : Value).ownBlock) (.slice Ao69 t238.length co69) t251) := ⟨by rw [← hq_]; exact (by (with_reducible repeat (first | apply Kd.R_alloc | apply Kd.R_drewN | apply Kd.R_drew)); exact HO_12.out)⟩; have n1_ : Aside0 (Kd.R k66 66 w70 w.heap.size (fun k_ => some k_ ≠ (.slice Ao69 t238.length co69 : Value).ownBlock) v223 t222) := ⟨by rw [← hq_]; exact (by (with_reducible repeat (first | apply Kd.R_alloc | apply Kd.R_drewN | apply Kd.R_drew)); exact HO_9.out)⟩; have n2_ : Aside0 (w70.heap[gb208]? = some (.cells #[.float .f64 b_a0_0, .float .f64 b_a0_1, .float .f64 b_a0_2, .float .f64 b_a0_3] 60 (0, 0))) := ⟨by rw [← hq_]; exact (by (with_reducible repeat (first | refine blk_drewN ?_ _ | refine blk_drew ?_ | refine blk_alloc ?_ _)); exact BK208.out)⟩; have n3_ : Aside0 (w70.heap[gb209]? = some (.cells #[.float .f64 b_a1_0, .float .f64 b_a1_1, .float .f64 b_a1_2, .float .f64 b_a1_3, .float .f64 b_a1_4] 62 (0, 0))) := ⟨by rw [← hq_]; exact (by (with_reducible repeat (first | refine blk_drewN ?_ _ | refine blk_drew ?_ | refine blk_alloc ?_ _)); exact BK209.out)⟩; have n4_ : Aside0 (Below w.heap.size w w70) := ⟨by rw [← hq_]; exact (by repeat (first | (with_reducible first | exact HB.out | apply below_alloc | apply pw_below_drewN | apply below_drew1 | refine below_set ?_ GE208.out | refine below_set ?_ GE209.out) | exact HB.out))⟩; clear HO_12 HO_9 BK208 BK209 HB hq_; have HO_12 := n0_; have HO_9 := n1_; have BK208 := n2_; have BK209 := n3_; have HB := n4_; clear n0_ n1_ n2_ n3_ n4_) | (rw [(rfl : World.drewN w70 nd = World.drewN w70 nd)]; generalize hq_ : World.drewN w70 nd = w70; have n0_ : Aside0 (Kd.R k66 66 w70 w.heap.size (fun k_ => some k_ ≠ (v223 : Value).ownBlock) (.slice Ao69 t238.length co69) t251) := ⟨by rw [← hq_]; exact (by (with_reducible repeat (first | apply Kd.R_alloc | apply Kd.R_drewN | apply Kd.R_drew)); exact HO_12.out)⟩; have n1_ : Aside0 (Kd.R k66 66 w70 w.heap.size (fun k_ => some k_ ≠ (.slice Ao69 t238.length co69 : Value).ownBlock) v223 t222) := ⟨by rw [← hq_]; exact (by (with_reducible repeat (first | apply Kd.R_alloc | apply Kd.R_drewN | apply Kd.R_drew)); exact HO_9.out)⟩; have n2_ : Aside0 (w70.heap[gb208]? = some (.cells #[.float .f64 b_a0_0, .float .f64 b_a0_1, .float .f64 b_a0_2, .float .f64 b_a0_3] 60 (0, 0))) := ⟨by rw [← hq_]; exact (by (with_reducible repeat (first | refine blk_drewN ?_ _ | refine blk_drew ?_ | refine blk_alloc ?_ _)); exact BK208.out)⟩; have n3_ : Aside0 (w70.heap[gb209]? = some (.cells #[.float .f64 b_a1_0, .float .f64 b_a1_1, .float .f64 b_a1_2, .float .f64 b_a1_3, .float .f64 b_a1_4] 62 (0, 0))) := ⟨by rw [← hq_]; exact (by (with_reducible repeat (first | refine blk_drewN ?_ _ | refine blk_drew ?_ | refine blk_alloc ?_ _)); exact BK209.out)⟩; have n4_ : Aside0 (Below w.heap.size w w70) := ⟨by rw [← hq_]; exact (by repeat (first | (with_reducible first | exact HB.out | apply below_alloc | apply pw_below_drewN | apply below_drew1 | refine below_set ?_ GE208.out | refine below_set ?_ GE209.out) | exact HB.out))⟩; clear HO_12 HO_9 BK208 BK209 HB hq_; have HO_12 := n0_; have HO_9 := n1_; have BK208 := n2_; have BK209 := n3_; have HB := n4_; clear n0_ n1_ n2_ n3_ n4_) | (try (rw [drewN_self w70]; generalize hq_ : World.drewN w70 _ = w70; have n0_ : Aside0 (Kd.R k66 66 w70 w.heap.size (fun k_ => some k_ ≠ (v223 : Value).ownBlock) (.slice Ao69 t238.length co69) t251) := ⟨by rw [← hq_]; exact (by (with_reducible repeat (first | apply Kd.R_alloc | apply Kd.R_drewN | apply Kd.R_drew)); exact HO_12.out)⟩; have n1_ : Aside0 (Kd.R k66 66 w70 w.heap.size (fun k_ => some k_ ≠ (.slice Ao69 t238.length co69 : Value).ownBlock) v223 t222) := ⟨by rw [← hq_]; exact (by (with_reducible repeat (first | apply Kd.R_alloc | apply Kd.R_drewN | apply Kd.R_drew)); exact HO_9.out)⟩; have n2_ : Aside0 (w70.heap[gb208]? = some (.cells #[.float .f64 b_a0_0, .float .f64 b_a0_1, .float .f64 b_a0_2, .float .f64 b_a0_3] 60 (0, 0))) := ⟨by rw [← hq_]; exact (by (with_reducible repeat (first | refine blk_drewN ?_ _ | refine blk_drew ?_ | refine blk_alloc ?_ _)); exact BK208.out)⟩; have n3_ : Aside0 (w70.heap[gb209]? = some (.cells #[.float .f64 b_a1_0, .float .f64 b_a1_1, .float .f64 b_a1_2, .float .f64 b_a1_3, .float .f64 b_a1_4] 62 (0, 0))) := ⟨by rw [← hq_]; exact (by (with_reducible repeat (first | refine blk_drewN ?_ _ | refine blk_drew ?_ | refine blk_alloc ?_ _)); exact BK209.out)⟩; have n4_ : Aside0 (Below w.heap.size w w70) := ⟨by rw [← hq_]; exact (by repeat (first | (with_reducible first | exact HB.out | apply below_alloc | apply pw_below_drewN | apply below_drew1 | refine below_set ?_ GE208.out | refine below_set ?_ GE209.out) | exact HB.out))⟩; clear HO_12 HO_9 BK208 BK209 HB hq_; have HO_12 := n0_; have HO_9 := n1_; have BK208 := n2_; have BK209 := n3_; have HB := n4_; clear n0_ n1_ n2_ n3_ n4_)))
                      have n0_ := Aside0.mk (Kd.R_drew HO_9.out)
                      have n1_ := Aside0.mk (Kd.R_drew HO_12.out)
                      have n2_ := Aside0.mk (blk_drew BK208.out)
                      have n3_ := Aside0.mk (blk_drew BK209.out)
                      have n4_ := Aside0.mk (below_drew1 HB.out)
                      clear HO_9
                      clear HO_12
                      clear BK208
                      clear BK209
                      clear HB
                      have HO_9 := n0_
                      have HO_12 := n1_
                      have BK208 := n2_
                      have BK209 := n3_
                      have HB := n4_
                      clear n0_ n1_ n2_ n3_ n4_
                      refine start_ (n := 13) (S := fun w' => w'.cell? ⟨gb208, 0, none⟩ = some (.float .f64 b_a0_0) ∧ w'.cell? ⟨gb208, 1, none⟩ = some (.float .f64 b_a0_1) ∧ w'.cell? ⟨gb208, 2, none⟩ = some (.float .f64 b_a0_2) ∧ w'.cell? ⟨gb208, 3, none⟩ = some (.float .f64 b_a0_3) ∧ w'.cell? ⟨gb209, 0, none⟩ = some (.float .f64 b_a1_0) ∧ w'.cell? ⟨gb209, 1, none⟩ = some (.float .f64 b_a1_1) ∧ w'.cell? ⟨gb209, 2, none⟩ = some (.float .f64 b_a1_2) ∧ w'.cell? ⟨gb209, 3, none⟩ = some (.float .f64 b_a1_3) ∧ w'.cell? ⟨gb209, 4, none⟩ = some (.float .f64 b_a1_4)) (ds := []) #[false, false, false, false, false, false, false, false, false, false, false, false, false] (by kernel_rfl) rfl rfl ⟨(blk_cell BK208.out 0).trans rfl, (blk_cell BK208.out 1).trans rfl, (blk_cell BK208.out 2).trans rfl, (blk_cell BK208.out 3).trans rfl, (blk_cell BK209.out 0).trans rfl, (blk_cell BK209.out 1).trans rfl, (blk_cell BK209.out 2).trans rfl, (blk_cell BK209.out 3).trans rfl, (blk_cell BK209.out 4).trans rfl⟩ (fun hHeld => ?_); refine with_tabW laws_FnExactFly.tab22 laws_FnExactFly.bits22 (fun HT_ HW_ => ?_)
                      generalize w70.drew = w71 at HO_9 HO_12 BK208 BK209 HB hHeld ⊢
                      refine pure_ (i := 4) (N := some 91) (v := ?_) (a' := ?_) #[false, false, false, false, true, false, false, false, false, false, false, false, false] rfl rfl (any_of HT_.out (by kernel_rfl)) (fun _ _ _ h => h) (Or.inl ⟨by rfl, ?_⟩) ?_ ?_
                      rotate_left
                      · intro w'
                        go_simp
                        with_reducible rfl
                      rotate_left
                      · simp only [Act.put, List.setIfInBounds_toArray, List.set_cons_zero, List.set_cons_succ, i64_w, i32_w]
                        rfl
                      refine pure_ (i := 6) (N := some 93) (v := ?_) (a' := ?_) #[false, false, false, false, true, false, true, false, false, false, false, false, false] rfl rfl (any_of HT_.out (by kernel_rfl)) (fun _ _ _ h => h) (Or.inl ⟨by rfl, ?_⟩) ?_ ?_
                      rotate_left
                      · intro w'
                        go_simp
                        with_reducible rfl
                      rotate_left
                      · simp only [Act.put, List.setIfInBounds_toArray, List.set_cons_zero, List.set_cons_succ, i64_w, i32_w]
                        rfl
                      refine take_ (i := 0) (N := some 87) (v := ?_) (a' := ?_) #[true, false, false, false, true, false, true, false, false, false, false, false, false] rfl rfl (take_ofW HT_.out HW_.out (by kernel_rfl)) (fun _ _ _ h => h) (Or.inl ⟨by rfl, ?_⟩) hHeld ?_ ?_
                      rotate_left
                      · rintro w' ⟨s0, s1, s2, s3, s4, s5, s6, s7, s8⟩
                        go_simp
                        with_reducible rfl
                      rotate_left
                      · simp only [Act.put, List.setIfInBounds_toArray, List.set_cons_zero, List.set_cons_succ, i64_w, i32_w]
                        rfl
                      refine take_ (i := 2) (N := some 89) (v := ?_) (a' := ?_) #[true, false, true, false, true, false, true, false, false, false, false, false, false] rfl rfl (take_ofW HT_.out HW_.out (by kernel_rfl)) (fun _ _ _ h => h) (Or.inl ⟨by rfl, ?_⟩) hHeld ?_ ?_
                      rotate_left
                      · rintro w' ⟨s0, s1, s2, s3, s4, s5, s6, s7, s8⟩
                        go_simp
                        with_reducible rfl
                      rotate_left
                      · simp only [Act.put, List.setIfInBounds_toArray, List.set_cons_zero, List.set_cons_succ, i64_w, i32_w]
                        rfl
                      refine one_ (i := 1) (N := some 88) #[true, true, true, false, true, false, true, false, false, false, false, false, false] rfl rfl (one_of HT_.out (by kernel_rfl)) (by decide) (fun K hK => ?_)
                      refine goes_ Try.func42 (by kernel_rfl) rfl #[.agg #[.float .f64 b_a0_0, .float .f64 b_a0_1, .float .f64 b_a0_2, .float .f64 b_a0_3]] (by rfl) rfl rfl (by (try simp only [List.map_toArray, List.map_cons, List.map_nil]); first | done | rfl | (simp only [List.length_drop, List.length_take]; rfl)) ?_
                      with_reducible refine (laws_toMotion.calls b_a0_0 a0_0 b_a0_1 a0_1 b_a0_2 a0_2 b_a0_3 a0_3 t253 t254 t255 t256 _ ?side1 ?side2 ?side3 ?side4 A64.out).mono ?_
                      (case side1 => exact hF_a0_0)
                      (case side2 => exact hF_a0_1)
                      (case side3 => exact hF_a0_2)
                      (case side4 => exact hF_a0_3)
                      rintro e w72 ⟨b_t253, b_t254, b_t255, b_t256, rfl, hF_t253, hF_t254, hF_t255, hF_t256, hb⟩
                      refine ⟨_, rfl, ?_⟩
                      have n0_ := Aside0.mk (Kd.R_below (by (with_reducible repeat (first | apply Kd.R_alloc | apply Kd.R_drewN | apply Kd.R_drew)); exact HO_9.out) hb)
                      have n1_ := Aside0.mk (Kd.R_below (by (with_reducible repeat (first | apply Kd.R_alloc | apply Kd.R_drewN | apply Kd.R_drew)); exact HO_12.out) hb)
                      have n2_ := Aside0.mk (blk_below (g := gb208) (o := .cells #[.float .f64 b_a0_0, .float .f64 b_a0_1, .float .f64 b_a0_2, .float .f64 b_a0_3] 60 (0, 0)) (by (with_reducible repeat (first | refine blk_drewN ?_ _ | refine blk_drew ?_ | refine blk_alloc ?_ _)); exact BK208.out) hb)
                      have n3_ := Aside0.mk (blk_below (g := gb209) (o := .cells #[.float .f64 b_a1_0, .float .f64 b_a1_1, .float .f64 b_a1_2, .float .f64 b_a1_3, .float .f64 b_a1_4] 62 (0, 0)) (by (with_reducible repeat (first | refine blk_drewN ?_ _ | refine blk_drew ?_ | refine blk_alloc ?_ _)); exact BK209.out) hb)
                      have n4_ := Aside0.mk (below_step (by repeat (first | (with_reducible first | exact HB.out | apply below_alloc | apply pw_below_drewN | apply below_drew1 | refine below_set ?_ GE208.out | refine below_set ?_ GE209.out) | exact HB.out)) hb)
                      clear HO_9
                      clear HO_12
                      clear BK208
                      clear BK209
                      clear HB
                      have HO_9 := n0_
                      have HO_12 := n1_
                      have BK208 := n2_
                      have BK209 := n3_
                      have HB := n4_
                      clear n0_ n1_ n2_ n3_ n4_
                      (try clear hb)
                      (try clear hb2)
                      (try clear hk)
                      (try clear hi)
                      refine hK.out _ _ ⟨(blk_cell BK208.out 0).trans rfl, (blk_cell BK208.out 1).trans rfl, (blk_cell BK208.out 2).trans rfl, (blk_cell BK208.out 3).trans rfl, (blk_cell BK209.out 0).trans rfl, (blk_cell BK209.out 1).trans rfl, (blk_cell BK209.out 2).trans rfl, (blk_cell BK209.out 3).trans rfl, (blk_cell BK209.out 4).trans rfl⟩ (fun hHeld => ?_)
                      clear hK K
                      refine norm_ (a' := ?_) ?_ ?_
                      rotate_left
                      · show Act.put _ (some 88) _ = _
                        simp only [Act.put, List.setIfInBounds_toArray, List.set_cons_zero, List.set_cons_succ, i64_w, i32_w]
                        rfl
                      refine one_ (i := 3) (N := some 90) #[true, true, true, true, true, false, true, false, false, false, false, false, false] rfl rfl (one_of HT_.out (by kernel_rfl)) (by decide) (fun K hK => ?_)
                      refine goes_ Try.func43 (by kernel_rfl) rfl #[.agg #[.float .f64 b_a1_0, .float .f64 b_a1_1, .float .f64 b_a1_2, .float .f64 b_a1_3, .float .f64 b_a1_4]] (by rfl) rfl rfl (by (try simp only [List.map_toArray, List.map_cons, List.map_nil]); first | done | rfl | (simp only [List.length_drop, List.length_take]; rfl)) ?_
                      with_reducible refine (laws_toForces.calls b_a1_0 a1_0 b_a1_1 a1_1 b_a1_2 a1_2 b_a1_3 a1_3 b_a1_4 a1_4 t257 t258 t259 t260 t261 _ ?side1 ?side2 ?side3 ?side4 ?side5 A65.out).mono ?_
                      (case side1 => exact hF_a1_0)
                      (case side2 => exact hF_a1_1)
                      (case side3 => exact hF_a1_2)
                      (case side4 => exact hF_a1_3)
                      (case side5 => exact hF_a1_4)
                      rintro e w73 ⟨b_t257, b_t258, b_t259, b_t260, b_t261, rfl, hF_t257, hF_t258, hF_t259, hF_t260, hF_t261, hb⟩
                      refine ⟨_, rfl, ?_⟩
                      have n0_ := Aside0.mk (Kd.R_below (by (with_reducible repeat (first | apply Kd.R_alloc | apply Kd.R_drewN | apply Kd.R_drew)); exact HO_9.out) hb)
                      have n1_ := Aside0.mk (Kd.R_below (by (with_reducible repeat (first | apply Kd.R_alloc | apply Kd.R_drewN | apply Kd.R_drew)); exact HO_12.out) hb)
                      have n2_ := Aside0.mk (blk_below (g := gb208) (o := .cells #[.float .f64 b_a0_0, .float .f64 b_a0_1, .float .f64 b_a0_2, .float .f64 b_a0_3] 60 (0, 0)) (by (with_reducible repeat (first | refine blk_drewN ?_ _ | refine blk_drew ?_ | refine blk_alloc ?_ _)); exact BK208.out) hb)
                      have n3_ := Aside0.mk (blk_below (g := gb209) (o := .cells #[.float .f64 b_a1_0, .float .f64 b_a1_1, .float .f64 b_a1_2, .float .f64 b_a1_3, .float .f64 b_a1_4] 62 (0, 0)) (by (with_reducible repeat (first | refine blk_drewN ?_ _ | refine blk_drew ?_ | refine blk_alloc ?_ _)); exact BK209.out) hb)
                      have n4_ := Aside0.mk (below_step (by repeat (first | (with_reducible first | exact HB.out | apply below_alloc | apply pw_below_drewN | apply below_drew1 | refine below_set ?_ GE208.out | refine below_set ?_ GE209.out) | exact HB.out)) hb)
                      clear HO_9
                      clear HO_12
                      clear BK208
                      clear BK209
                      clear HB
                      have HO_9 := n0_
                      have HO_12 := n1_
                      have BK208 := n2_
                      have BK209 := n3_
                      have HB := n4_
                      clear n0_ n1_ n2_ n3_ n4_
                      (try clear hb)
                      (try clear hb2)
                      (try clear hk)
                      (try clear hi)
                      refine hK.out _ _ ⟨(blk_cell BK208.out 0).trans rfl, (blk_cell BK208.out 1).trans rfl, (blk_cell BK208.out 2).trans rfl, (blk_cell BK208.out 3).trans rfl, (blk_cell BK209.out 0).trans rfl, (blk_cell BK209.out 1).trans rfl, (blk_cell BK209.out 2).trans rfl, (blk_cell BK209.out 3).trans rfl, (blk_cell BK209.out 4).trans rfl⟩ (fun hHeld => ?_)
                      clear hK K
                      refine norm_ (a' := ?_) ?_ ?_
                      rotate_left
                      · show Act.put _ (some 90) _ = _
                        simp only [Act.put, List.setIfInBounds_toArray, List.set_cons_zero, List.set_cons_succ, i64_w, i32_w]
                        rfl
                      refine one_ (i := 5) (N := some 92) #[true, true, true, true, true, true, true, false, false, false, false, false, false] rfl rfl (one_of HT_.out (by kernel_rfl)) (by decide) (fun K hK => ?_)
                      refine goes_ Try.func15 (by kernel_rfl) rfl #[.slice A2 l2.length c2] (by rfl) rfl rfl (by (try simp only [List.map_toArray, List.map_cons, List.map_nil]); first | done | rfl | (simp only [List.length_drop, List.length_take]; rfl)) ?_
                      with_reducible refine (laws_toFloat64S.calls kj43 _ _ l2 t262 _ ?side1 ?side2 A66.out).mono ?_
                      (case side1 => repeat (first | exact (Kd.C_below HR2.out HB.out) | (with_reducible refine Kd.C_alloc ?_ _) | (with_reducible refine Kd.C_drewN ?_ _) | (with_reducible refine Kd.C_drew ?_)))
                      (case side2 => exact HC2.out)
                      rintro e w74 ⟨v263, rfl, ho0, hb⟩
                      refine ⟨_, rfl, ?_⟩
                      have n0_ := Aside0.mk (Kd.R_below (by (with_reducible repeat (first | apply Kd.R_alloc | apply Kd.R_drewN | apply Kd.R_drew)); exact HO_9.out) hb)
                      have n1_ := Aside0.mk (Kd.R_below (by (with_reducible repeat (first | apply Kd.R_alloc | apply Kd.R_drewN | apply Kd.R_drew)); exact HO_12.out) hb)
                      have n2_ := Aside0.mk (Kd.R_lower ho0 (below_size (by repeat (first | (with_reducible first | exact HB.out | apply below_alloc | apply pw_below_drewN | apply below_drew1 | refine below_set ?_ GE208.out | refine below_set ?_ GE209.out) | exact HB.out))))
                      have n3_ := Aside0.mk (blk_below (g := gb208) (o := .cells #[.float .f64 b_a0_0, .float .f64 b_a0_1, .float .f64 b_a0_2, .float .f64 b_a0_3] 60 (0, 0)) (by (with_reducible repeat (first | refine blk_drewN ?_ _ | refine blk_drew ?_ | refine blk_alloc ?_ _)); exact BK208.out) hb)
                      have n4_ := Aside0.mk (blk_below (g := gb209) (o := .cells #[.float .f64 b_a1_0, .float .f64 b_a1_1, .float .f64 b_a1_2, .float .f64 b_a1_3, .float .f64 b_a1_4] 62 (0, 0)) (by (with_reducible repeat (first | refine blk_drewN ?_ _ | refine blk_drew ?_ | refine blk_alloc ?_ _)); exact BK209.out) hb)
                      have n5_ := Aside0.mk (below_step (by repeat (first | (with_reducible first | exact HB.out | apply below_alloc | apply pw_below_drewN | apply below_drew1 | refine below_set ?_ GE208.out | refine below_set ?_ GE209.out) | exact HB.out)) hb)
                      clear HO_9
                      clear HO_12
                      clear BK208
                      clear BK209
                      clear HB
                      have HO_9 := n0_
                      have HO_12 := n1_
                      have HO264 := n2_
                      have BK208 := n3_
                      have BK209 := n4_
                      have HB := n5_
                      clear n0_ n1_ n2_ n3_ n4_ n5_
                      (try clear hb)
                      (try clear hb2)
                      (try clear hk)
                      (try clear hi)
                      (try clear ho0)
                      obtain ⟨Ao75, co75, eo75⟩ := Kd.R_slice HO264.out
                      (first | subst eo75 | (injection eo75 with f1_ f2_ f3_; have f4_ := f1_.symm; have f5_ := f3_.symm; clear f1_ f2_ f3_; subst f4_; subst f5_))
                      refine hK.out _ _ ⟨(blk_cell BK208.out 0).trans rfl, (blk_cell BK208.out 1).trans rfl, (blk_cell BK208.out 2).trans rfl, (blk_cell BK208.out 3).trans rfl, (blk_cell BK209.out 0).trans rfl, (blk_cell BK209.out 1).trans rfl, (blk_cell BK209.out 2).trans rfl, (blk_cell BK209.out 3).trans rfl, (blk_cell BK209.out 4).trans rfl⟩ (fun hHeld => ?_)
                      clear hK K
                      refine norm_ (a' := ?_) ?_ ?_
                      rotate_left
                      · show Act.put _ (some 92) _ = _
                        simp only [Act.put, List.setIfInBounds_toArray, List.set_cons_zero, List.set_cons_succ, i64_w, i32_w]
                        rfl
                      refine one_ (i := 7) (N := some 94) #[true, true, true, true, true, true, true, true, false, false, false, false, false] rfl rfl (one_of HT_.out (by kernel_rfl)) (by decide) (fun K hK => ?_)
                      refine goes_ Try.func44 (by kernel_rfl) rfl #[.agg #[.float .f64 b_t253, .float .f64 b_t254, .float .f64 b_t255, .float .f64 b_t256], .agg #[.float .f64 b_t257, .float .f64 b_t258, .float .f64 b_t259, .float .f64 b_t260, .float .f64 b_t261], .slice Ao75 t262.length co75, .float .f64 b_a3] (by rfl) rfl rfl (by (try simp only [List.map_toArray, List.map_cons, List.map_nil]); first | done | rfl | (simp only [List.length_drop, List.length_take]; rfl)) ?_
                      with_reducible refine (impl_Fly.calls kj43 b_t253 t253 b_t254 t254 b_t255 t255 b_t256 t256 b_t257 t257 b_t258 t258 b_t259 t259 b_t260 t260 b_t261 t261 _ _ t262 b_a3 a3 t265 t268 _ ?side1 ?side2 ?side3 ?side4 ?side5 ?side6 ?side7 ?side8 ?side9 ?side10 ?side11 ?side12 A67.out).mono ?_
                      (case side1 => exact hF_t253)
                      (case side2 => exact hF_t254)
                      (case side3 => exact hF_t255)
                      (case side4 => exact hF_t256)
                      (case side5 => exact hF_t257)
                      (case side6 => exact hF_t258)
                      (case side7 => exact hF_t259)
                      (case side8 => exact hF_t260)
                      (case side9 => exact hF_t261)
                      (case side10 => repeat (first | exact (Kd.R_reads' HO264.out).2.2 | (with_reducible refine Kd.C_alloc ?_ _) | (with_reducible refine Kd.C_drewN ?_ _) | (with_reducible refine Kd.C_drew ?_)))
                      (case side11 => exact (Kd.R_reads' HO264.out).2.1)
                      (case side12 => exact hF_a3)
                      rintro e w76 ⟨v266, rfl, ho0, hb⟩
                      refine ⟨_, rfl, ?_⟩
                      have n0_ := Aside0.mk (Kd.R_elder' (by (with_reducible repeat (first | apply Kd.R_alloc | apply Kd.R_drewN | apply Kd.R_drew)); exact HO_9.out) (Kd.R_base ho0) hb)
                      have n1_ := Aside0.mk (Kd.R_elder' (by (with_reducible repeat (first | apply Kd.R_alloc | apply Kd.R_drewN | apply Kd.R_drew)); exact HO_12.out) (Kd.R_base ho0) hb)
                      have n2_ := Aside0.mk (Kd.R_below (by (with_reducible repeat (first | apply Kd.R_alloc | apply Kd.R_drewN | apply Kd.R_drew)); exact HO264.out) hb)
                      have n3_ := Aside0.mk (Kd.R_lower (Kd.R_new' (Kd.R_new' ho0 (Kd.R_lt (by (with_reducible repeat (first | apply Kd.R_alloc | apply Kd.R_drewN | apply Kd.R_drew)); exact HO_9.out))) (Kd.R_lt (by (with_reducible repeat (first | apply Kd.R_alloc | apply Kd.R_drewN | apply Kd.R_drew)); exact HO_12.out))) (below_size (by repeat (first | (with_reducible first | exact HB.out | apply below_alloc | apply pw_below_drewN | apply below_drew1 | refine below_set ?_ GE208.out | refine below_set ?_ GE209.out) | exact HB.out))))
                      have n4_ := Aside0.mk (blk_below (g := gb208) (o := .cells #[.float .f64 b_a0_0, .float .f64 b_a0_1, .float .f64 b_a0_2, .float .f64 b_a0_3] 60 (0, 0)) (by (with_reducible repeat (first | refine blk_drewN ?_ _ | refine blk_drew ?_ | refine blk_alloc ?_ _)); exact BK208.out) hb)
                      have n5_ := Aside0.mk (blk_below (g := gb209) (o := .cells #[.float .f64 b_a1_0, .float .f64 b_a1_1, .float .f64 b_a1_2, .float .f64 b_a1_3, .float .f64 b_a1_4] 62 (0, 0)) (by (with_reducible repeat (first | refine blk_drewN ?_ _ | refine blk_drew ?_ | refine blk_alloc ?_ _)); exact BK209.out) hb)
                      have n6_ := Aside0.mk (below_step (by repeat (first | (with_reducible first | exact HB.out | apply below_alloc | apply pw_below_drewN | apply below_drew1 | refine below_set ?_ GE208.out | refine below_set ?_ GE209.out) | exact HB.out)) hb)
                      clear HO_9
                      clear HO_12
                      clear HO264
                      clear BK208
                      clear BK209
                      clear HB
                      have HO_9 := n0_
                      have HO_12 := n1_
                      have HO264 := n2_
                      have HO267 := n3_
                      have BK208 := n4_
                      have BK209 := n5_
                      have HB := n6_
                      clear n0_ n1_ n2_ n3_ n4_ n5_ n6_
                      (try clear hb)
                      (try clear hb2)
                      (try clear hk)
                      (try clear hi)
                      (try clear ho0)
                      refine hK.out _ _ ⟨(blk_cell BK208.out 0).trans rfl, (blk_cell BK208.out 1).trans rfl, (blk_cell BK208.out 2).trans rfl, (blk_cell BK208.out 3).trans rfl, (blk_cell BK209.out 0).trans rfl, (blk_cell BK209.out 1).trans rfl, (blk_cell BK209.out 2).trans rfl, (blk_cell BK209.out 3).trans rfl, (blk_cell BK209.out 4).trans rfl⟩ (fun hHeld => ?_)
                      clear hK K
                      refine norm_ (a' := ?_) ?_ ?_
                      rotate_left
                      · show Act.put _ (some 94) _ = _
                        simp only [Act.put, List.setIfInBounds_toArray, List.set_cons_zero, List.set_cons_succ, i64_w, i32_w]
                        rfl
                      refine pure_ (i := 8) (N := some 86) (v := ?_) (a' := ?_) #[true, true, true, true, true, true, true, true, true, false, false, false, false] rfl rfl (any_of HT_.out (by kernel_rfl)) (fun _ _ _ h => h) (Or.inl ⟨by rfl, ?_⟩) ?_ ?_
                      rotate_left
                      · intro w'
                        go_simp
                        with_reducible rfl
                      rotate_left
                      · simp only [Act.put, List.setIfInBounds_toArray, List.set_cons_zero, List.set_cons_succ, i64_w, i32_w]
                        rfl
                      refine pure_ (i := 9) (N := some 95) (v := ?_) (a' := ?_) #[true, true, true, true, true, true, true, true, true, true, false, false, false] rfl rfl (any_of HT_.out (by kernel_rfl)) (fun _ _ _ h => h) (Or.inl ⟨by rfl, ?_⟩) ?_ ?_
                      rotate_left
                      · intro w'
                        go_simp
                        with_reducible rfl
                      rotate_left
                      · simp only [Act.put, List.setIfInBounds_toArray, List.set_cons_zero, List.set_cons_succ, i64_w, i32_w]
                        rfl
                      refine pure_ (i := 10) (N := some 96) (v := ?_) (a' := ?_) #[true, true, true, true, true, true, true, true, true, true, true, false, false] rfl rfl (any_of HT_.out (by kernel_rfl)) (fun _ _ _ h => h) (Or.inl ⟨by rfl, ?_⟩) ?_ ?_
                      rotate_left
                      · intro w'
                        go_simp
                        with_reducible rfl
                      rotate_left
                      · simp only [Act.put, List.setIfInBounds_toArray, List.set_cons_zero, List.set_cons_succ, i64_w, i32_w]
                        rfl
                      refine pure_ (i := 11) (N := some 17) (v := ?_) (a' := ?_) #[true, true, true, true, true, true, true, true, true, true, true, true, false] rfl rfl (any_of HT_.out (by kernel_rfl)) (fun _ _ _ h => h) (Or.inl ⟨by rfl, ?_⟩) ?_ ?_
                      rotate_left
                      · intro w'
                        go_simp
                        with_reducible rfl
                      rotate_left
                      · simp only [Act.put, List.setIfInBounds_toArray, List.set_cons_zero, List.set_cons_succ, i64_w, i32_w]
                        rfl
                      refine pure_ (i := 12) (N := some 18) (v := ?_) (a' := ?_) #[true, true, true, true, true, true, true, true, true, true, true, true, true] rfl rfl (any_of HT_.out (by kernel_rfl)) (fun _ _ _ h => h) (Or.inl ⟨by rfl, ?_⟩) ?_ ?_
                      rotate_left
                      · intro w'
                        go_simp
                        with_reducible rfl
                      rotate_left
                      · simp only [Act.put, List.setIfInBounds_toArray, List.set_cons_zero, List.set_cons_succ, i64_w, i32_w]
                        rfl
                      refine done_ (done_of HT_.out (by kernel_rfl)) ?_
                      go_upto_region 23 with (fail)
                      go_cut [105] (fun v105 wc => ∃ (kq : Nat) (x105_67 : Bool), v105 = .bool x105_67 ∧ Aside0 (laws_FnExactFly.j2 kq t251 t250 x105_67 = some r) ∧ Aside0 (kq ≤ kj43) ∧ Aside0 (Kd.R k66 66 wc w.heap.size (fun _ => True) (.slice Ao69 t238.length co69) t251) ∧ Aside0 (wc.heap[gb208]? = some (.cells #[.float .f64 b_a0_0, .float .f64 b_a0_1, .float .f64 b_a0_2, .float .f64 b_a0_3] 60 (0, 0))) ∧ Aside0 (wc.heap[gb209]? = some (.cells #[.float .f64 b_a1_0, .float .f64 b_a1_1, .float .f64 b_a1_2, .float .f64 b_a1_3, .float .f64 b_a1_4] 62 (0, 0))) ∧ Aside0 (Below w.heap.size w wc))
                      case first =>
                        have H := HC68.out
                        clear HC68
                        replace H := Option.bind_eq_some_iff.mp H
                        obtain ⟨t269, A770, H⟩ := H
                        replace H : (if t269 = true then (laws_FnExactFly.j2 kj43 t251 t250 (t268 != t225)) else (laws_FnExactFly.j2 kj43 t251 t250 true)) = some r := H
                        have A77 := Aside0.mk A770
                        clear A770
                        by_cases c78 : t269 = true
                        · subst c78
                          have H1 : (laws_FnExactFly.j2 kj43 t251 t250 (t268 != t225)) = some r := by rw [if_pos rfl] at H; exact H
                          clear H
                          have H := H1
                          clear H1
                          have H' := Aside0.mk H
                          clear H
                          obtain ⟨Ao79, co79, eo79⟩ := Kd.R_slice HO267.out
                          subst eo79
                          obtain ⟨Ao80, co80, eo80⟩ := Kd.R_slice HO_9.out
                          subst eo80
                          go_wp2_with (first | ((with_reducible refine gate_callee (f := 45) rfl ?_); refine goesL_ (some 99) rfl rfl Try.func45 (by kernel_rfl) rfl #[.slice Ao79 t265.length co79, .slice Ao80 t222.length co80] rfl (by (try simp only [List.map_toArray, List.map_cons, List.map_nil]); first | done | rfl | (simp only [List.length_drop, List.length_take]; rfl)) ?_; (with_reducible refine (laws_eqMotionS.calls kj43 _ _ t265 _ _ t222 true _ ?side1 ?side2 ?side3 ?side4 A77.out).mono ?_); (case side1 => repeat (first | exact (Kd.R_reads' HO267.out).2.2 | (with_reducible refine Kd.C_alloc ?_ _) | (with_reducible refine Kd.C_drewN ?_ _) | (with_reducible refine Kd.C_drew ?_))); (case side2 => exact (Kd.R_reads' HO267.out).2.1); (case side3 => repeat (first | exact (Kd.R_reads' HO_9.out).2.2 | (with_reducible refine Kd.C_alloc ?_ _) | (with_reducible refine Kd.C_drewN ?_ _) | (with_reducible refine Kd.C_drew ?_))); (case side4 => exact (Kd.R_reads' HO_9.out).2.1); rintro e w81 ⟨rfl, hb⟩; refine ⟨_, rfl, ?_⟩; have n0_ := Aside0.mk (Kd.R_below (by (with_reducible repeat (first | apply Kd.R_alloc | apply Kd.R_drewN | apply Kd.R_drew)); exact HO_9.out) hb); have n1_ := Aside0.mk (Kd.R_below (by (with_reducible repeat (first | apply Kd.R_alloc | apply Kd.R_drewN | apply Kd.R_drew)); exact HO_12.out) hb); have n2_ := Aside0.mk (Kd.R_below (by (with_reducible repeat (first | apply Kd.R_alloc | apply Kd.R_drewN | apply Kd.R_drew)); exact HO264.out) hb); have n3_ := Aside0.mk (Kd.R_below (by (with_reducible repeat (first | apply Kd.R_alloc | apply Kd.R_drewN | apply Kd.R_drew)); exact HO267.out) hb); have n4_ := Aside0.mk (blk_below (g := gb208) (o := .cells #[.float .f64 b_a0_0, .float .f64 b_a0_1, .float .f64 b_a0_2, .float .f64 b_a0_3] 60 (0, 0)) (by (with_reducible repeat (first | refine blk_drewN ?_ _ | refine blk_drew ?_ | refine blk_alloc ?_ _)); exact BK208.out) hb); have n5_ := Aside0.mk (blk_below (g := gb209) (o := .cells #[.float .f64 b_a1_0, .float .f64 b_a1_1, .float .f64 b_a1_2, .float .f64 b_a1_3, .float .f64 b_a1_4] 62 (0, 0)) (by (with_reducible repeat (first | refine blk_drewN ?_ _ | refine blk_drew ?_ | refine blk_alloc ?_ _)); exact BK209.out) hb); have n6_ := Aside0.mk (below_step (by repeat (first | (with_reducible first | exact HB.out | apply below_alloc | apply pw_below_drewN | apply below_drew1 | refine below_set ?_ GE208.out | refine below_set ?_ GE209.out) | exact HB.out)) hb); clear HO_9; clear HO_12; clear HO264; clear HO267; clear BK208; clear BK209; clear HB; have HO_9 := n0_; have HO_12 := n1_; have HO264 := n2_; have HO267 := n3_; have BK208 := n4_; have BK209 := n5_; have HB := n6_; clear n0_ n1_ n2_ n3_ n4_ n5_ n6_; (try clear hb); (try clear hb2); (try clear hk); (try clear hi)))
                          go_meet
                          case rel => exact ⟨_, ((t268 != t225)), (by first | rfl | (simp; done) | (simp [*]; done)), H', ⟨by have := HJ15.out; have := HJ43.out; first | omega | exact Nat.le_refl _⟩, ⟨by (with_reducible repeat (first | apply Kd.R_alloc | apply Kd.R_drewN | apply Kd.R_drew)); exact Kd.R_mono HO_12.out (fun _ hk => trivial)⟩, ⟨by (with_reducible repeat (first | refine blk_drewN ?_ _ | refine blk_drew ?_ | refine blk_alloc ?_ _)); exact BK208.out⟩, ⟨by (with_reducible repeat (first | refine blk_drewN ?_ _ | refine blk_drew ?_ | refine blk_alloc ?_ _)); exact BK209.out⟩, ⟨by repeat (first | (with_reducible first | exact HB.out | apply below_alloc | apply pw_below_drewN | apply below_drew1 | refine below_set ?_ GE208.out | refine below_set ?_ GE209.out) | exact HB.out)⟩⟩
                        · replace c78 := Bool.eq_false_iff.mpr c78
                          subst c78
                          have H1 : (laws_FnExactFly.j2 kj43 t251 t250 true) = some r := by rw [if_neg (show ¬ (false = true) by decide)] at H; exact H
                          clear H
                          have H := H1
                          clear H1
                          have H' := Aside0.mk H
                          clear H
                          obtain ⟨Ao82, co82, eo82⟩ := Kd.R_slice HO267.out
                          subst eo82
                          obtain ⟨Ao83, co83, eo83⟩ := Kd.R_slice HO_9.out
                          subst eo83
                          go_wp2_with (first | ((with_reducible refine gate_callee (f := 45) rfl ?_); refine goesL_ (some 99) rfl rfl Try.func45 (by kernel_rfl) rfl #[.slice Ao82 t265.length co82, .slice Ao83 t222.length co83] rfl (by (try simp only [List.map_toArray, List.map_cons, List.map_nil]); first | done | rfl | (simp only [List.length_drop, List.length_take]; rfl)) ?_; (with_reducible refine (laws_eqMotionS.calls kj43 _ _ t265 _ _ t222 false _ ?side1 ?side2 ?side3 ?side4 A77.out).mono ?_); (case side1 => repeat (first | exact (Kd.R_reads' HO267.out).2.2 | (with_reducible refine Kd.C_alloc ?_ _) | (with_reducible refine Kd.C_drewN ?_ _) | (with_reducible refine Kd.C_drew ?_))); (case side2 => exact (Kd.R_reads' HO267.out).2.1); (case side3 => repeat (first | exact (Kd.R_reads' HO_9.out).2.2 | (with_reducible refine Kd.C_alloc ?_ _) | (with_reducible refine Kd.C_drewN ?_ _) | (with_reducible refine Kd.C_drew ?_))); (case side4 => exact (Kd.R_reads' HO_9.out).2.1); rintro e w84 ⟨rfl, hb⟩; refine ⟨_, rfl, ?_⟩; have n0_ := Aside0.mk (Kd.R_below (by (with_reducible repeat (first | apply Kd.R_alloc | apply Kd.R_drewN | apply Kd.R_drew)); exact HO_9.out) hb); have n1_ := Aside0.mk (Kd.R_below (by (with_reducible repeat (first | apply Kd.R_alloc | apply Kd.R_drewN | apply Kd.R_drew)); exact HO_12.out) hb); have n2_ := Aside0.mk (Kd.R_below (by (with_reducible repeat (first | apply Kd.R_alloc | apply Kd.R_drewN | apply Kd.R_drew)); exact HO264.out) hb); have n3_ := Aside0.mk (Kd.R_below (by (with_reducible repeat (first | apply Kd.R_alloc | apply Kd.R_drewN | apply Kd.R_drew)); exact HO267.out) hb); have n4_ := Aside0.mk (blk_below (g := gb208) (o := .cells #[.float .f64 b_a0_0, .float .f64 b_a0_1, .float .f64 b_a0_2, .float .f64 b_a0_3] 60 (0, 0)) (by (with_reducible repeat (first | refine blk_drewN ?_ _ | refine blk_drew ?_ | refine blk_alloc ?_ _)); exact BK208.out) hb); have n5_ := Aside0.mk (blk_below (g := gb209) (o := .cells #[.float .f64 b_a1_0, .float .f64 b_a1_1, .float .f64 b_a1_2, .float .f64 b_a1_3, .float .f64 b_a1_4] 62 (0, 0)) (by (with_reducible repeat (first | refine blk_drewN ?_ _ | refine blk_drew ?_ | refine blk_alloc ?_ _)); exact BK209.out) hb); have n6_ := Aside0.mk (below_step (by repeat (first | (with_reducible first | exact HB.out | apply below_alloc | apply pw_below_drewN | apply below_drew1 | refine below_set ?_ GE208.out | refine below_set ?_ GE209.out) | exact HB.out)) hb); clear HO_9; clear HO_12; clear HO264; clear HO267; clear BK208; clear BK209; clear HB; have HO_9 := n0_; have HO_12 := n1_; have HO264 := n2_; have HO267 := n3_; have BK208 := n4_; have BK209 := n5_; have HB := n6_; clear n0_ n1_ n2_ n3_ n4_ n5_ n6_; (try clear hb); (try clear hb2); (try clear hk); (try clear hi)))
                          go_meet
                          case rel => exact ⟨_, (true), (by first | rfl | (simp; done) | (simp [*]; done)), H', ⟨by have := HJ15.out; have := HJ43.out; first | omega | exact Nat.le_refl _⟩, ⟨by (with_reducible repeat (first | apply Kd.R_alloc | apply Kd.R_drewN | apply Kd.R_drew)); exact Kd.R_mono HO_12.out (fun _ hk => trivial)⟩, ⟨by (with_reducible repeat (first | refine blk_drewN ?_ _ | refine blk_drew ?_ | refine blk_alloc ?_ _)); exact BK208.out⟩, ⟨by (with_reducible repeat (first | refine blk_drewN ?_ _ | refine blk_drew ?_ | refine blk_alloc ?_ _)); exact BK209.out⟩, ⟨by repeat (first | (with_reducible first | exact HB.out | apply below_alloc | apply pw_below_drewN | apply below_drew1 | refine below_set ?_ GE208.out | refine below_set ?_ GE209.out) | exact HB.out)⟩⟩
                      case rest =>
                        clear HC68
                        try clear c1
                        try clear c2
                        try clear p2
                        try clear c3
                        try clear c4
                        try clear c5
                        try clear c5b0
                        try clear c5b1
                        try clear c6
                        try clear c7
                        try clear c9
                        try clear c15
                        try clear c18
                        try clear c32
                        try clear c35
                        try clear c39
                        try clear c41
                        try clear c42
                        try clear c43
                        try clear c44
                        try clear c45
                        try clear c46
                        try clear c47
                        try clear c48
                        try clear c48b0
                        try clear c50
                        try clear c57
                        try clear c60
                        try clear c60b0
                        try clear c63
                        try clear c63b0
                        try clear c63b1
                        try clear c78
                        try clear p2
                        obtain ⟨kq, x105_67, rfl, HA, HJ67, HO_12, BK208, BK209, HB⟩ := hcut
                        have hl12_67 := (Kd.R_reads' HO_12.out).1
                        rw [hl12_67] at HO_12
                        (try simp only [hl12_67])
                        (try simp only [hl12_67] at BK208)
                        (try simp only [hl12_67] at BK209)
                        cases kq with
                        | zero => exact absurd HA.out (by simp [laws_FnExactFly.j2])
                        | succ kj67 =>
                          have H := HA.out
                          clear HA
                          simp only [laws_FnExactFly.j2] at H
                          by_cases c85 : x105_67 = true
                          · subst c85
                            have H1 : (some false) = some r := by rw [if_pos rfl] at H; exact H
                            clear H
                            have H := H1
                            clear H1
                            obtain rfl := Option.some.inj H
                            go_wp2
                            go_ret
                            exact ⟨by first | rfl | (simp [errW_none, errW_some] <;> rfl) | (simp [*, errW_none, errW_some] <;> rfl), by repeat (first | (with_reducible first | exact HB.out | apply below_alloc | apply pw_below_drewN | apply below_drew1 | refine below_set ?_ GE208.out | refine below_set ?_ GE209.out) | exact HB.out)⟩
                          · replace c85 := Bool.eq_false_iff.mpr c85
                            subst c85
                            have H1 : ((laws_heldMotionS.f kj67 t251 1).bind fun t270 => (if t270 < 0 then (some false) else (if t270 = t250 then (some true) else (some false)))) = some r := by rw [if_neg (show ¬ (false = true) by decide)] at H; exact H
                            clear H
                            have H := H1
                            clear H1
                            replace H := Option.bind_eq_some_iff.mp H
                            obtain ⟨t270, A860, H⟩ := H
                            replace H : (if t270 < 0 then (some false) else (if t270 = t250 then (some true) else (some false))) = some r := H
                            have A86 := Aside0.mk A860
                            clear A860
                            by_cases c87 : t270 < 0
                            · rw [if_pos c87] at H
                              have c87b0 : decide (t270 < 0) = true := decide_eq_true c87
                              clear c87
                              obtain rfl := Option.some.inj H
                              go_wp2_with (first | ((with_reducible refine gate_callee (f := 47) rfl ?_); refine goesL_ (some 108) rfl rfl Try.func47 (by kernel_rfl) rfl #[.slice Ao69 t251.length co69, .int .i64 1] rfl (by (try simp only [List.map_toArray, List.map_cons, List.map_nil]); first | done | rfl | (simp only [List.length_drop, List.length_take]; rfl)) ?_; (with_reducible refine (laws_heldMotionS.calls kj67 _ _ t251 1 t270 _ ?side1 ?side2 A86.out).mono ?_); (case side1 => repeat (first | exact (Kd.R_reads' HO_12.out).2.2 | (with_reducible refine Kd.C_alloc ?_ _) | (with_reducible refine Kd.C_drewN ?_ _) | (with_reducible refine Kd.C_drew ?_))); (case side2 => exact (Kd.R_reads' HO_12.out).2.1); rintro e w' ⟨rfl, ⟨nd, rfl⟩⟩; refine ⟨_, rfl, ?_⟩))
                              go_ret
                              exact ⟨by first | rfl | (simp [errW_none, errW_some] <;> rfl) | (simp [*, errW_none, errW_some] <;> rfl), by repeat (first | (with_reducible first | exact HB.out | apply below_alloc | apply pw_below_drewN | apply below_drew1 | refine below_set ?_ GE208.out | refine below_set ?_ GE209.out) | exact HB.out)⟩
                            · rw [if_neg c87] at H
                              have c87b0 : decide (t270 < 0) = false := decide_eq_false c87
                              clear c87
                              by_cases c88 : t270 = t250
                              · rw [if_pos c88] at H
                                have c88b0 : (t270 == t250) = true := beq_iff_eq.mpr c88
                                have c88b1 : (t270 != t250) = false := bne_eq_false_iff_eq.mpr c88
                                clear c88
                                obtain rfl := Option.some.inj H
                                go_wp2_with (first | ((with_reducible refine gate_callee (f := 47) rfl ?_); refine goesL_ (some 108) rfl rfl Try.func47 (by kernel_rfl) rfl #[.slice Ao69 t251.length co69, .int .i64 1] rfl (by (try simp only [List.map_toArray, List.map_cons, List.map_nil]); first | done | rfl | (simp only [List.length_drop, List.length_take]; rfl)) ?_; (with_reducible refine (laws_heldMotionS.calls kj67 _ _ t251 1 t270 _ ?side1 ?side2 A86.out).mono ?_); (case side1 => repeat (first | exact (Kd.R_reads' HO_12.out).2.2 | (with_reducible refine Kd.C_alloc ?_ _) | (with_reducible refine Kd.C_drewN ?_ _) | (with_reducible refine Kd.C_drew ?_))); (case side2 => exact (Kd.R_reads' HO_12.out).2.1); rintro e w' ⟨rfl, ⟨nd, rfl⟩⟩; refine ⟨_, rfl, ?_⟩))
                                go_ret
                                exact ⟨by first | rfl | (simp [errW_none, errW_some] <;> rfl) | (simp [*, errW_none, errW_some] <;> rfl), by repeat (first | (with_reducible first | exact HB.out | apply below_alloc | apply pw_below_drewN | apply below_drew1 | refine below_set ?_ GE208.out | refine below_set ?_ GE209.out) | exact HB.out)⟩
                              · rw [if_neg c88] at H
                                have c88b0 : (t270 == t250) = false := beq_eq_false_iff_ne.mpr c88
                                have c88b1 : (t270 != t250) = true := bne_iff_ne.mpr c88
                                obtain rfl := Option.some.inj H
                                go_wp2_with (first | ((with_reducible refine gate_callee (f := 47) rfl ?_); refine goesL_ (some 108) rfl rfl Try.func47 (by kernel_rfl) rfl #[.slice Ao69 t251.length co69, .int .i64 1] rfl (by (try simp only [List.map_toArray, List.map_cons, List.map_nil]); first | done | rfl | (simp only [List.length_drop, List.length_take]; rfl)) ?_; (with_reducible refine (laws_heldMotionS.calls kj67 _ _ t251 1 t270 _ ?side1 ?side2 A86.out).mono ?_); (case side1 => repeat (first | exact (Kd.R_reads' HO_12.out).2.2 | (with_reducible refine Kd.C_alloc ?_ _) | (with_reducible refine Kd.C_drewN ?_ _) | (with_reducible refine Kd.C_drew ?_))); (case side2 => exact (Kd.R_reads' HO_12.out).2.1); rintro e w' ⟨rfl, ⟨nd, rfl⟩⟩; refine ⟨_, rfl, ?_⟩))
                                go_ret
                                exact ⟨by first | rfl | (simp [errW_none, errW_some] <;> rfl) | (simp [*, errW_none, errW_some] <;> rfl), by repeat (first | (with_reducible first | exact HB.out | apply below_alloc | apply pw_below_drewN | apply below_drew1 | refine below_set ?_ GE208.out | refine below_set ?_ GE209.out) | exact HB.out)⟩
                    · rw [if_neg c63] at H
                      have c63b0 : (t252 == t250) = false := beq_eq_false_iff_ne.mpr c63
                      have c63b1 : (t252 != t250) = true := bne_iff_ne.mpr c63
                      obtain rfl := Option.some.inj H
                      obtain ⟨Ao89, co89, eo89⟩ := Kd.R_slice HO_12.out
                      subst eo89
                      go_wp2_with (first | ((with_reducible refine gate_callee (f := 46) rfl ?_); refine goesL_ (some 77) rfl rfl Try.func46 (by kernel_rfl) rfl #[.slice Ao89 t238.length co89, .int .i64 1] rfl (by (try simp only [List.map_toArray, List.map_cons, List.map_nil]); first | done | rfl | (simp only [List.length_drop, List.length_take]; rfl)) ?_; (with_reducible refine (laws_markMotionS.calls kj43 (fun k_ => some k_ = (.slice Ao89 t238.length co89 : Value).ownBlock) (.slice Ao89 t238.length co89) t238 1 t250 t251 w _ ?side1 ?side2 A58.out).mono ?_); (case side1 => repeat (first | (with_reducible first | exact HB.out | apply below_alloc | apply pw_below_drewN | apply below_drew1 | refine below_set ?_ GE208.out | refine below_set ?_ GE209.out) | exact HB.out)); (case side2 => exact Kd.R_tight rfl HO_12.out); rintro e w90 ⟨rfl, hy0, hb, hkp⟩; refine ⟨_, rfl, ?_⟩; have n0_ := Aside0.mk (Kd.R_mono (ok' := fun k_ => some k_ ≠ (.slice Ao89 t238.length co89 : Value).ownBlock) (Kd.R_keptB (HO_9.out) hkp (fun k_ hk_ hs_ => (hk_) hs_)) (fun k_ hk_ => hk_.1)); have n1_ := Aside0.mk (Kd.R_reok rfl hy0 (fun k_ e_ => HO_12.out.1 k_ e_)); have n2_ := Aside0.mk (blk_kept (by (with_reducible repeat (first | refine blk_drewN ?_ _ | refine blk_drew ?_ | refine blk_alloc ?_ _)); exact BK208.out) hkp (fun hs_ => (fun e_ => (Kd.R_ne HO_12.out BK208.out (by decide)) e_) hs_)); have n3_ := Aside0.mk (blk_kept (by (with_reducible repeat (first | refine blk_drewN ?_ _ | refine blk_drew ?_ | refine blk_alloc ?_ _)); exact BK209.out) hkp (fun hs_ => (fun e_ => (Kd.R_ne HO_12.out BK209.out (by decide)) e_) hs_)); have n4_ := Aside0.mk (hb); clear HO_9; clear HO_12; clear BK208; clear BK209; clear HB; have HO_9 := n0_; have HO_12 := n1_; have BK208 := n2_; have BK209 := n3_; have HB := n4_; clear n0_ n1_ n2_ n3_ n4_; (try clear hb); (try clear hkp); (try clear hy0)) | ((with_reducible refine gate_callee (f := 47) rfl ?_); refine goesL_ (some 80) rfl rfl Try.func47 (by kernel_rfl) rfl #[.slice Ao89 t251.length co89, .int .i64 1] rfl (by (try simp only [List.map_toArray, List.map_cons, List.map_nil]); first | done | (rw [show t251.length = t238.length from (Kd.R_reads' HO_12.out).1.symm] <;> rfl) | rfl | (simp only [List.length_drop, List.length_take]; rfl)) ?_; (with_reducible refine (laws_heldMotionS.calls kj43 _ _ t251 1 t252 _ ?side1 ?side2 A59.out).mono ?_); (case side1 => repeat (first | exact (Kd.R_reads' HO_12.out).2.2 | (with_reducible refine Kd.C_alloc ?_ _) | (with_reducible refine Kd.C_drewN ?_ _) | (with_reducible refine Kd.C_drew ?_))); (case side2 => rw [show t251.length = t238.length from (Kd.R_reads' HO_12.out).1.symm]; exact (Kd.R_reads' HO_12.out).2.1); rintro e w' ⟨rfl, ⟨nd, rfl⟩⟩; refine ⟨_, rfl, ?_⟩))
                      go_ret
                      exact ⟨by first | rfl | (simp [errW_none, errW_some] <;> rfl) | (simp [*, errW_none, errW_some] <;> rfl), by repeat (first | (with_reducible first | exact HB.out | apply below_alloc | apply pw_below_drewN | apply below_drew1 | refine below_set ?_ GE208.out | refine below_set ?_ GE209.out) | exact HB.out)⟩
          · replace c42 := Bool.eq_false_iff.mpr c42
            subst c42
            have H1 : (some false) = some r := by rw [if_neg (show ¬ (false = true) by decide)] at H; exact H
            clear H
            have H := H1
            clear H1
            obtain rfl := Option.some.inj H
            go_wp2_with (first | ((with_reducible refine gate_callee (f := 15) rfl ?_); refine goesL_ (some 56) rfl rfl Try.func15 (by kernel_rfl) rfl #[.slice A2 l2.length c2] rfl (by (try simp only [List.map_toArray, List.map_cons, List.map_nil]); first | done | rfl | (simp only [List.length_drop, List.length_take]; rfl)) ?_; (with_reducible refine (laws_toFloat64S.calls kj15 _ _ l2 t243 _ ?side1 ?side2 A40.out).mono ?_); (case side1 => repeat (first | exact (Kd.C_below HR2.out HB.out) | (with_reducible refine Kd.C_alloc ?_ _) | (with_reducible refine Kd.C_drewN ?_ _) | (with_reducible refine Kd.C_drew ?_))); (case side2 => exact HC2.out); rintro e w91 ⟨v244, rfl, ho0, hb⟩; refine ⟨_, rfl, ?_⟩; have n0_ := Aside0.mk (Kd.R_below (by (with_reducible repeat (first | apply Kd.R_alloc | apply Kd.R_drewN | apply Kd.R_drew)); exact HO_9.out) hb); have n1_ := Aside0.mk (Kd.R_elder' (by (with_reducible repeat (first | apply Kd.R_alloc | apply Kd.R_drewN | apply Kd.R_drew)); exact HO_11.out) (Kd.R_base ho0) hb); have n2_ := Aside0.mk (Kd.R_below (by (with_reducible repeat (first | apply Kd.R_alloc | apply Kd.R_drewN | apply Kd.R_drew)); exact HO_12.out) hb); have n3_ := Aside0.mk (Kd.R_lower (Kd.R_new' ho0 (Kd.R_lt (by (with_reducible repeat (first | apply Kd.R_alloc | apply Kd.R_drewN | apply Kd.R_drew)); exact HO_11.out))) (below_size (by repeat (first | (with_reducible first | exact HB.out | apply below_alloc | apply pw_below_drewN | apply below_drew1 | refine below_set ?_ GE208.out | refine below_set ?_ GE209.out) | exact HB.out)))); have n4_ := Aside0.mk (blk_below (g := gb208) (o := .cells #[.float .f64 b_a0_0, .float .f64 b_a0_1, .float .f64 b_a0_2, .float .f64 b_a0_3] 60 (0, 0)) (by (with_reducible repeat (first | refine blk_drewN ?_ _ | refine blk_drew ?_ | refine blk_alloc ?_ _)); exact BK208.out) hb); have n5_ := Aside0.mk (blk_below (g := gb209) (o := .cells #[.float .f64 b_a1_0, .float .f64 b_a1_1, .float .f64 b_a1_2, .float .f64 b_a1_3, .float .f64 b_a1_4] 62 (0, 0)) (by (with_reducible repeat (first | refine blk_drewN ?_ _ | refine blk_drew ?_ | refine blk_alloc ?_ _)); exact BK209.out) hb); have n6_ := Aside0.mk (below_step (by repeat (first | (with_reducible first | exact HB.out | apply below_alloc | apply pw_below_drewN | apply below_drew1 | refine below_set ?_ GE208.out | refine below_set ?_ GE209.out) | exact HB.out)) hb); clear HO_9; clear HO_11; clear HO_12; clear BK208; clear BK209; clear HB; have HO_9 := n0_; have HO_11 := n1_; have HO_12 := n2_; have HO245 := n3_; have BK208 := n4_; have BK209 := n5_; have HB := n6_; clear n0_ n1_ n2_ n3_ n4_ n5_ n6_; (try clear hb); (try clear hb2); (try clear hk); (try clear hi); (try clear ho0); obtain ⟨Ao92, co92, eo92⟩ := Kd.R_slice HO245.out; subst eo92) | ((with_reducible refine gate_callee (f := 18) rfl ?_); refine goesL_ (some 57) rfl rfl Try.func18 (by kernel_rfl) rfl #[.slice Ao29 t226.length co29, .slice Ao92 t243.length co92] rfl (by (try simp only [List.map_toArray, List.map_cons, List.map_nil]); first | done | rfl | (simp only [List.length_drop, List.length_take]; rfl)) ?_; (with_reducible refine (laws_eqFloat64S.calls kj15 _ _ t226 _ _ t243 false _ ?side1 ?side2 ?side3 ?side4 A41.out).mono ?_); (case side1 => repeat (first | exact (Kd.R_reads' HO_11.out).2.2 | (with_reducible refine Kd.C_alloc ?_ _) | (with_reducible refine Kd.C_drewN ?_ _) | (with_reducible refine Kd.C_drew ?_))); (case side2 => exact (Kd.R_reads' HO_11.out).2.1); (case side3 => repeat (first | exact (Kd.R_reads' HO245.out).2.2 | (with_reducible refine Kd.C_alloc ?_ _) | (with_reducible refine Kd.C_drewN ?_ _) | (with_reducible refine Kd.C_drew ?_))); (case side4 => exact (Kd.R_reads' HO245.out).2.1); rintro e w' ⟨rfl, ⟨nd, rfl⟩⟩; refine ⟨_, rfl, ?_⟩))
            go_ret
            exact ⟨by first | rfl | (simp [errW_none, errW_some] <;> rfl) | (simp [*, errW_none, errW_some] <;> rfl), by repeat (first | (with_reducible first | exact HB.out | apply below_alloc | apply pw_below_drewN | apply below_drew1 | refine below_set ?_ GE208.out | refine below_set ?_ GE209.out) | exact HB.out)⟩

end Go.Proofs.Ytfopdbdamkfglaa.QFnExactFly
