/- Lean functions that tell what the Go functions used by one law answer, and for each a proof that the Go code comes to just these answers; no condition. Printed by this session's own program over the kit's printer. -/
import Derived.Test.YtkginilghcepbaaWSq
import Derived.Test.YtkginilghcepbaaQFnGridx0
import Derived.Test.YtkginilghcepbaaQFnGridx1
import Derived.Test.YtkginilghcepbaaQFnGridx3
namespace Go.Proofs.Ytkginilghcepbaa.QFnGrid
open Go.RowKit Go.Proofs.YtkginilghcepbaaW.PrintWords Go.Proofs.YtkginilghcepbaaW.PrintLast Go.Proofs.YtkginilghcepbaaW.PrintMore
attribute [local go_sem] max2_int min2_int max_two min_two max_three min_three max_four min_four   -- for this text's walks alone
attribute [local go_sem high] go_eql go_neq go_lss go_leq go_gtr go_geq go_store   -- for this text's walks alone
set_option linter.unusedVariables false
set_option linter.unusedSimpArgs false

/-! ### laws_FnGrid: function 5 -/
mutual
def laws_FnGrid.l0 : Nat → List Int → Int → List Int → List Int → List (List Int) → List Int → List Int → List (List Int) → Option (Bool)
 | 0, _, _, _, _, _, _, _, _ => none
 | k + 1, x0, x5, g6, g7, g3, h6, h7, h4 => if x5 < 3 then ((laws_at.f x0 (wrap64 ((wrap64 (2 * x5)) + 1))).bind fun o0 => ((laws_at.f x0 (wrap64 ((wrap64 (2 * x5)) + 2))).bind fun o1 => (if g3.length < 5864062014805 then (if h4.length < 5864062014805 then (laws_FnGrid.l0 k x0 (wrap64 (x5 + 1)) g6 g7 (g3 ++ [(([wrap64 (o0 - 128), wrap64 (o1 - 128)] : List Int))]) h6 h7 (h4 ++ [(([7, 7] : List Int))])) else (none)) else (none)))) else (laws_FnGrid.l1 k x0 0 g6 g7 g3 h6 h7 h4)
def laws_FnGrid.l1 : Nat → List Int → Int → List Int → List Int → List (List Int) → List Int → List Int → List (List Int) → Option (Bool)
 | 0, _, _, _, _, _, _, _, _ => none
 | k + 1, x0, x6, g6, g7, g3, h6, h7, h4 => if x6 < 3 then (laws_FnGrid.l2 k x0 x6 0 g6 g7 g3 h6 h7 h4) else ((laws_at.f x0 9).bind fun m4 => ((laws_at.f x0 10).bind fun l9 => ((impl_AtGrid.f k h6 h7 h4 (Int.tmod m4 4) (wrap64 ((Int.tmod l9 12) - 2))).bind fun s9 => ((impl_AtGrid.f k g6 g7 g3 (-1) 0).bind fun F0 => (if s9.2.2 = true then (if s9.1 = 7 then (if s9.2.1 = 1 then (if F0.2.2 = true then (laws_FnGrid.j4 k false) else ((impl_GridOk.f k g6 g7 g3).bind fun B5 => (laws_FnGrid.j4 k B5))) else (laws_FnGrid.j4 k false)) else (laws_FnGrid.j4 k false)) else (laws_FnGrid.j4 k false))))))
def laws_FnGrid.l2 : Nat → List Int → Int → Int → List Int → List Int → List (List Int) → List Int → List Int → List (List Int) → Option (Bool)
 | 0, _, _, _, _, _, _, _, _, _ => none
 | k + 1, x0, x6, x7, g6, g7, g3, h6, h7, h4 => if x7 < 2 then (if 0 ≤ x7 then (if x7 < (g6.length : Int) then (if 0 ≤ x6 then (if x6 < (g7.length : Int) then ((impl_AtGrid.f k g6 g7 g3 (rd g6 x7) (rd g7 x6)).bind fun t0 => (if t0.2.2 = true then (if t0.2.1 = 1 then (if x6 < (g3.length : Int) then (if x7 < ((rd_L2 g3 x6).length : Int) then (laws_FnGrid.j3 k x0 x6 x7 (t0.1 != (rd (rd_L2 g3 x6) x7)) g6 g7 g3 h6 h7 h4) else (none)) else (none)) else (laws_FnGrid.j3 k x0 x6 x7 true g6 g7 g3 h6 h7 h4)) else (laws_FnGrid.j3 k x0 x6 x7 true g6 g7 g3 h6 h7 h4))) else (none)) else (none)) else (none)) else (none)) else (laws_FnGrid.l1 k x0 (wrap64 (x6 + 1)) g6 g7 g3 h6 h7 h4)
def laws_FnGrid.j3 : Nat → List Int → Int → Int → Bool → List Int → List Int → List (List Int) → List Int → List Int → List (List Int) → Option (Bool)
 | 0, _, _, _, _, _, _, _, _, _, _ => none
 | k + 1, x0, x6, x7, x98, g6, g7, g3, h6, h7, h4 => if x98 = true then (some false) else (laws_FnGrid.l2 k x0 x6 (wrap64 (x7 + 1)) g6 g7 g3 h6 h7 h4)
def laws_FnGrid.j4 : Nat → Bool → Option (Bool)
 | 0, _ => none
 | k + 1, x2 => some x2
end
def laws_FnGrid.f (k : Nat) (l0 : List Int) : Option (Bool) := (laws_big.f l0).bind fun t1 => (if t1 = true then (some true) else ((laws_at.f l0 0).bind fun n3 => ((some (([0, wrap64 (3 + (Int.tmod n3 5))] : List Int) : List Int)).bind fun a7 => ((some (([(-2), 4, 9] : List Int) : List Int)).bind fun a8 => (laws_FnGrid.l0 k l0 0 a7 a8 ([] : List (List Int)) a7 a8 ([] : List (List Int)))))))
theorem laws_FnGrid.mono_l : ∀ k, (∀ y0 y1 y2 y3 y4 y5 y6 y7, LeO (laws_FnGrid.l0 k y0 y1 y2 y3 y4 y5 y6 y7) (laws_FnGrid.l0 (k + 1) y0 y1 y2 y3 y4 y5 y6 y7)) ∧ (∀ y0 y1 y2 y3 y4 y5 y6 y7, LeO (laws_FnGrid.l1 k y0 y1 y2 y3 y4 y5 y6 y7) (laws_FnGrid.l1 (k + 1) y0 y1 y2 y3 y4 y5 y6 y7)) ∧ (∀ y0 y1 y2 y3 y4 y5 y6 y7 y8, LeO (laws_FnGrid.l2 k y0 y1 y2 y3 y4 y5 y6 y7 y8) (laws_FnGrid.l2 (k + 1) y0 y1 y2 y3 y4 y5 y6 y7 y8)) ∧ (∀ y0 y1 y2 y3 y4 y5 y6 y7 y8 y9, LeO (laws_FnGrid.j3 k y0 y1 y2 y3 y4 y5 y6 y7 y8 y9) (laws_FnGrid.j3 (k + 1) y0 y1 y2 y3 y4 y5 y6 y7 y8 y9)) ∧ (∀ y0, LeO (laws_FnGrid.j4 k y0) (laws_FnGrid.j4 (k + 1) y0))
 | 0 => ⟨fun _ _ _ _ _ _ _ _ r h => by simp [laws_FnGrid.l0] at h, fun _ _ _ _ _ _ _ _ r h => by simp [laws_FnGrid.l1] at h, fun _ _ _ _ _ _ _ _ _ r h => by simp [laws_FnGrid.l2] at h, fun _ _ _ _ _ _ _ _ _ _ r h => by simp [laws_FnGrid.j3] at h, fun _ r h => by simp [laws_FnGrid.j4] at h⟩
 | k + 1 => by
  obtain ⟨q8, q9, s0, s1, s2⟩ := laws_FnGrid.mono_l k
  refine ⟨?_, ?_, ?_, ?_, ?_⟩
  ·intro y0 y1 y2 y3 y4 y5 y6 y7
   unfold laws_FnGrid.l0
   repeat' first
   | (with_reducible exact q8 _ _ _ _ _ _ _ _)
   | (with_reducible exact q9 _ _ _ _ _ _ _ _)
   | (with_reducible exact s0 _ _ _ _ _ _ _ _ _)
   | (with_reducible exact s1 _ _ _ _ _ _ _ _ _ _)
   | (with_reducible exact s2 _)
   | (with_reducible exact impl_AtGrid.mono _ _ _ _ _ _)
   | (with_reducible exact impl_GridOk.mono _ _ _ _)
   | (with_reducible exact LeO.refl _)
   | (with_reducible exact LeO.none _)
   | (with_reducible refine LeO.ite ?_ ?_)
   | (with_reducible refine LeO.bind ?_ (fun _ => ?_))
   | exact q8 _ _ _ _ _ _ _ _
   | exact q9 _ _ _ _ _ _ _ _
   | exact s0 _ _ _ _ _ _ _ _ _
   | exact s1 _ _ _ _ _ _ _ _ _ _
   | exact s2 _
   | exact impl_AtGrid.mono _ _ _ _ _ _
   | exact impl_GridOk.mono _ _ _ _
   | exact LeO.none _
   | refine LeO.ite ?_ ?_
   | refine LeO.bind ?_ (fun _ => ?_)
  ·intro y0 y1 y2 y3 y4 y5 y6 y7
   unfold laws_FnGrid.l1
   repeat' first
   | (with_reducible exact q8 _ _ _ _ _ _ _ _)
   | (with_reducible exact q9 _ _ _ _ _ _ _ _)
   | (with_reducible exact s0 _ _ _ _ _ _ _ _ _)
   | (with_reducible exact s1 _ _ _ _ _ _ _ _ _ _)
   | (with_reducible exact s2 _)
   | (with_reducible exact impl_AtGrid.mono _ _ _ _ _ _)
   | (with_reducible exact impl_GridOk.mono _ _ _ _)
   | (with_reducible exact LeO.refl _)
   | (with_reducible exact LeO.none _)
   | (with_reducible refine LeO.ite ?_ ?_)
   | (with_reducible refine LeO.bind ?_ (fun _ => ?_))
   | exact q8 _ _ _ _ _ _ _ _
   | exact q9 _ _ _ _ _ _ _ _
   | exact s0 _ _ _ _ _ _ _ _ _
   | exact s1 _ _ _ _ _ _ _ _ _ _
   | exact s2 _
   | exact impl_AtGrid.mono _ _ _ _ _ _
   | exact impl_GridOk.mono _ _ _ _
   | exact LeO.none _
   | refine LeO.ite ?_ ?_
   | refine LeO.bind ?_ (fun _ => ?_)
  ·intro y0 y1 y2 y3 y4 y5 y6 y7 y8
   unfold laws_FnGrid.l2
   repeat' first
   | (with_reducible exact q8 _ _ _ _ _ _ _ _)
   | (with_reducible exact q9 _ _ _ _ _ _ _ _)
   | (with_reducible exact s0 _ _ _ _ _ _ _ _ _)
   | (with_reducible exact s1 _ _ _ _ _ _ _ _ _ _)
   | (with_reducible exact s2 _)
   | (with_reducible exact impl_AtGrid.mono _ _ _ _ _ _)
   | (with_reducible exact impl_GridOk.mono _ _ _ _)
   | (with_reducible exact LeO.refl _)
   | (with_reducible exact LeO.none _)
   | (with_reducible refine LeO.ite ?_ ?_)
   | (with_reducible refine LeO.bind ?_ (fun _ => ?_))
   | exact q8 _ _ _ _ _ _ _ _
   | exact q9 _ _ _ _ _ _ _ _
   | exact s0 _ _ _ _ _ _ _ _ _
   | exact s1 _ _ _ _ _ _ _ _ _ _
   | exact s2 _
   | exact impl_AtGrid.mono _ _ _ _ _ _
   | exact impl_GridOk.mono _ _ _ _
   | exact LeO.none _
   | refine LeO.ite ?_ ?_
   | refine LeO.bind ?_ (fun _ => ?_)
  ·intro y0 y1 y2 y3 y4 y5 y6 y7 y8 y9
   unfold laws_FnGrid.j3
   repeat' first
   | (with_reducible exact q8 _ _ _ _ _ _ _ _)
   | (with_reducible exact q9 _ _ _ _ _ _ _ _)
   | (with_reducible exact s0 _ _ _ _ _ _ _ _ _)
   | (with_reducible exact s1 _ _ _ _ _ _ _ _ _ _)
   | (with_reducible exact s2 _)
   | (with_reducible exact impl_AtGrid.mono _ _ _ _ _ _)
   | (with_reducible exact impl_GridOk.mono _ _ _ _)
   | (with_reducible exact LeO.refl _)
   | (with_reducible exact LeO.none _)
   | (with_reducible refine LeO.ite ?_ ?_)
   | (with_reducible refine LeO.bind ?_ (fun _ => ?_))
   | exact q8 _ _ _ _ _ _ _ _
   | exact q9 _ _ _ _ _ _ _ _
   | exact s0 _ _ _ _ _ _ _ _ _
   | exact s1 _ _ _ _ _ _ _ _ _ _
   | exact s2 _
   | exact impl_AtGrid.mono _ _ _ _ _ _
   | exact impl_GridOk.mono _ _ _ _
   | exact LeO.none _
   | refine LeO.ite ?_ ?_
   | refine LeO.bind ?_ (fun _ => ?_)
  ·intro y0
   unfold laws_FnGrid.j4
   repeat' first
   | (with_reducible exact q8 _ _ _ _ _ _ _ _)
   | (with_reducible exact q9 _ _ _ _ _ _ _ _)
   | (with_reducible exact s0 _ _ _ _ _ _ _ _ _)
   | (with_reducible exact s1 _ _ _ _ _ _ _ _ _ _)
   | (with_reducible exact s2 _)
   | (with_reducible exact impl_AtGrid.mono _ _ _ _ _ _)
   | (with_reducible exact impl_GridOk.mono _ _ _ _)
   | (with_reducible exact LeO.refl _)
   | (with_reducible exact LeO.none _)
   | (with_reducible refine LeO.ite ?_ ?_)
   | (with_reducible refine LeO.bind ?_ (fun _ => ?_))
   | exact q8 _ _ _ _ _ _ _ _
   | exact q9 _ _ _ _ _ _ _ _
   | exact s0 _ _ _ _ _ _ _ _ _
   | exact s1 _ _ _ _ _ _ _ _ _ _
   | exact s2 _
   | exact impl_AtGrid.mono _ _ _ _ _ _
   | exact impl_GridOk.mono _ _ _ _
   | exact LeO.none _
   | refine LeO.ite ?_ ?_
   | refine LeO.bind ?_ (fun _ => ?_)
theorem laws_FnGrid.mono : ∀ a0 k, LeO (laws_FnGrid.f k a0) (laws_FnGrid.f (k + 1) a0) := by
 intro a0 k
 obtain ⟨q8, q9, s0, s1, s2⟩ := laws_FnGrid.mono_l k
 unfold laws_FnGrid.f
 repeat' first
   | (with_reducible exact q8 _ _ _ _ _ _ _ _)
   | (with_reducible exact q9 _ _ _ _ _ _ _ _)
   | (with_reducible exact s0 _ _ _ _ _ _ _ _ _)
   | (with_reducible exact s1 _ _ _ _ _ _ _ _ _ _)
   | (with_reducible exact s2 _)
   | (with_reducible exact impl_AtGrid.mono _ _ _ _ _ _)
   | (with_reducible exact impl_GridOk.mono _ _ _ _)
   | (with_reducible exact LeO.refl _)
   | (with_reducible exact LeO.none _)
   | (with_reducible refine LeO.ite ?_ ?_)
   | (with_reducible refine LeO.bind ?_ (fun _ => ?_))
   | exact q8 _ _ _ _ _ _ _ _
   | exact q9 _ _ _ _ _ _ _ _
   | exact s0 _ _ _ _ _ _ _ _ _
   | exact s1 _ _ _ _ _ _ _ _ _ _
   | exact s2 _
   | exact impl_AtGrid.mono _ _ _ _ _ _
   | exact impl_GridOk.mono _ _ _ _
   | exact LeO.none _
   | refine LeO.ite ?_ ?_
   | refine LeO.bind ?_ (fun _ => ?_)
def laws_FnGrid.T8 : Bool × List (List Nat × List Nat) := (true, [([], []), ([0], [0]), ([], []), ([], []), ([3], [3]), ([4], [4]), ([2, 5], [2, 5]), ([6], [6]), ([], []), ([], []), ([9], [9]), ([10], [10]), ([8, 11, 6], [8, 11]), ([12], [12]), ([7, 13], [7, 13]), ([14], [14]), ([1, 15, 12], [1, 15]), ([0, 1, 2, 3, 4, 5, 6, 7, 8, 9, 10, 11, 12, 13, 14, 15, 16], []), ([17, 16, 16, 0, 1, 2, 3, 4, 5, 6, 7, 8, 9, 10, 11, 12, 13, 14, 15, 16], [16, 17])])
def laws_FnGrid.B8 : List Nat := [0, 1, 0, 0, 8, 24, 60, 124, 0, 0, 512, 1536, 3964, 8060, 16380, 32764, 65535, 131071, 262143]
theorem laws_FnGrid.tab8 : rtab .any (opsOf Try.f5 8) = laws_FnGrid.T8 := by kernel_rfl
theorem laws_FnGrid.bits8 : waitsOk laws_FnGrid.T8.2 laws_FnGrid.B8 = true := by kernel_rfl
def laws_FnGrid.T16 : Bool × List (List Nat × List Nat) := (true, [([], []), ([], []), ([1], [1]), ([], []), ([2, 3], [2, 3]), ([4], [4]), ([], []), ([6], [6]), ([], []), ([7, 8], [7, 8]), ([9], [9]), ([0, 5, 10], [0, 5, 10]), ([11], [11]), ([12], [12]), ([12], [12]), ([], []), ([15, 13, 11, 0, 1, 2, 3, 4, 5, 6, 7, 8, 9, 10, 11, 12, 13, 15], [13, 15]), ([14, 16, 0, 1, 2, 3, 4, 5, 6, 7, 8, 9, 10, 11, 12, 13, 14, 15, 16], [14])])
def laws_FnGrid.B16 : List Nat := [0, 0, 2, 0, 14, 30, 0, 64, 0, 448, 960, 2047, 4095, 8191, 8191, 0, 49151, 131071]
theorem laws_FnGrid.tab16 : rtab .any (opsOf Try.f5 16) = laws_FnGrid.T16 := by kernel_rfl
theorem laws_FnGrid.bits16 : waitsOk laws_FnGrid.T16.2 laws_FnGrid.B16 = true := by kernel_rfl
def laws_FnGrid.T17 : Bool × List (List Nat × List Nat) := (true, [([], []), ([0], [0]), ([1], [1]), ([2], [2]), ([3, 2], [2, 3]), ([4, 2], [2, 4]), ([2, 5], [2, 5]), ([6, 2], [6]), ([7], [7]), ([8, 7], [7, 8]), ([7], [7]), ([10, 7], [7, 10]), ([7], [7]), ([11, 12, 7], [7, 11, 12]), ([13, 7], [7, 13]), ([7], [7]), ([14, 15, 7], [7, 14, 15]), ([16, 7], [7, 16]), ([9, 17, 7], [7, 9, 17]), ([7, 18], [7, 18])])
def laws_FnGrid.B17 : List Nat := [0, 1, 3, 7, 15, 31, 63, 127, 255, 511, 255, 1279, 255, 7423, 15615, 255, 64767, 130303, 262143, 524287]
theorem laws_FnGrid.tab17 : rtab .any (opsOf Try.f5 17) = laws_FnGrid.T17 := by kernel_rfl
theorem laws_FnGrid.bits17 : waitsOk laws_FnGrid.T17.2 laws_FnGrid.B17 = true := by kernel_rfl
def laws_FnGrid.T19 : Bool × List (List Nat × List Nat) := (true, [([], []), ([], []), ([1], [1]), ([2], [2]), ([], []), ([4, 2], [4]), ([5], [5]), ([6], [6]), ([0, 3, 7, 5], [0, 3, 7]), ([8], [8]), ([9], [9]), ([9], [9]), ([], []), ([12, 10, 8, 0, 1, 2, 3, 4, 5, 6, 7, 8, 9, 10, 12], [10, 12]), ([11, 13, 0, 1, 2, 3, 4, 5, 6, 7, 8, 9, 10, 11, 12, 13], [11])])
def laws_FnGrid.B19 : List Nat := [0, 0, 2, 6, 0, 22, 54, 118, 255, 511, 1023, 1023, 0, 6143, 16383]
theorem laws_FnGrid.tab19 : rtab .any (opsOf Try.f5 19) = laws_FnGrid.T19 := by kernel_rfl
theorem laws_FnGrid.bits19 : waitsOk laws_FnGrid.T19.2 laws_FnGrid.B19 = true := by kernel_rfl
set_option maxHeartbeats 8000000 in
set_option maxRecDepth 100000 in
theorem laws_FnGrid.calls (k : Nat) (A0 : Option Addr) (c0 : Nat) (l0 : List Int) (r : Bool) (w : World) (hr0 : Kd.C (Kd.int .u8) w A0 l0.length l0) (hc0 : l0.length ≤ c0) (h : laws_FnGrid.f k l0 = some r) :
  Calls Try.prog 5 #[.slice A0 l0.length c0] w fun e w' => e = .returned (.bool r) ∧ Below w.heap.size w w' := by
 have ac6 := Try.underlying50
 have ac7 := Try.underlying26
 have B3 := mk_ hr0; have B4 := mk_ hc0; clear hr0 hc0; have HB := mk_ (Below.refl w.heap.size w)
 have H : ((laws_big.f l0).bind fun t1 => (if t1 = true then (some true) else ((laws_at.f l0 0).bind fun n3 => ((some (([0, wrap64 (3 + (Int.tmod n3 5))] : List Int) : List Int)).bind fun a7 => ((some (([(-2), 4, 9] : List Int) : List Int)).bind fun a8 => (laws_FnGrid.l0 k l0 0 a7 a8 ([] : List (List Int)) a7 a8 ([] : List (List Int)))))))) = some r := h
 clear h; replace H := Option.bind_eq_some_iff.mp H; obtain ⟨t1, Y0, H⟩ := H; (try dsimp only at H); have A2 := mk_ Y0; clear Y0; by_cases c3 : t1 = true
 ·subst c3; rw [if_pos rfl] at H
  obtain rfl := Option.some.inj H
  go_enter Try.func5, Try.ntmps5
  go_wp2_with (first | ((with_reducible refine gc_ 23 rfl ?_); refine gl_ (some 15) rfl Try.func23 #[.slice A0 l0.length c0] ?_; (with_reducible refine (laws_big.calls _ _ l0 true _ ?d8 ?d9 A2.out).mono ?_); (case d8 => exact cw_ B3.out); (case d9 => exact B4.out); rintro e w' ⟨rfl, ⟨nd, rfl⟩⟩; refine ⟨_, rfl, ?_⟩))
  go_ret
  exact ⟨re_, hw_ HB⟩
 ·replace c3 := Bool.eq_false_iff.mpr c3; subst c3; rw [if_neg (show ¬ (false = true) by decide)] at H; replace H := Option.bind_eq_some_iff.mp H; obtain ⟨n3, Y1, H⟩ := H; (try dsimp only at H); have A4 := mk_ Y1; clear Y1
  obtain ⟨a7, o2⟩ : ∃ y_ : List Int, y_ = (([0, wrap64 (3 + (Int.tmod n3 5))] : List Int)) := ⟨_, rfl⟩
  replace H : ((some (([(-2), 4, 9] : List Int) : List Int)).bind fun a8 => (laws_FnGrid.l0 k l0 0 a7 a8 ([] : List (List Int)) a7 a8 ([] : List (List Int)))) = some r := by first | (rw [o2]; with_reducible exact H) | (have H2_ := (Option.bind_some _ _).symm.trans H; rw [o2]; with_reducible exact H2_) | (have H2_ := (Option.bind_some _ _).symm.trans H; with_reducible exact H2_) | with_reducible exact H | (rw [o2]; exact H) | exact H
  have C0 := mk_ o2; clear o2
  obtain ⟨a8, o3⟩ : ∃ y_ : List Int, y_ = (([(-2), 4, 9] : List Int)) := ⟨_, rfl⟩
  replace H : (laws_FnGrid.l0 k l0 0 a7 a8 ([] : List (List Int)) a7 a8 ([] : List (List Int))) = some r := by first | (rw [o3]; with_reducible exact H) | (have H2_ := (Option.bind_some _ _).symm.trans H; rw [o3]; with_reducible exact H2_) | (have H2_ := (Option.bind_some _ _).symm.trans H; with_reducible exact H2_) | with_reducible exact H | (rw [o3]; exact H) | exact H
  have C1 := mk_ o3; clear o3
  have H' := mk_ H
  clear H
  go_enter Try.func5, Try.ntmps5
  go_wp2_with (first | ((with_reducible refine gc_ 23 rfl ?_); refine gl_ (some 15) rfl Try.func23 #[.slice A0 l0.length c0] ?_; (with_reducible refine (laws_big.calls _ _ l0 false _ ?d8 ?d9 A2.out).mono ?_); (case d8 => exact cw_ B3.out); (case d9 => exact B4.out); rintro e w' ⟨rfl, ⟨nd, rfl⟩⟩; refine ⟨_, rfl, ?_⟩) | ((with_reducible refine gc_ 24 rfl ?_); refine gl_ (some 17) rfl Try.func24 #[.slice A0 l0.length c0, .int .i64 0] ?_; (with_reducible refine (laws_at.calls _ _ l0 0 n3 _ ?d8 ?d9 A4.out).mono ?_); (case d8 => exact cw_ B3.out); (case d9 => exact B4.out); rintro e w' ⟨rfl, ⟨nd, rfl⟩⟩; refine ⟨_, rfl, ?_⟩) | ((with_reducible refine gd_ 20 rfl ?_); refine Kd.R_lit (Kd.int .i64) _ 3 ?hg (N := 20) ?hd (xs := ([0, wrap64 (3 + (Int.tmod n3 5))] : List Int)) (inner := [.int .i64 0, .int .i64 (wrap64 (3 + (Int.tmod n3 5)))]) (ok := fun _ => True) (okp := fun _ => True) ?hr ?hp (fun _ hk => hk) trivial (Below.refl _ _) (Nat.le_refl _) (by simp) ?_; (case hd => rfl); (case hg => rfl); (case hr => exact hr_); (case hp => exact (Reps.one (show Kd.M (Kd.int .i64) _ _ _ 0 [.int .i64 0] from rfl) (Reps.one (show Kd.M (Kd.int .i64) _ _ _ (wrap64 (3 + (Int.tmod n3 5))) [.int .i64 (wrap64 (3 + (Int.tmod n3 5)))] from rfl) (Reps.none _ _)))); intro v154 w5 F1 hb hg_ hnew_; clear hg_ hnew_; (first | rw [← C0.out] at F1 | (simp only [Int.reduceToNat] at F1; rw [← C0.out] at F1)); have m2 := mk_ (Kd.R_lower F1 (below_size (hw_ HB))); replace HB := hk_ HB hb; clear hb F1) | ((with_reducible refine gd_ 21 rfl ?_); refine Kd.R_lit (Kd.int .i64) _ 3 ?hg (N := 21) ?hd (xs := ([(-2), 4, 9] : List Int)) (inner := [.int .i64 (-2), .int .i64 4, .int .i64 9]) (ok := fun _ => True) (okp := fun _ => True) ?hr ?hp (fun _ hk => hk) trivial (Below.refl _ _) (Nat.le_refl _) (by simp) ?_; (case hd => rfl); (case hg => rfl); (case hr => exact hr_); (case hp => exact (Reps.one (show Kd.M (Kd.int .i64) _ _ _ (-2) [.int .i64 (-2)] from rfl) (Reps.one (show Kd.M (Kd.int .i64) _ _ _ 4 [.int .i64 4] from rfl) (Reps.one (show Kd.M (Kd.int .i64) _ _ _ 9 [.int .i64 9] from rfl) (Reps.none _ _))))); intro v157 w7 E8 hb hg_ hnew_; clear hg_ hnew_; (first | rw [← C1.out] at E8 | (simp only [Int.reduceToNat] at E8; rw [← C1.out] at E8)); have m9 := mk_ (Kd.R_lower (Kd.R_new' E8 (Kd.R_lt (by exact m2.out))) (below_size (by exact HB.out))); replace m2 := mk_ (Kd.R_elder' (by exact m2.out) (Kd.R_base E8) hb); replace HB := bp_ HB hb; clear hb E8; obtain ⟨d2, b9, eo9⟩ := Kd.R_slice m9.out; subst eo9; obtain ⟨b5, b2, V4⟩ := Kd.R_slice m2.out; subst V4) | ((with_reducible refine gd_ 3 rfl ?_); refine box_event ?hg (N := 3) ?hd (cs := #[.slice none 0 0, .slice none 0 0, .slice none 0 0]) (t := 50) ?hr ?_; (case hd => rfl); (case hg => rfl); (case hr => exact hr_); intro c4 hg w11 hbox hb; replace m2 := rb_ m2 hb; replace m9 := rb_ m9 hb; have a9 := mk_ (hbox); have F2 := gb_ hg HB; replace HB := bp_ HB hb; have p8 := F2; clear hb hbox hg; have J4 := bc0_ a9; have J5 := bc1_ a9; have J6 := bc2_ a9; have J7 := bf_ a9 0; have J8 := bf_ a9 1; have J9 := bf_ a9 2) | ((with_reducible refine gd_ 4 rfl ?_); refine box_event ?hg (N := 4) ?hd (cs := #[.slice none 0 0, .slice none 0 0, .slice none 0 0]) (t := 50) ?hr ?_; (case hd => rfl); (case hg => rfl); (case hr => exact hr_); intro c6 hg w13 hbox hb; replace m2 := mk_ (Kd.R_below (by (with_reducible repeat (first | apply Kd.R_alloc | apply Kd.R_drewN | apply Kd.R_drew)); exact (Kd.R_mono (Kd.R_far (p := ⟨c4, 2, none⟩) (Kd.R_far (p := ⟨c4, 1, none⟩) (Kd.R_far (p := ⟨c4, 0, none⟩) (Kd.R_types m2.out a9.out (by decide)) (fun _ hk => hk.2) (.slice b5 a7.length b2)) (fun _ hk => hk.2) (.slice d2 a8.length b9)) (fun _ hk => hk.2) (.slice none 0 0)) (fun _ h_ => h_.1))) hb); replace m9 := mk_ (Kd.R_below (by (with_reducible repeat (first | apply Kd.R_alloc | apply Kd.R_drewN | apply Kd.R_drew)); exact (Kd.R_mono (Kd.R_far (p := ⟨c4, 2, none⟩) (Kd.R_far (p := ⟨c4, 1, none⟩) (Kd.R_far (p := ⟨c4, 0, none⟩) (Kd.R_types m9.out a9.out (by decide)) (fun _ hk => hk.2) (.slice b5 a7.length b2)) (fun _ hk => hk.2) (.slice d2 a8.length b9)) (fun _ hk => hk.2) (.slice none 0 0)) (fun _ h_ => h_.1))) hb); have b0 := mk_ (hbox); have F3 := mk_ ((by rw [hg]; exact (below_size (by repeat (first | (with_reducible first | exact HB.out | apply below_alloc | apply pw_below_drewN | apply below_drew1 | refine below_set ?_ p8.out) | exact HB.out))) : w.heap.size ≤ c6)); replace HB := mk_ (below_step (by repeat (first | (with_reducible first | exact HB.out | apply below_alloc | apply pw_below_drewN | apply below_drew1 | refine below_set ?_ p8.out) | exact HB.out)) hb); have C2 := F3; have g9 := mk_ ((by rw [hg]; exact Nat.ne_of_lt (blk_lt (g := c4) (o := .cells #[.slice b5 a7.length b2, .slice d2 a8.length b9, .slice none 0 0] 50 (0, 0)) (by (with_reducible repeat (first | refine blk_drewN ?_ _ | refine blk_drew ?_ | refine blk_alloc ?_ _)); refine blk_put (cs := #[.slice b5 a7.length b2, .slice d2 a8.length b9, .slice none 0 0]) ?_ 2 _ rfl; (with_reducible repeat (first | refine blk_drewN ?_ _ | refine blk_drew ?_ | refine blk_alloc ?_ _)); refine blk_put (cs := #[.slice b5 a7.length b2, .slice none 0 0, .slice none 0 0]) ?_ 1 _ rfl; (with_reducible repeat (first | refine blk_drewN ?_ _ | refine blk_drew ?_ | refine blk_alloc ?_ _)); refine blk_put (cs := #[.slice none 0 0, .slice none 0 0, .slice none 0 0]) ?_ 0 _ rfl; (with_reducible repeat (first | refine blk_drewN ?_ _ | refine blk_drew ?_ | refine blk_alloc ?_ _)); exact a9.out)) : c4 ≠ c6)); replace a9 := mk_ (blk_below (g := c4) (o := .cells #[.slice b5 a7.length b2, .slice d2 a8.length b9, .slice none 0 0] 50 (0, 0)) (by (with_reducible repeat (first | refine blk_drewN ?_ _ | refine blk_drew ?_ | refine blk_alloc ?_ _)); refine blk_put (cs := #[.slice b5 a7.length b2, .slice d2 a8.length b9, .slice none 0 0]) ?_ 2 _ rfl; (with_reducible repeat (first | refine blk_drewN ?_ _ | refine blk_drew ?_ | refine blk_alloc ?_ _)); refine blk_put (cs := #[.slice b5 a7.length b2, .slice none 0 0, .slice none 0 0]) ?_ 1 _ rfl; (with_reducible repeat (first | refine blk_drewN ?_ _ | refine blk_drew ?_ | refine blk_alloc ?_ _)); refine blk_put (cs := #[.slice none 0 0, .slice none 0 0, .slice none 0 0]) ?_ 0 _ rfl; (with_reducible repeat (first | refine blk_drewN ?_ _ | refine blk_drew ?_ | refine blk_alloc ?_ _)); exact a9.out) hb); have j2 := ns_ g9; clear hb hbox hg; have Y2 := j2.out; have Y3 := g9.out; have L0 := bc0_ b0; have L1 := bc1_ b0; have L2 := bc2_ b0; have L3 := bf_ b0 0; have L4 := bf_ b0 1; have L5 := bf_ b0 2))
  go_loopg [5] k (fun kq v5 w' => ∃ (m3 : Int) (b1 : List (List Int)) (b4 : List (List Int)) (d4 : Value) (c2 : Value), v5 = .int .i64 m3 ∧ Aside0 (laws_FnGrid.l0 kq l0 m3 a7 a8 b1 a7 a8 b4 = some r) ∧ Aside0 (kq ≤ k) ∧ Aside0 (Kd.R (Kd.int .i64) 3 w' w.heap.size (fun k_ => some k_ ≠ ((.slice d2 a8.length b9) : Value).ownBlock ∧ some k_ ≠ ((.slice d2 a8.length b9) : Value).ownBlock) (.slice b5 a7.length b2) a7) ∧ Aside0 (Kd.R (Kd.int .i64) 3 w' w.heap.size (fun k_ => some k_ ≠ ((.slice b5 a7.length b2) : Value).ownBlock ∧ some k_ ≠ ((.slice b5 a7.length b2) : Value).ownBlock) (.slice d2 a8.length b9) a8) ∧ Aside0 (Kd.S (Kd.slice 3 (Kd.int .i64)) 23 w' w.heap.size (fun k_ => some k_ ≠ ((.slice b5 a7.length b2) : Value).ownBlock ∧ some k_ ≠ ((.slice d2 a8.length b9) : Value).ownBlock ∧ some k_ ≠ ((.slice b5 a7.length b2) : Value).ownBlock ∧ some k_ ≠ ((.slice d2 a8.length b9) : Value).ownBlock ∧ some k_ ≠ (c2 : Value).ownBlock) d4 b1) ∧ Aside0 (Kd.R (Kd.int .i64) 3 w' w.heap.size (fun k_ => some k_ ≠ ((.slice d2 a8.length b9) : Value).ownBlock ∧ some k_ ≠ ((.slice d2 a8.length b9) : Value).ownBlock) (.slice b5 a7.length b2) a7) ∧ Aside0 (Kd.R (Kd.int .i64) 3 w' w.heap.size (fun k_ => some k_ ≠ ((.slice b5 a7.length b2) : Value).ownBlock ∧ some k_ ≠ ((.slice b5 a7.length b2) : Value).ownBlock) (.slice d2 a8.length b9) a8) ∧ Aside0 (Kd.S (Kd.slice 3 (Kd.int .i64)) 23 w' w.heap.size (fun k_ => some k_ ≠ ((.slice b5 a7.length b2) : Value).ownBlock ∧ some k_ ≠ ((.slice d2 a8.length b9) : Value).ownBlock ∧ some k_ ≠ (d4 : Value).ownBlock ∧ some k_ ≠ ((.slice b5 a7.length b2) : Value).ownBlock ∧ some k_ ≠ ((.slice d2 a8.length b9) : Value).ownBlock) c2 b4) ∧ Aside0 (w'.heap[c4]? = some (.cells #[(.slice b5 a7.length b2), (.slice d2 a8.length b9), d4] 50 (0, 0))) ∧ Aside0 (w'.heap[c6]? = some (.cells #[(.slice b5 a7.length b2), (.slice d2 a8.length b9), c2] 50 (0, 0))) ∧ Aside0 (Below w.heap.size w w'))
  case atStart => exact ⟨(0), (([] : List (List Int))), (([] : List (List Int))), (.slice none 0 0), (.slice none 0 0), rf_, H', ⟨Nat.le_refl _⟩, ⟨by (with_reducible repeat (first | apply Kd.R_alloc | apply Kd.R_drewN | apply Kd.R_drew)); exact Kd.R_mono (Kd.R_far (p := ⟨c6, 2, none⟩) (Kd.R_far (p := ⟨c6, 1, none⟩) (Kd.R_far (p := ⟨c6, 0, none⟩) (Kd.R_types m2.out b0.out (by decide)) (fun _ hk => hk.2) (.slice b5 a7.length b2)) (fun _ hk => hk.2) (.slice d2 a8.length b9)) (fun _ hk => hk.2) (.slice none 0 0)) (fun _ hk => ⟨hk.1.2, hk.1.2⟩)⟩, ⟨by (with_reducible repeat (first | apply Kd.R_alloc | apply Kd.R_drewN | apply Kd.R_drew)); exact Kd.R_mono (Kd.R_far (p := ⟨c6, 2, none⟩) (Kd.R_far (p := ⟨c6, 1, none⟩) (Kd.R_far (p := ⟨c6, 0, none⟩) (Kd.R_types m9.out b0.out (by decide)) (fun _ hk => hk.2) (.slice b5 a7.length b2)) (fun _ hk => hk.2) (.slice d2 a8.length b9)) (fun _ hk => hk.2) (.slice none 0 0)) (fun _ hk => ⟨hk.1.2, hk.1.2⟩)⟩, ⟨by first | exact Kd.S_nil _ _ _ _ _ | exact Kd.N_nil _ _ _ _ _ | exact Kd.V_nil _ _ _ _ _ | exact Kd.Q_nil _ _ _ _ _ | exact Kd.R_nil _ _ _ _ _⟩, ⟨by (with_reducible repeat (first | apply Kd.R_alloc | apply Kd.R_drewN | apply Kd.R_drew)); exact Kd.R_mono (Kd.R_far (p := ⟨c6, 2, none⟩) (Kd.R_far (p := ⟨c6, 1, none⟩) (Kd.R_far (p := ⟨c6, 0, none⟩) (Kd.R_types m2.out b0.out (by decide)) (fun _ hk => hk.2) (.slice b5 a7.length b2)) (fun _ hk => hk.2) (.slice d2 a8.length b9)) (fun _ hk => hk.2) (.slice none 0 0)) (fun _ hk => ⟨hk.1.2, hk.1.2⟩)⟩, ⟨by (with_reducible repeat (first | apply Kd.R_alloc | apply Kd.R_drewN | apply Kd.R_drew)); exact Kd.R_mono (Kd.R_far (p := ⟨c6, 2, none⟩) (Kd.R_far (p := ⟨c6, 1, none⟩) (Kd.R_far (p := ⟨c6, 0, none⟩) (Kd.R_types m9.out b0.out (by decide)) (fun _ hk => hk.2) (.slice b5 a7.length b2)) (fun _ hk => hk.2) (.slice d2 a8.length b9)) (fun _ hk => hk.2) (.slice none 0 0)) (fun _ hk => ⟨hk.1.2, hk.1.2⟩)⟩, ⟨by first | exact Kd.S_nil _ _ _ _ _ | exact Kd.N_nil _ _ _ _ _ | exact Kd.V_nil _ _ _ _ _ | exact Kd.Q_nil _ _ _ _ _ | exact Kd.R_nil _ _ _ _ _⟩, ⟨by (with_reducible repeat (first | refine blk_drewN ?_ _ | refine blk_drew ?_ | refine blk_alloc ?_ _)); refine blk_far ?_ g9.out _; (with_reducible repeat (first | refine blk_drewN ?_ _ | refine blk_drew ?_ | refine blk_alloc ?_ _)); refine blk_far ?_ g9.out _; (with_reducible repeat (first | refine blk_drewN ?_ _ | refine blk_drew ?_ | refine blk_alloc ?_ _)); refine blk_far ?_ g9.out _; (with_reducible repeat (first | refine blk_drewN ?_ _ | refine blk_drew ?_ | refine blk_alloc ?_ _)); exact a9.out⟩, ⟨by (with_reducible repeat (first | refine blk_drewN ?_ _ | refine blk_drew ?_ | refine blk_alloc ?_ _)); refine blk_put (cs := #[.slice b5 a7.length b2, .slice d2 a8.length b9, .slice none 0 0]) ?_ 2 _ rfl; (with_reducible repeat (first | refine blk_drewN ?_ _ | refine blk_drew ?_ | refine blk_alloc ?_ _)); refine blk_put (cs := #[.slice b5 a7.length b2, .slice none 0 0, .slice none 0 0]) ?_ 1 _ rfl; (with_reducible repeat (first | refine blk_drewN ?_ _ | refine blk_drew ?_ | refine blk_alloc ?_ _)); refine blk_put (cs := #[.slice none 0 0, .slice none 0 0, .slice none 0 0]) ?_ 0 _ rfl; (with_reducible repeat (first | refine blk_drewN ?_ _ | refine blk_drew ?_ | refine blk_alloc ?_ _)); exact b0.out⟩, ⟨by repeat (first | (with_reducible first | exact HB.out | apply below_alloc | apply pw_below_drewN | apply below_drew1 | refine below_set ?_ C2.out) | exact HB.out)⟩⟩
  case round => as_aux_lemma =>
   clear H'; (try clear c3)
   obtain ⟨m3, b1, b4, d4, c2, rfl, HA, p9, a1, a2, a4, a5, a6, a3, a9, b0, HB⟩ := hrel
   cases gk with
   | zero => exact absurd HA.out (by simp [laws_FnGrid.l0])
   | succ k1 =>
    have H := HA.out; clear HA
    simp only [laws_FnGrid.l0] at H
    by_cases C3 : m3 < 3
    ·rw [if_pos C3] at H; have F4 : decide (m3 < 3) = true := decide_eq_true C3; clear C3; replace H := Option.bind_eq_some_iff.mp H; obtain ⟨o0, F5, H⟩ := H; (try dsimp only at H); have A17 := mk_ F5; clear F5; replace H := Option.bind_eq_some_iff.mp H; obtain ⟨o1, F6, H⟩ := H; (try dsimp only at H); have A18 := mk_ F6; clear F6
     obtain ⟨s3, o4⟩ : ∃ y_ : List Int, y_ = (([wrap64 (o0 - 128), wrap64 (o1 - 128)] : List Int)) := ⟨_, rfl⟩
     replace H : (if b1.length < 5864062014805 then (if b4.length < 5864062014805 then (laws_FnGrid.l0 k1 l0 (wrap64 (m3 + 1)) a7 a8 (b1 ++ [s3]) a7 a8 (b4 ++ [(([7, 7] : List Int))])) else (none)) else (none)) = some r := by first | (rw [o4]; with_reducible exact H) | (have H2_ := (Option.bind_some _ _).symm.trans H; rw [o4]; with_reducible exact H2_) | (have H2_ := (Option.bind_some _ _).symm.trans H; with_reducible exact H2_) | with_reducible exact H | (rw [o4]; exact H) | exact H
     have C4 := mk_ o4; clear o4; by_cases L6 : b1.length < 5864062014805
     ·rw [if_pos L6] at H; have LMc19 := mk_ L6; clear L6
      obtain ⟨l5, o5⟩ : ∃ y_ : List (List Int), y_ = (b1 ++ [s3]) := ⟨_, rfl⟩
      replace H : (if b4.length < 5864062014805 then (laws_FnGrid.l0 k1 l0 (wrap64 (m3 + 1)) a7 a8 l5 a7 a8 (b4 ++ [(([7, 7] : List Int))])) else (none)) = some r := by first | (rw [o5]; with_reducible exact H) | (have H2_ := (Option.bind_some _ _).symm.trans H; rw [o5]; with_reducible exact H2_) | (have H2_ := (Option.bind_some _ _).symm.trans H; with_reducible exact H2_) | with_reducible exact H | (rw [o5]; exact H) | exact H
      have F7 := mk_ o5; clear o5
      obtain ⟨s4, o6⟩ : ∃ y_ : List Int, y_ = (([7, 7] : List Int)) := ⟨_, rfl⟩
      replace H : (if b4.length < 5864062014805 then (laws_FnGrid.l0 k1 l0 (wrap64 (m3 + 1)) a7 a8 l5 a7 a8 (b4 ++ [s4])) else (none)) = some r := by first | (rw [o6]; with_reducible exact H) | (have H2_ := (Option.bind_some _ _).symm.trans H; rw [o6]; with_reducible exact H2_) | (have H2_ := (Option.bind_some _ _).symm.trans H; with_reducible exact H2_) | with_reducible exact H | (rw [o6]; exact H) | exact H
      have C5 := mk_ o6; clear o6; by_cases L7 : b4.length < 5864062014805
      ·rw [if_pos L7] at H; have LMc20 := mk_ L7; clear L7
       obtain ⟨n5, o7⟩ : ∃ y_ : List (List Int), y_ = (b4 ++ [s4]) := ⟨_, rfl⟩
       replace H : (laws_FnGrid.l0 k1 l0 (wrap64 (m3 + 1)) a7 a8 l5 a7 a8 n5) = some r := by first | (rw [o7]; with_reducible exact H) | (have H2_ := (Option.bind_some _ _).symm.trans H; rw [o7]; with_reducible exact H2_) | (have H2_ := (Option.bind_some _ _).symm.trans H; with_reducible exact H2_) | with_reducible exact H | (rw [o7]; exact H) | exact H
       have F8 := mk_ o7; clear o7
       have H' := mk_ H
       clear H
       try go_wp2
       replace a1 := dR_ a1; replace a2 := dR_ a2; replace a4 := mk_ (Kd.S_drew a4.out); replace a5 := dR_ a5; replace a6 := dR_ a6; replace a3 := mk_ (Kd.S_drew a3.out); replace a9 := dB_ a9; replace b0 := dB_ b0; replace HB := dH_ HB
       refine start_ (n := 19) (S := fun w' => w'.cell? ⟨c4, 0, none⟩ = some (.slice b5 a7.length b2) ∧ w'.cell? ⟨c4, 1, none⟩ = some (.slice d2 a8.length b9) ∧ w'.cell? ⟨c4, 2, none⟩ = some (d4)) (ds := [18]) (bs_ 19 0) (by kernel_rfl) rfl (by kernel_rfl) ⟨bc0_ a9, bc1_ a9, bc2_ a9⟩ (fun hHeld => ?_); refine with_tabW laws_FnGrid.tab8 laws_FnGrid.bits8 (fun HT_ HW_ => ?_)
       generalize wr.drew = w21 at a1 a2 a4 a5 a6 a3 a9 b0 HB hHeld ⊢
       refine pu_ HT_ 0 32 (bs_ 19 1) ?_; refine pu_ HT_ 2 34 (bs_ 19 5) ?_; refine pu_ HT_ 3 35 (bs_ 19 13) ?_; refine pu_ HT_ 4 36 (bs_ 19 29) ?_; refine pu_ HT_ 5 37 (bs_ 19 61) ?_; refine pu_ HT_ 8 40 (bs_ 19 317) ?_; refine pu_ HT_ 9 41 (bs_ 19 829) ?_; refine pu_ HT_ 10 42 (bs_ 19 1853) ?_; refine pu_ HT_ 11 43 (bs_ 19 3901) ?_; refine tk_ HT_ HW_ 1 33 (bs_ 19 3903) hHeld ?_
       refine one_ (i := 6) (N := some 38) (bs_ 19 3967) rfl rfl (one_of HT_.out (by kernel_rfl)) (by decide) (fun K hK => ?_)
       refine gs_ Try.func24 #[.slice A0 l0.length c0, .int .i64 (wrap64 ((wrap64 (2 * m3)) + 1))] ?_
       with_reducible refine (laws_at.calls _ _ l0 (wrap64 ((wrap64 (2 * m3)) + 1)) o0 _ ?d8 ?d9 A17.out).mono ?_
       (case d8 => exact cw_ (Kd.C_below B3.out HB.out))
       (case d9 => exact B4.out)
       rintro e w' ⟨rfl, ⟨nd, rfl⟩⟩
       refine ⟨_, rfl, ?_⟩
       refine hK.out _ _ ⟨bc0_ a9, bc1_ a9, bc2_ a9⟩ (fun hHeld => ?_)
       clear hK K; refine nm_ 38 ?_; refine pu_ HT_ 7 39 (bs_ 19 4095) ?_
       refine one_ (i := 12) (N := some 44) (bs_ 19 8191) rfl rfl (one_of HT_.out (by kernel_rfl)) (by decide) (fun K hK => ?_)
       refine gs_ Try.func24 #[.slice A0 l0.length c0, .int .i64 (wrap64 ((wrap64 (2 * m3)) + 2))] ?_
       with_reducible refine (laws_at.calls _ _ l0 (wrap64 ((wrap64 (2 * m3)) + 2)) o1 _ ?d8 ?d9 A18.out).mono ?_
       (case d8 => repeat (first | exact (Kd.C_below B3.out (hw_ HB)) | (with_reducible refine Kd.C_alloc ?_ _) | (with_reducible refine Kd.C_drewN ?_ _) | (with_reducible refine Kd.C_drew ?_)))
       (case d9 => exact B4.out)
       rintro e w' ⟨rfl, ⟨nd, rfl⟩⟩
       refine ⟨_, rfl, ?_⟩
       refine hK.out _ _ ⟨bc0_ a9, bc1_ a9, bc2_ a9⟩ (fun hHeld => ?_)
       clear hK K; refine nm_ 44 ?_; refine pu_ HT_ 13 45 (bs_ 19 16383) ?_
       refine one_ (i := 14) (N := some 46) (bs_ 19 32767) rfl rfl (one_of HT_.out (by kernel_rfl)) (by decide) (fun K hK => ?_)
       refine Kd.R_lit_step (Kd.int .i64) _ 3 ?hg (N := 46) ?hd (xs := ([wrap64 (o0 - 128), wrap64 (o1 - 128)] : List Int)) (inner := [.int .i64 (wrap64 (o0 - 128)), .int .i64 (wrap64 (o1 - 128))]) (ok := fun _ => True) (okp := fun _ => True) ?hr ?hp (fun _ hk => hk) trivial (Below.refl _ _) (Nat.le_refl _) (by simp) ?_; (case hd => rfl); (case hg => rfl); (case hr => exact hr_); (case hp => exact (Reps.one (show Kd.M (Kd.int .i64) _ _ _ (wrap64 (o0 - 128)) [.int .i64 (wrap64 (o0 - 128))] from rfl) (Reps.one (show Kd.M (Kd.int .i64) _ _ _ (wrap64 (o1 - 128)) [.int .i64 (wrap64 (o1 - 128))] from rfl) (Reps.none _ _))))
       intro v164 w22 n0 hb hg_ hnew_
       clear hg_ hnew_
       (first | rw [← C4.out] at n0 | (simp only [Int.reduceToNat] at n0; rw [← C4.out] at n0))
       replace a4 := mk_ (Kd.S_elder' (sx_ a4) (Kd.R_base n0) hb); replace a3 := mk_ (Kd.S_elder' (sx_ a3) (Kd.R_base n0) hb); have q0 := mk_ (Kd.R_lower (Kd.R_new' (Kd.R_new' (Kd.R_new' (Kd.R_new' n0 (Kd.R_lt (kx_ a1))) (Kd.R_lt (kx_ a2))) (Kd.R_lt (kx_ a5))) (Kd.R_lt (kx_ a6))) (below_size (hw_ HB))); replace a1 := mk_ (Kd.R_elder' (kx_ a1) (Kd.R_base n0) hb); replace a2 := mk_ (Kd.R_elder' (kx_ a2) (Kd.R_base n0) hb); replace a5 := mk_ (Kd.R_elder' (kx_ a5) (Kd.R_base n0) hb); replace a6 := mk_ (Kd.R_elder' (kx_ a6) (Kd.R_base n0) hb); replace a9 := bk_ a9 hb; replace b0 := bk_ b0 hb; replace HB := hk_ HB hb
       clear hb n0; obtain ⟨C9, D0, F9⟩ := Kd.R_slice q0.out
       (first | subst F9 | (injection F9 with f1_ f2_ f3_; have f4_ := f1_.symm; have f5_ := f3_.symm; clear f1_ f2_ f3_; subst f4_; subst f5_))
       refine hK.out _ _ ⟨bc0_ a9, bc1_ a9, bc2_ a9⟩ (fun hHeld => ?_)
       clear hK K; refine nm_ 46 ?_
       refine one_ (i := 15) (N := some 47) (bs_ 19 65535) rfl rfl (one_of HT_.out (by kernel_rfl)) (by decide) (fun K hK => ?_)
       refine value_ (w1 := ?_) (v := ?_) (by rfl) rfl ?_ ?_
       rotate_left 2
       ·go_simp
        constructor
        ·rfl
        ·rfl
       refine hK.out _ _ ⟨(blk_cell (blk_alloc a9.out _) 0).trans rfl, (blk_cell (blk_alloc a9.out _) 1).trans rfl, (blk_cell (blk_alloc a9.out _) 2).trans rfl⟩ (fun hHeld => ?_)
       clear hK K; refine nm_ 47 ?_
       refine one_ (i := 16) (N := some 48) (bs_ 19 131071) rfl rfl (one_of HT_.out (by kernel_rfl)) (by decide) (fun K hK => ?_)
       refine Kd.S_append_step (Kd.slice 3 (Kd.int .i64)) (w0 := w) w.heap.size (by rfl) (.tmp 33) (.tmp 47) 48 23 (.slice none 0 0) 24 rfl Try.underlying48 info23 rfl (by decide) (by omega) d4 b1 s3 [.slice C9 s3.length D0] (fun k_ => some k_ ≠ (.slice b5 a7.length b2 : Value).ownBlock ∧ some k_ ≠ (.slice d2 a8.length b9 : Value).ownBlock ∧ some k_ ≠ (.slice b5 a7.length b2 : Value).ownBlock ∧ some k_ ≠ (.slice d2 a8.length b9 : Value).ownBlock ∧ some k_ ≠ (c2 : Value).ownBlock) (fun k_ => some k_ = (.slice C9 s3.length D0 : Value).ownBlock) rfl rfl ?aP (fun k_ hk_ => ((Kd.R_mono (ok' := fun k_ => ((fun k_ => some k_ ≠ (.slice b5 a7.length b2 : Value).ownBlock ∧ some k_ ≠ (.slice d2 a8.length b9 : Value).ownBlock ∧ some k_ ≠ (.slice b5 a7.length b2 : Value).ownBlock ∧ some k_ ≠ (.slice d2 a8.length b9 : Value).ownBlock ∧ some k_ ≠ (c2 : Value).ownBlock)) k_ ∧ some k_ ≠ (d4 : Value).ownBlock) (Kd.R_apart' (Kd.R_apart' (q0.out) (Kd.S_typed a3.out) (by decide)) (Kd.S_typed a4.out) (by decide)) (fun k_ hk => ⟨⟨hk.1.1.1.1.1.2, ⟨hk.1.1.1.1.2, ⟨hk.1.1.1.2, ⟨hk.1.1.2, hk.1.2⟩⟩⟩⟩, hk.2⟩))).1 k_ hk_.symm) ?aF ?aO ?aB ?aS ?aL ?_
       (case aP => exact Kd.M_row (Kd.R_mono (Kd.R_tight rfl (Kd.R_mono (ok' := fun k_ => ((fun k_ => some k_ ≠ (.slice b5 a7.length b2 : Value).ownBlock ∧ some k_ ≠ (.slice d2 a8.length b9 : Value).ownBlock ∧ some k_ ≠ (.slice b5 a7.length b2 : Value).ownBlock ∧ some k_ ≠ (.slice d2 a8.length b9 : Value).ownBlock ∧ some k_ ≠ (c2 : Value).ownBlock)) k_ ∧ some k_ ≠ (d4 : Value).ownBlock) (Kd.R_apart' (Kd.R_apart' (q0.out) (Kd.S_typed a3.out) (by decide)) (Kd.S_typed a4.out) (by decide)) (fun k_ hk => ⟨⟨hk.1.1.1.1.1.2, ⟨hk.1.1.1.1.2, ⟨hk.1.1.1.2, ⟨hk.1.1.2, hk.1.2⟩⟩⟩⟩, hk.2⟩))) (fun _ h_ => h_)))
       (case aB => exact (hw_ HB))
       (case aF => exact (fun k_ hk => ⟨Kd.fresh' (Kd.R_lt (kx_ a1)) k_ hk, Kd.fresh' (Kd.R_lt (kx_ a2)) k_ hk, Kd.fresh' (Kd.R_lt (kx_ a5)) k_ hk, Kd.fresh' (Kd.R_lt (kx_ a6)) k_ hk, Kd.fresh' (Kd.S_lt (sx_ a3)) k_ hk⟩))
       (case aO => exact (by (with_reducible repeat (first | apply Kd.S_alloc | apply Kd.S_drewN | apply Kd.S_drew)); exact Kd.S_mono a4.out (fun k_ hk => ⟨⟨hk.1.1, ⟨hk.1.2.1, ⟨hk.1.2.2.1, ⟨hk.1.2.2.2.1, hk.1.2.2.2.2⟩⟩⟩⟩, fun e_ => hk.2 e_⟩)))
       (case aS => exact (below_size (hw_ HB)))
       (case aL => have := LMc19.out; omega)
       intro v167 w24 ho hb hg hat
       rw [← F7.out] at ho
       replace a1 := mk_ (Kd.R_over' (kx_ a1) (Kd.S_typed (sx_ a4)) (by decide) hg); replace a2 := mk_ (Kd.R_over' (kx_ a2) (Kd.S_typed (sx_ a4)) (by decide) hg); replace a5 := mk_ (Kd.R_over' (kx_ a5) (Kd.S_typed (sx_ a4)) (by decide) hg); replace a6 := mk_ (Kd.R_over' (kx_ a6) (Kd.S_typed (sx_ a4)) (by decide) hg); replace a3 := mk_ (Kd.S_after (ok := (fun k_ => some k_ ≠ (.slice b5 a7.length b2 : Value).ownBlock ∧ some k_ ≠ (.slice d2 a8.length b9 : Value).ownBlock ∧ some k_ ≠ (.slice b5 a7.length b2 : Value).ownBlock ∧ some k_ ≠ (.slice d2 a8.length b9 : Value).ownBlock ∧ some k_ ≠ (.slice C9 s3.length D0 : Value).ownBlock)) (by (with_reducible repeat (first | apply Kd.S_alloc | apply Kd.S_drewN | apply Kd.S_drew)); exact Kd.S_mono a3.out (fun _ hk => ⟨⟨hk.1.1, ⟨hk.1.2.1, ⟨hk.1.2.2.2.1, ⟨hk.1.2.2.2.2, hk.2⟩⟩⟩⟩, hk.1.2.2.1⟩)) hg hat); replace a9 := mk_ (blk_grown (g := c4) (o := .cells #[.slice b5 a7.length b2, .slice d2 a8.length b9, d4] 50 (0, 0)) (bx_ a9) hg (Kd.S_ne a4.out a9.out (by decide))); replace b0 := mk_ (blk_grown (g := c6) (o := .cells #[.slice b5 a7.length b2, .slice d2 a8.length b9, c2] 50 (0, 0)) (bx_ b0) hg (Kd.S_ne a4.out b0.out (by decide))); replace HB := mk_ (hb); have m5 := mk_ (ho); clear a4 q0
       clear ho hb hg hat
       obtain ⟨m0, m1, G0⟩ := Kd.S_slice m5.out
       (first | subst G0 | (injection G0 with f1_ f2_ f3_; have f4_ := f1_.symm; have f5_ := f3_.symm; clear f1_ f2_ f3_; subst f4_; subst f5_))
       refine hK.out _ _ ⟨bc0_ a9, bc1_ a9, bc2_ a9⟩ (fun hHeld => ?_)
       clear hK K; refine nm_ 48 ?_; refine pu_ HT_ 17 49 (bs_ 19 262143) ?_
       refine last_ (i := 18) (N := none) (bs_ 19 524287) rfl rfl (one_of HT_.out (by kernel_rfl)) (by decide) (fun K hK => ?_)
       have ac8 : w24.cell? ⟨c4, 2, none⟩ = some (d4) := bc2_ a9
       have Y4 := blk_frozen a9.out 2
       have L8 := j2.out; have L9 := g9.out
       refine skip_ (w1 := ?_) (by rfl) rfl ?_ ?_
       rotate_left
       ·go_simp
        rfl
       refine hK.out _ _ ?_
       clear hK K
       refine done_ (done_of HT_.out (by kernel_rfl)) ?_
       have Y5 := j2.out; have Y6 := g9.out
       have M0 := bc0_ b0; have M1 := bc1_ b0; have M2 := bc2_ b0; have M3 := bf_ b0 0; have M4 := bf_ b0 1; have M5 := bf_ b0 2
       try go_wp2_with (first | ((with_reducible refine gd_ 52 rfl ?_); refine Kd.R_lit (Kd.int .i64) _ 3 ?hg (N := 52) ?hd (xs := ([7, 7] : List Int)) (inner := [.int .i64 7, .int .i64 7]) (ok := fun _ => True) (okp := fun _ => True) ?hr ?hp (fun _ hk => hk) trivial (Below.refl _ _) (Nat.le_refl _) (by simp) ?_; (case hd => rfl); (case hg => rfl); (case hr => exact hr_); (case hp => exact (Reps.one (show Kd.M (Kd.int .i64) _ _ _ 7 [.int .i64 7] from rfl) (Reps.one (show Kd.M (Kd.int .i64) _ _ _ 7 [.int .i64 7] from rfl) (Reps.none _ _)))); intro v170 w30 n1 hb hg_ hnew_; clear hg_ hnew_; (first | rw [← C5.out] at n1 | (simp only [Int.reduceToNat] at n1; rw [← C5.out] at n1)); replace a3 := mk_ (Kd.S_elder' (by (with_reducible repeat (first | apply Kd.S_alloc | apply Kd.S_drewN | apply Kd.S_drew)); exact (Kd.S_mono (Kd.S_far (p := ⟨c4, 2, none⟩) (Kd.S_types a3.out a9.out (by decide)) (fun _ hk => hk.2) (.slice m0 l5.length m1)) (fun _ h_ => h_.1))) (Kd.R_base n1) hb); replace m5 := mk_ (Kd.S_elder' (by (with_reducible repeat (first | apply Kd.S_alloc | apply Kd.S_drewN | apply Kd.S_drew)); exact (Kd.S_mono (Kd.S_far (p := ⟨c4, 2, none⟩) (Kd.S_types m5.out a9.out (by decide)) (fun _ hk => hk.2) (.slice m0 l5.length m1)) (fun _ h_ => h_.1))) (Kd.R_base n1) hb); have q1 := mk_ (Kd.R_lower (Kd.R_new' (Kd.R_new' (Kd.R_new' (Kd.R_new' n1 (Kd.R_lt (by (with_reducible repeat (first | apply Kd.R_alloc | apply Kd.R_drewN | apply Kd.R_drew)); exact (Kd.R_mono (Kd.R_far (p := ⟨c4, 2, none⟩) (Kd.R_types a1.out a9.out (by decide)) (fun _ hk => hk.2) (.slice m0 l5.length m1)) (fun _ h_ => h_.1))))) (Kd.R_lt (by (with_reducible repeat (first | apply Kd.R_alloc | apply Kd.R_drewN | apply Kd.R_drew)); exact (Kd.R_mono (Kd.R_far (p := ⟨c4, 2, none⟩) (Kd.R_types a2.out a9.out (by decide)) (fun _ hk => hk.2) (.slice m0 l5.length m1)) (fun _ h_ => h_.1))))) (Kd.R_lt (by (with_reducible repeat (first | apply Kd.R_alloc | apply Kd.R_drewN | apply Kd.R_drew)); exact (Kd.R_mono (Kd.R_far (p := ⟨c4, 2, none⟩) (Kd.R_types a5.out a9.out (by decide)) (fun _ hk => hk.2) (.slice m0 l5.length m1)) (fun _ h_ => h_.1))))) (Kd.R_lt (by (with_reducible repeat (first | apply Kd.R_alloc | apply Kd.R_drewN | apply Kd.R_drew)); exact (Kd.R_mono (Kd.R_far (p := ⟨c4, 2, none⟩) (Kd.R_types a6.out a9.out (by decide)) (fun _ hk => hk.2) (.slice m0 l5.length m1)) (fun _ h_ => h_.1))))) (below_size (by repeat (first | (with_reducible first | exact HB.out | apply below_alloc | apply pw_below_drewN | apply below_drew1 | refine below_set ?_ p8.out) | exact HB.out)))); replace a1 := mk_ (Kd.R_elder' (by (with_reducible repeat (first | apply Kd.R_alloc | apply Kd.R_drewN | apply Kd.R_drew)); exact (Kd.R_mono (Kd.R_far (p := ⟨c4, 2, none⟩) (Kd.R_types a1.out a9.out (by decide)) (fun _ hk => hk.2) (.slice m0 l5.length m1)) (fun _ h_ => h_.1))) (Kd.R_base n1) hb); replace a2 := mk_ (Kd.R_elder' (by (with_reducible repeat (first | apply Kd.R_alloc | apply Kd.R_drewN | apply Kd.R_drew)); exact (Kd.R_mono (Kd.R_far (p := ⟨c4, 2, none⟩) (Kd.R_types a2.out a9.out (by decide)) (fun _ hk => hk.2) (.slice m0 l5.length m1)) (fun _ h_ => h_.1))) (Kd.R_base n1) hb); replace a5 := mk_ (Kd.R_elder' (by (with_reducible repeat (first | apply Kd.R_alloc | apply Kd.R_drewN | apply Kd.R_drew)); exact (Kd.R_mono (Kd.R_far (p := ⟨c4, 2, none⟩) (Kd.R_types a5.out a9.out (by decide)) (fun _ hk => hk.2) (.slice m0 l5.length m1)) (fun _ h_ => h_.1))) (Kd.R_base n1) hb); replace a6 := mk_ (Kd.R_elder' (by (with_reducible repeat (first | apply Kd.R_alloc | apply Kd.R_drewN | apply Kd.R_drew)); exact (Kd.R_mono (Kd.R_far (p := ⟨c4, 2, none⟩) (Kd.R_types a6.out a9.out (by decide)) (fun _ hk => hk.2) (.slice m0 l5.length m1)) (fun _ h_ => h_.1))) (Kd.R_base n1) hb); replace a9 := mk_ (blk_below (g := c4) (o := .cells #[.slice b5 a7.length b2, .slice d2 a8.length b9, .slice m0 l5.length m1] 50 (0, 0)) (by (with_reducible repeat (first | refine blk_drewN ?_ _ | refine blk_drew ?_ | refine blk_alloc ?_ _)); refine blk_put (cs := #[.slice b5 a7.length b2, .slice d2 a8.length b9, d4]) ?_ 2 _ rfl; (with_reducible repeat (first | refine blk_drewN ?_ _ | refine blk_drew ?_ | refine blk_alloc ?_ _)); exact a9.out) hb); replace b0 := mk_ (blk_below (g := c6) (o := .cells #[.slice b5 a7.length b2, .slice d2 a8.length b9, c2] 50 (0, 0)) (by (with_reducible repeat (first | refine blk_drewN ?_ _ | refine blk_drew ?_ | refine blk_alloc ?_ _)); refine blk_far ?_ j2.out _; (with_reducible repeat (first | refine blk_drewN ?_ _ | refine blk_drew ?_ | refine blk_alloc ?_ _)); exact b0.out) hb); replace HB := mk_ (below_step (by repeat (first | (with_reducible first | exact HB.out | apply below_alloc | apply pw_below_drewN | apply below_drew1 | refine below_set ?_ p8.out) | exact HB.out)) hb); clear hb n1; obtain ⟨D1, D2, V5⟩ := Kd.R_slice q1.out; subst V5) | ((with_reducible refine gate_builtin (b := .append) (xs := #[.tmp 51, .tmp 53]) rfl ?_); at_builtin; refine Kd.S_append (Kd.slice 3 (Kd.int .i64)) (w0 := w) w.heap.size rfl (.tmp 51) (.tmp 53) 48 23 (.slice none 0 0) 24 rfl Try.underlying48 info23 rfl (by decide) (by omega) c2 b4 s4 [.slice D1 s4.length D2] (fun k_ => some k_ ≠ (.slice b5 a7.length b2 : Value).ownBlock ∧ some k_ ≠ (.slice d2 a8.length b9 : Value).ownBlock ∧ some k_ ≠ (.slice b5 a7.length b2 : Value).ownBlock ∧ some k_ ≠ (.slice d2 a8.length b9 : Value).ownBlock ∧ some k_ ≠ (.slice m0 l5.length m1 : Value).ownBlock) (fun k_ => some k_ = (.slice D1 s4.length D2 : Value).ownBlock) rfl rfl ?aP (fun k_ hk_ => ((Kd.R_mono (ok' := fun k_ => ((fun k_ => some k_ ≠ (.slice b5 a7.length b2 : Value).ownBlock ∧ some k_ ≠ (.slice d2 a8.length b9 : Value).ownBlock ∧ some k_ ≠ (.slice b5 a7.length b2 : Value).ownBlock ∧ some k_ ≠ (.slice d2 a8.length b9 : Value).ownBlock ∧ some k_ ≠ (.slice m0 l5.length m1 : Value).ownBlock)) k_ ∧ some k_ ≠ (c2 : Value).ownBlock) (Kd.R_apart' (Kd.R_apart' (q1.out) (Kd.S_typed m5.out) (by decide)) (Kd.S_typed a3.out) (by decide)) (fun k_ hk => ⟨⟨hk.1.1.1.1.1.2, ⟨hk.1.1.1.1.2, ⟨hk.1.1.1.2, ⟨hk.1.1.2, hk.1.2⟩⟩⟩⟩, hk.2⟩))).1 k_ hk_.symm) ?aF ?aO ?aB ?aS ?aL ?_; (case aP => exact Kd.M_row (Kd.R_mono (Kd.R_tight rfl (Kd.R_mono (ok' := fun k_ => ((fun k_ => some k_ ≠ (.slice b5 a7.length b2 : Value).ownBlock ∧ some k_ ≠ (.slice d2 a8.length b9 : Value).ownBlock ∧ some k_ ≠ (.slice b5 a7.length b2 : Value).ownBlock ∧ some k_ ≠ (.slice d2 a8.length b9 : Value).ownBlock ∧ some k_ ≠ (.slice m0 l5.length m1 : Value).ownBlock)) k_ ∧ some k_ ≠ (c2 : Value).ownBlock) (Kd.R_apart' (Kd.R_apart' (q1.out) (Kd.S_typed m5.out) (by decide)) (Kd.S_typed a3.out) (by decide)) (fun k_ hk => ⟨⟨hk.1.1.1.1.1.2, ⟨hk.1.1.1.1.2, ⟨hk.1.1.1.2, ⟨hk.1.1.2, hk.1.2⟩⟩⟩⟩, hk.2⟩))) (fun _ h_ => h_))); (case aB => exact (by exact HB.out)); (case aF => exact (fun k_ hk => ⟨Kd.fresh' (Kd.R_lt (by exact a1.out)) k_ hk, Kd.fresh' (Kd.R_lt (by exact a2.out)) k_ hk, Kd.fresh' (Kd.R_lt (by exact a5.out)) k_ hk, Kd.fresh' (Kd.R_lt (by exact a6.out)) k_ hk, Kd.fresh' (Kd.S_lt (by exact m5.out)) k_ hk⟩)); (case aO => exact (by (with_reducible repeat (first | apply Kd.S_alloc | apply Kd.S_drewN | apply Kd.S_drew)); exact Kd.S_mono a3.out (fun k_ hk => ⟨⟨hk.1.1.1, ⟨hk.1.1.2.1, ⟨hk.1.1.2.2.1, ⟨hk.1.1.2.2.2.1, hk.1.2⟩⟩⟩⟩, fun e_ => hk.2 e_⟩))); (case aS => exact (below_size (by exact HB.out))); (case aL => have := LMc20.out; omega); intro v173 w32 ho hb hg hat; rw [← F8.out] at ho; replace a1 := mk_ (Kd.R_over' (by exact a1.out) (Kd.S_typed (by exact a3.out)) (by decide) hg); replace a2 := mk_ (Kd.R_over' (by exact a2.out) (Kd.S_typed (by exact a3.out)) (by decide) hg); replace a5 := mk_ (Kd.R_over' (by exact a5.out) (Kd.S_typed (by exact a3.out)) (by decide) hg); replace a6 := mk_ (Kd.R_over' (by exact a6.out) (Kd.S_typed (by exact a3.out)) (by decide) hg); replace a9 := mk_ (blk_grown (g := c4) (o := .cells #[.slice b5 a7.length b2, .slice d2 a8.length b9, .slice m0 l5.length m1] 50 (0, 0)) (by exact a9.out) hg (Kd.S_ne a3.out a9.out (by decide))); replace b0 := mk_ (blk_grown (g := c6) (o := .cells #[.slice b5 a7.length b2, .slice d2 a8.length b9, c2] 50 (0, 0)) (by exact b0.out) hg (Kd.S_ne a3.out b0.out (by decide))); replace m5 := mk_ (Kd.S_after (ok := (fun k_ => some k_ ≠ (.slice b5 a7.length b2 : Value).ownBlock ∧ some k_ ≠ (.slice d2 a8.length b9 : Value).ownBlock ∧ some k_ ≠ (.slice b5 a7.length b2 : Value).ownBlock ∧ some k_ ≠ (.slice d2 a8.length b9 : Value).ownBlock ∧ some k_ ≠ (.slice D1 s4.length D2 : Value).ownBlock)) (by exact Kd.S_mono m5.out (fun _ hk => ⟨⟨hk.1.1, ⟨hk.1.2.1, ⟨hk.1.2.2.1, ⟨hk.1.2.2.2.1, hk.2⟩⟩⟩⟩, hk.1.2.2.2.2⟩)) hg hat); replace HB := mk_ (hb); have C6 := mk_ (ho); clear a3 q1; clear ho hb hg hat; obtain ⟨p3, p4, V6⟩ := Kd.S_slice C6.out; subst V6; have M6 := bc0_ b0; have M7 := bc1_ b0; have M8 := bc2_ b0; have M9 := bf_ b0 0; have N0 := bf_ b0 1; have N1 := bf_ b0 2))
       go_roundg k1
       case measure => have := p9.out; omega
       case rel => exact ⟨(wrap64 (m3 + 1)), (l5), (n5), (.slice m0 l5.length m1), (.slice p3 n5.length p4), rf_, H', ⟨by have := p9.out; omega⟩, ⟨by (with_reducible repeat (first | apply Kd.R_alloc | apply Kd.R_drewN | apply Kd.R_drew)); exact Kd.R_mono (Kd.R_far (p := ⟨c6, 2, none⟩) (Kd.R_types a1.out b0.out (by decide)) (fun _ hk => hk.2) (.slice p3 n5.length p4)) (fun _ hk => ⟨hk.1.1.1.1, hk.1.1.1.2⟩)⟩, ⟨by (with_reducible repeat (first | apply Kd.R_alloc | apply Kd.R_drewN | apply Kd.R_drew)); exact Kd.R_mono (Kd.R_far (p := ⟨c6, 2, none⟩) (Kd.R_types a2.out b0.out (by decide)) (fun _ hk => hk.2) (.slice p3 n5.length p4)) (fun _ hk => ⟨hk.1.1.1.1, hk.1.1.1.2⟩)⟩, ⟨by (with_reducible repeat (first | apply Kd.S_alloc | apply Kd.S_drewN | apply Kd.S_drew)); exact Kd.S_mono (Kd.S_far (p := ⟨c6, 2, none⟩) (Kd.S_types m5.out b0.out (by decide)) (fun _ hk => hk.2) (.slice p3 n5.length p4)) (fun _ hk => ⟨hk.1.1.1, ⟨hk.1.1.2.1, ⟨hk.1.1.2.2.1, ⟨hk.1.1.2.2.2.1, hk.1.2⟩⟩⟩⟩)⟩, ⟨by (with_reducible repeat (first | apply Kd.R_alloc | apply Kd.R_drewN | apply Kd.R_drew)); exact Kd.R_mono (Kd.R_far (p := ⟨c6, 2, none⟩) (Kd.R_types a5.out b0.out (by decide)) (fun _ hk => hk.2) (.slice p3 n5.length p4)) (fun _ hk => ⟨hk.1.1.1.1, hk.1.1.1.2⟩)⟩, ⟨by (with_reducible repeat (first | apply Kd.R_alloc | apply Kd.R_drewN | apply Kd.R_drew)); exact Kd.R_mono (Kd.R_far (p := ⟨c6, 2, none⟩) (Kd.R_types a6.out b0.out (by decide)) (fun _ hk => hk.2) (.slice p3 n5.length p4)) (fun _ hk => ⟨hk.1.1.1.1, hk.1.1.1.2⟩)⟩, ⟨by (with_reducible repeat (first | apply Kd.S_alloc | apply Kd.S_drewN | apply Kd.S_drew)); exact Kd.S_mono (Kd.S_far (p := ⟨c6, 2, none⟩) (Kd.S_types C6.out b0.out (by decide)) (fun _ hk => hk.2) (.slice p3 n5.length p4)) (fun _ hk => ⟨hk.1.1, ⟨hk.1.2.1, ⟨hk.1.2.2.2.2, ⟨hk.1.2.2.1, hk.1.2.2.2.1⟩⟩⟩⟩)⟩, ⟨by (with_reducible repeat (first | refine blk_drewN ?_ _ | refine blk_drew ?_ | refine blk_alloc ?_ _)); refine blk_far ?_ g9.out _; (with_reducible repeat (first | refine blk_drewN ?_ _ | refine blk_drew ?_ | refine blk_alloc ?_ _)); exact a9.out⟩, ⟨by (with_reducible repeat (first | refine blk_drewN ?_ _ | refine blk_drew ?_ | refine blk_alloc ?_ _)); refine blk_put (cs := #[.slice b5 a7.length b2, .slice d2 a8.length b9, c2]) ?_ 2 _ rfl; (with_reducible repeat (first | refine blk_drewN ?_ _ | refine blk_drew ?_ | refine blk_alloc ?_ _)); exact b0.out⟩, ⟨by repeat (first | (with_reducible first | exact HB.out | apply below_alloc | apply pw_below_drewN | apply below_drew1 | refine below_set ?_ C2.out) | exact HB.out)⟩⟩
      ·rw [if_neg L7] at H
       exact absurd H (by simp)
     ·rw [if_neg L6] at H
      exact absurd H (by simp)
    ·rw [if_neg C3] at H; have F4 : decide (m3 < 3) = false := decide_eq_false C3; clear C3
     have H' := mk_ H
     clear H; go_wp2
     go_loopg [6] k1 (fun kq v6 w' => ∃ (g8 : Int), v6 = .int .i64 g8 ∧ Aside0 (laws_FnGrid.l1 kq l0 g8 a7 a8 b1 a7 a8 b4 = some r) ∧ Aside0 (kq ≤ k1) ∧ Aside0 (Kd.R (Kd.int .i64) 3 w' w.heap.size (fun k_ => some k_ ≠ ((.slice d2 a8.length b9) : Value).ownBlock ∧ some k_ ≠ ((.slice d2 a8.length b9) : Value).ownBlock) (.slice b5 a7.length b2) a7) ∧ Aside0 (Kd.R (Kd.int .i64) 3 w' w.heap.size (fun k_ => some k_ ≠ ((.slice b5 a7.length b2) : Value).ownBlock ∧ some k_ ≠ ((.slice b5 a7.length b2) : Value).ownBlock) (.slice d2 a8.length b9) a8) ∧ Aside0 (Kd.S (Kd.slice 3 (Kd.int .i64)) 23 w' w.heap.size (fun k_ => some k_ ≠ ((.slice b5 a7.length b2) : Value).ownBlock ∧ some k_ ≠ ((.slice d2 a8.length b9) : Value).ownBlock ∧ some k_ ≠ ((.slice b5 a7.length b2) : Value).ownBlock ∧ some k_ ≠ ((.slice d2 a8.length b9) : Value).ownBlock ∧ some k_ ≠ (c2 : Value).ownBlock) d4 b1) ∧ Aside0 (Kd.R (Kd.int .i64) 3 w' w.heap.size (fun k_ => some k_ ≠ ((.slice d2 a8.length b9) : Value).ownBlock ∧ some k_ ≠ ((.slice d2 a8.length b9) : Value).ownBlock) (.slice b5 a7.length b2) a7) ∧ Aside0 (Kd.R (Kd.int .i64) 3 w' w.heap.size (fun k_ => some k_ ≠ ((.slice b5 a7.length b2) : Value).ownBlock ∧ some k_ ≠ ((.slice b5 a7.length b2) : Value).ownBlock) (.slice d2 a8.length b9) a8) ∧ Aside0 (Kd.S (Kd.slice 3 (Kd.int .i64)) 23 w' w.heap.size (fun k_ => some k_ ≠ ((.slice b5 a7.length b2) : Value).ownBlock ∧ some k_ ≠ ((.slice d2 a8.length b9) : Value).ownBlock ∧ some k_ ≠ (d4 : Value).ownBlock ∧ some k_ ≠ ((.slice b5 a7.length b2) : Value).ownBlock ∧ some k_ ≠ ((.slice d2 a8.length b9) : Value).ownBlock) c2 b4) ∧ Aside0 (w'.heap[c4]? = some (.cells #[(.slice b5 a7.length b2), (.slice d2 a8.length b9), d4] 50 (0, 0))) ∧ Aside0 (w'.heap[c6]? = some (.cells #[(.slice b5 a7.length b2), (.slice d2 a8.length b9), c2] 50 (0, 0))) ∧ Aside0 (Below w.heap.size w w'))
     case atStart => exact ⟨(0), rf_, H', ⟨Nat.le_refl _⟩, kw_ a1, kw_ a2, ⟨by (with_reducible repeat (first | apply Kd.S_alloc | apply Kd.S_drewN | apply Kd.S_drew)); exact a4.out⟩, kw_ a5, kw_ a6, ⟨by (with_reducible repeat (first | apply Kd.S_alloc | apply Kd.S_drewN | apply Kd.S_drew)); exact a3.out⟩, bw_ a9, bw_ b0, ⟨hw_ HB⟩⟩
     case round => as_aux_lemma =>
      clear H'; (try clear c3); (try clear C3)
      obtain ⟨g8, rfl, HA, s8, a1, a2, a4, a5, a6, a3, a9, b0, HB⟩ := hrel
      cases gk with
      | zero => exact absurd HA.out (by simp [laws_FnGrid.l1])
      | succ k2 =>
       have H := HA.out; clear HA
       simp only [laws_FnGrid.l1] at H
       by_cases D3 : g8 < 3
       ·rw [if_pos D3] at H; have G1 : decide (g8 < 3) = true := decide_eq_true D3; clear D3
        have H' := mk_ H
        clear H; go_wp2
        go_loopg [7] k2 (fun kq v7 w' => ∃ (h5 : Int), v7 = .int .i64 h5 ∧ Aside0 (laws_FnGrid.l2 kq l0 g8 h5 a7 a8 b1 a7 a8 b4 = some r) ∧ Aside0 (kq ≤ k2) ∧ Aside0 (Kd.R (Kd.int .i64) 3 w' w.heap.size (fun k_ => some k_ ≠ ((.slice d2 a8.length b9) : Value).ownBlock ∧ some k_ ≠ ((.slice d2 a8.length b9) : Value).ownBlock) (.slice b5 a7.length b2) a7) ∧ Aside0 (Kd.R (Kd.int .i64) 3 w' w.heap.size (fun k_ => some k_ ≠ ((.slice b5 a7.length b2) : Value).ownBlock ∧ some k_ ≠ ((.slice b5 a7.length b2) : Value).ownBlock) (.slice d2 a8.length b9) a8) ∧ Aside0 (Kd.S (Kd.slice 3 (Kd.int .i64)) 23 w' w.heap.size (fun k_ => some k_ ≠ ((.slice b5 a7.length b2) : Value).ownBlock ∧ some k_ ≠ ((.slice d2 a8.length b9) : Value).ownBlock ∧ some k_ ≠ ((.slice b5 a7.length b2) : Value).ownBlock ∧ some k_ ≠ ((.slice d2 a8.length b9) : Value).ownBlock ∧ some k_ ≠ (c2 : Value).ownBlock) d4 b1) ∧ Aside0 (Kd.R (Kd.int .i64) 3 w' w.heap.size (fun k_ => some k_ ≠ ((.slice d2 a8.length b9) : Value).ownBlock ∧ some k_ ≠ ((.slice d2 a8.length b9) : Value).ownBlock) (.slice b5 a7.length b2) a7) ∧ Aside0 (Kd.R (Kd.int .i64) 3 w' w.heap.size (fun k_ => some k_ ≠ ((.slice b5 a7.length b2) : Value).ownBlock ∧ some k_ ≠ ((.slice b5 a7.length b2) : Value).ownBlock) (.slice d2 a8.length b9) a8) ∧ Aside0 (Kd.S (Kd.slice 3 (Kd.int .i64)) 23 w' w.heap.size (fun k_ => some k_ ≠ ((.slice b5 a7.length b2) : Value).ownBlock ∧ some k_ ≠ ((.slice d2 a8.length b9) : Value).ownBlock ∧ some k_ ≠ (d4 : Value).ownBlock ∧ some k_ ≠ ((.slice b5 a7.length b2) : Value).ownBlock ∧ some k_ ≠ ((.slice d2 a8.length b9) : Value).ownBlock) c2 b4) ∧ Aside0 (w'.heap[c4]? = some (.cells #[(.slice b5 a7.length b2), (.slice d2 a8.length b9), d4] 50 (0, 0))) ∧ Aside0 (w'.heap[c6]? = some (.cells #[(.slice b5 a7.length b2), (.slice d2 a8.length b9), c2] 50 (0, 0))) ∧ Aside0 (Below w.heap.size w w'))
        case atStart => exact ⟨(0), rf_, H', ⟨Nat.le_refl _⟩, kw_ a1, kw_ a2, ⟨by (with_reducible repeat (first | apply Kd.S_alloc | apply Kd.S_drewN | apply Kd.S_drew)); exact a4.out⟩, kw_ a5, kw_ a6, ⟨by (with_reducible repeat (first | apply Kd.S_alloc | apply Kd.S_drewN | apply Kd.S_drew)); exact a3.out⟩, bw_ a9, bw_ b0, ⟨hw_ HB⟩⟩
        case round => as_aux_lemma =>
         clear H'; (try clear c3); (try clear C3); (try clear D3)
         obtain ⟨h5, rfl, HA, D4, a1, a2, a4, a5, a6, a3, a9, b0, HB⟩ := hrel
         cases gk with
         | zero => exact absurd HA.out (by simp [laws_FnGrid.l2])
         | succ k3 =>
          have H := HA.out; clear HA
          simp only [laws_FnGrid.l2] at H
          by_cases E9 : h5 < 2
          ·rw [if_pos E9] at H; have G2 : decide (h5 < 2) = true := decide_eq_true E9; clear E9; by_cases N2 : 0 ≤ h5
           ·rw [if_pos N2] at H; have Y7 : decide (0 ≤ h5) = true := decide_eq_true N2; clear N2; by_cases N3 : h5 < (a7.length : Int)
            ·rw [if_pos N3] at H; have Y8 : decide (h5 < (a7.length : Int)) = true := decide_eq_true N3; clear N3; by_cases N4 : 0 ≤ g8
             ·rw [if_pos N4] at H; have Y9 : decide (0 ≤ g8) = true := decide_eq_true N4; clear N4; by_cases N5 : g8 < (a8.length : Int)
              ·rw [if_pos N5] at H; have Z0 : decide (g8 < (a8.length : Int)) = true := decide_eq_true N5; clear N5; replace H := Option.bind_eq_some_iff.mp H; obtain ⟨⟨d0, c8, s5⟩, G3, H⟩ := H; (try dsimp only at H); have Z1 := mk_ G3; clear G3; have D5 := mk_ H; clear H
               obtain ⟨j7, j0, V7⟩ := Kd.S_slice a4.out
               subst V7
               try go_wp2
               replace a1 := dR_ a1; replace a2 := dR_ a2; replace a4 := mk_ (Kd.S_drew a4.out); replace a5 := dR_ a5; replace a6 := dR_ a6; replace a3 := mk_ (Kd.S_drew a3.out); replace a9 := dB_ a9; replace b0 := dB_ b0; replace HB := dH_ HB
               have D6 : 0 ≤ (h5 : Int) := od_
               have D7 : h5 < (a7.length : Int) := od_
               obtain ⟨b6, V8, q2⟩ := Kd.at_int (rr_ a1) h5 D6 D7; cases V8; replace D6 := eq_true D6; replace D7 := eq_true D7
               have D8 : 0 ≤ (g8 : Int) := od_
               have D9 : g8 < (a8.length : Int) := od_
               obtain ⟨b7, V9, q3⟩ := Kd.at_int (rr_ a2) g8 D8 D9; cases V9; replace D8 := eq_true D8; replace D9 := eq_true D9
               refine start_ (n := 18) (S := fun w' => w'.cell? ⟨c4, 0, none⟩ = some (.slice (some b6) a7.length b2) ∧ w'.cell? ⟨c4, 1, none⟩ = some (.slice (some b7) a8.length b9) ∧ w'.cell? ⟨c4, 2, none⟩ = some (.slice j7 b1.length j0) ∧ w'.cell? (b6.add (h5).toNat) = some (.int .i64 (rd a7 h5)) ∧ w'.cell? (b7.add (g8).toNat) = some (.int .i64 (rd a8 g8))) (ds := []) (bs_ 18 0) (by kernel_rfl) rfl (by kernel_rfl) ⟨bc0_ a9, bc1_ a9, bc2_ a9, q2, q3⟩ (fun hHeld => ?_); refine with_tabW laws_FnGrid.tab16 laws_FnGrid.bits16 (fun HT_ HW_ => ?_)
               generalize wr.drew = w45 at a1 a2 a4 a5 a6 a3 a9 b0 HB q2 q3 hHeld ⊢
               refine pu_ HT_ 1 66 (bs_ 18 2) ?_; refine pu_ HT_ 3 68 (bs_ 18 10) ?_; refine pu_ HT_ 6 71 (bs_ 18 74) ?_; refine pu_ HT_ 8 73 (bs_ 18 330) ?_; refine tk_ HT_ HW_ 0 65 (bs_ 18 331) hHeld ?_; refine tk_ HT_ HW_ 2 67 (bs_ 18 335) hHeld ?_; refine pu_ HT_ 4 69 (bs_ 18 351) ?_; refine tk_ HT_ HW_ 5 70 (bs_ 18 383) hHeld ?_; refine tk_ HT_ HW_ 7 72 (bs_ 18 511) hHeld ?_; refine pu_ HT_ 9 74 (bs_ 18 1023) ?_; refine tk_ HT_ HW_ 10 75 (bs_ 18 2047) hHeld ?_
               refine join_ (σ := Nat) 2 (bs_ 18 65535) (fun s_ => [(76, .tuple #[.agg #[.int .i64 d0, .int .i64 c8], .bool s5]), (8, .pointer (some ⟨s_, 0, none⟩)), (64, .tuple #[.agg #[.int .i64 d0, .int .i64 c8], .bool s5]), (77, .agg #[.int .i64 d0, .int .i64 c8]), (78, .bool s5)]) (fun s_ w' => (w'.cell? ⟨c4, 0, none⟩ = some (.slice (some b6) a7.length b2) ∧ w'.cell? ⟨c4, 1, none⟩ = some (.slice (some b7) a8.length b9) ∧ w'.cell? ⟨c4, 2, none⟩ = some (.slice j7 b1.length j0) ∧ w'.cell? (b6.add (h5).toNat) = some (.int .i64 (rd a7 h5)) ∧ w'.cell? (b7.add (g8).toNat) = some (.int .i64 (rd a8 g8))) ∧ (Kd.R (Kd.int .i64) 3 w' w.heap.size (fun k_ => some k_ ≠ (.slice (some b7) a8.length b9 : Value).ownBlock ∧ some k_ ≠ (.slice (some b7) a8.length b9 : Value).ownBlock) (.slice (some b6) a7.length b2) a7) ∧ (Kd.R (Kd.int .i64) 3 w' w.heap.size (fun k_ => some k_ ≠ (.slice (some b6) a7.length b2 : Value).ownBlock ∧ some k_ ≠ (.slice (some b6) a7.length b2 : Value).ownBlock) (.slice (some b7) a8.length b9) a8) ∧ (Kd.S (Kd.slice 3 (Kd.int .i64)) 23 w' w.heap.size (fun k_ => some k_ ≠ (.slice (some b6) a7.length b2 : Value).ownBlock ∧ some k_ ≠ (.slice (some b7) a8.length b9 : Value).ownBlock ∧ some k_ ≠ (.slice (some b6) a7.length b2 : Value).ownBlock ∧ some k_ ≠ (.slice (some b7) a8.length b9 : Value).ownBlock ∧ some k_ ≠ (c2 : Value).ownBlock) (.slice j7 b1.length j0) b1) ∧ (Kd.R (Kd.int .i64) 3 w' w.heap.size (fun k_ => some k_ ≠ (.slice (some b7) a8.length b9 : Value).ownBlock ∧ some k_ ≠ (.slice (some b7) a8.length b9 : Value).ownBlock) (.slice (some b6) a7.length b2) a7) ∧ (Kd.R (Kd.int .i64) 3 w' w.heap.size (fun k_ => some k_ ≠ (.slice (some b6) a7.length b2 : Value).ownBlock ∧ some k_ ≠ (.slice (some b6) a7.length b2 : Value).ownBlock) (.slice (some b7) a8.length b9) a8) ∧ (Kd.S (Kd.slice 3 (Kd.int .i64)) 23 w' w.heap.size (fun k_ => some k_ ≠ (.slice (some b6) a7.length b2 : Value).ownBlock ∧ some k_ ≠ (.slice (some b7) a8.length b9 : Value).ownBlock ∧ some k_ ≠ (.slice j7 b1.length j0 : Value).ownBlock ∧ some k_ ≠ (.slice (some b6) a7.length b2 : Value).ownBlock ∧ some k_ ≠ (.slice (some b7) a8.length b9 : Value).ownBlock) c2 b4) ∧ (w'.heap[c4]? = some (.cells #[.slice (some b6) a7.length b2, .slice (some b7) a8.length b9, .slice j7 b1.length j0] 50 (0, 0))) ∧ (w'.heap[c6]? = some (.cells #[.slice (some b6) a7.length b2, .slice (some b7) a8.length b9, c2] 50 (0, 0))) ∧ (w'.heap[s_]? = some (.cells #[.int .i64 0, .int .i64 0] 26 (0, 0))) ∧ (w.heap.size ≤ s_) ∧ (w.heap.size ≤ s_) ∧ (c4 ≠ s_) ∧ (s_ ≠ c4) ∧ (c6 ≠ s_) ∧ (s_ ≠ c6) ∧ (Below w.heap.size w w')) ?_ ?_
               rotate_left
               ·intro hCont
                refine two_ (i := 11) (j := 15) (Ni := some 76) (Nj := some 8) (bs_ 18 4095) (bs_ 18 34815) rfl rfl rfl rfl (two_of HT_.out (by kernel_rfl)) (by decide) (by decide) (fun K hK => ?_) (fun K hK => ?_)
                ·skip
                 refine gs_ Try.func25 #[.agg #[.slice (some b6) a7.length b2, .slice (some b7) a8.length b9, .slice j7 b1.length j0], .int .i64 (rd a7 h5), .int .i64 (rd a8 g8)] ?_
                 with_reducible refine (impl_AtGrid.calls k3 _ _ a7 _ _ a8 _ _ b1 (rd a7 h5) (rd a8 g8) d0 c8 s5 _ ?d8 ?d9 ?j8 ?j9 ?l3 ?l4 Z1.out).mono ?_
                 (case d8 => exact cw_ (rr_ a1))
                 (case d9 => exact (Kd.R_reads' a1.out).2.1)
                 (case j8 => exact cw_ (rr_ a2))
                 (case j9 => exact (Kd.R_reads' a2.out).2.1)
                 (case l3 => repeat (first | exact (Kd.S_reads' a4.out).2.2 | (with_reducible refine Kd.C_alloc ?_ _) | (with_reducible refine Kd.C_drewN ?_ _) | (with_reducible refine Kd.C_drew ?_)))
                 (case l4 => exact (Kd.S_reads' a4.out).2.1)
                 rintro e w46 ⟨rfl, hb⟩
                 have p5 := (hb.cell (World.block_lt_of_cell? _ _ (hHeld.2.2.2.1))).trans (hHeld.2.2.2.1)
                 have p6 := (hb.cell (World.block_lt_of_cell? _ _ (hHeld.2.2.2.2))).trans (hHeld.2.2.2.2)
                 refine ⟨_, rfl, ?_⟩
                 replace a1 := rk_ a1 hb; replace a2 := rk_ a2 hb; replace a4 := sk_ a4 hb; replace a5 := rk_ a5 hb; replace a6 := rk_ a6 hb; replace a3 := sk_ a3 hb; replace a9 := bk_ a9 hb; replace b0 := bk_ b0 hb; replace HB := hk_ HB hb
                 (try clear hb); (try clear E0); (try clear hk); (try clear hi)
                 refine hK.out _ _ ⟨bc0_ a9, bc1_ a9, bc2_ a9, p5, p6⟩ (fun hHeld => ?_)
                 clear hK K; refine nm_ 76 ?_; refine pu_ HT_ 12 64 (bs_ 18 8191) ?_; refine pu_ HT_ 13 77 (bs_ 18 16383) ?_; refine pu_ HT_ 14 78 (bs_ 18 32767) ?_
                 refine one_ (i := 15) (N := some 8) (bs_ 18 65535) rfl rfl (one_of HT_.out (by kernel_rfl)) (by decide) (fun K hK => ?_)
                 refine box_step ?hg (N := 8) ?hd (cs := #[.int .i64 0, .int .i64 0]) (t := 26) ?hr ?_; (case hd => rfl); (case hg => rfl); (case hr => exact hr_)
                 intro b3 hg w47 hbox hb
                 have p5 := (hb.cell (World.block_lt_of_cell? _ _ (hHeld.2.2.2.1))).trans (hHeld.2.2.2.1)
                 have p6 := (hb.cell (World.block_lt_of_cell? _ _ (hHeld.2.2.2.2))).trans (hHeld.2.2.2.2)
                 replace a1 := rk_ a1 hb; replace a2 := rk_ a2 hb; replace a4 := sk_ a4 hb; replace a5 := rk_ a5 hb; replace a6 := rk_ a6 hb; replace a3 := sk_ a3 hb; have b8 := mk_ (hbox); have q4 := gk_ hg HB; have n2 := gk_ hg HB; replace HB := hk_ HB hb; have d1 := nk_ hg a9; have j5 := nj_ hg a9; replace a9 := bk_ a9 hb; have g4 := nk_ hg b0; have j6 := nj_ hg b0; replace b0 := bk_ b0 hb
                 clear hb hbox hg
                 refine hK.out _ _ ⟨bc0_ a9, bc1_ a9, bc2_ a9, p5, p6⟩ (fun hHeld => ?_)
                 clear hK K; refine nm_ 8 ?_
                 exact norm_ (by simp only [putAll, Act.put, List.setIfInBounds_toArray, List.set_cons_zero, List.set_cons_succ]) (hCont (b3) _ ⟨hHeld, (kx_ a1), (kx_ a2), (sx_ a4), (kx_ a5), (kx_ a6), (sx_ a3), (bx_ a9), (bx_ b0), (bx_ b8), q4.out, n2.out, d1.out, j5.out, g4.out, j6.out, (hw_ HB)⟩)
                ·skip
                 refine box_step ?hg (N := 8) ?hd (cs := #[.int .i64 0, .int .i64 0]) (t := 26) ?hr ?_; (case hd => rfl); (case hg => rfl); (case hr => exact hr_)
                 intro b3 hg w46 hbox hb
                 have p5 := (hb.cell (World.block_lt_of_cell? _ _ (hHeld.2.2.2.1))).trans (hHeld.2.2.2.1)
                 have p6 := (hb.cell (World.block_lt_of_cell? _ _ (hHeld.2.2.2.2))).trans (hHeld.2.2.2.2)
                 replace a1 := rk_ a1 hb; replace a2 := rk_ a2 hb; replace a4 := sk_ a4 hb; replace a5 := rk_ a5 hb; replace a6 := rk_ a6 hb; replace a3 := sk_ a3 hb; have b8 := mk_ (hbox); have q4 := gk_ hg HB; have n2 := gk_ hg HB; replace HB := hk_ HB hb; have d1 := nk_ hg a9; have j5 := nj_ hg a9; replace a9 := bk_ a9 hb; have g4 := nk_ hg b0; have j6 := nj_ hg b0; replace b0 := bk_ b0 hb
                 clear hb hbox hg
                 refine hK.out _ _ ⟨bc0_ a9, bc1_ a9, bc2_ a9, p5, p6⟩ (fun hHeld => ?_)
                 clear hK K; refine nm_ 8 ?_
                 refine one_ (i := 11) (N := some 76) (bs_ 18 36863) rfl rfl (one_of HT_.out (by kernel_rfl)) (by decide) (fun K hK => ?_)
                 refine gs_ Try.func25 #[.agg #[.slice (some b6) a7.length b2, .slice (some b7) a8.length b9, .slice j7 b1.length j0], .int .i64 (rd a7 h5), .int .i64 (rd a8 g8)] ?_
                 with_reducible refine (impl_AtGrid.calls k3 _ _ a7 _ _ a8 _ _ b1 (rd a7 h5) (rd a8 g8) d0 c8 s5 _ ?d8 ?d9 ?j8 ?j9 ?l3 ?l4 Z1.out).mono ?_
                 (case d8 => exact cw_ (rr_ a1))
                 (case d9 => exact (Kd.R_reads' a1.out).2.1)
                 (case j8 => exact cw_ (rr_ a2))
                 (case j9 => exact (Kd.R_reads' a2.out).2.1)
                 (case l3 => repeat (first | exact (Kd.S_reads' a4.out).2.2 | (with_reducible refine Kd.C_alloc ?_ _) | (with_reducible refine Kd.C_drewN ?_ _) | (with_reducible refine Kd.C_drew ?_)))
                 (case l4 => exact (Kd.S_reads' a4.out).2.1)
                 rintro e w47 ⟨rfl, hb⟩
                 have p5 := (hb.cell (World.block_lt_of_cell? _ _ (hHeld.2.2.2.1))).trans (hHeld.2.2.2.1)
                 have p6 := (hb.cell (World.block_lt_of_cell? _ _ (hHeld.2.2.2.2))).trans (hHeld.2.2.2.2)
                 refine ⟨_, rfl, ?_⟩
                 replace a1 := rk_ a1 hb; replace a2 := rk_ a2 hb; replace a4 := sk_ a4 hb; replace a5 := rk_ a5 hb; replace a6 := rk_ a6 hb; replace a3 := sk_ a3 hb; replace a9 := bk_ a9 hb; replace b0 := bk_ b0 hb; replace b8 := bk_ b8 hb; replace HB := hk_ HB hb
                 (try clear hb); (try clear E0); (try clear hk); (try clear hi)
                 refine hK.out _ _ ⟨bc0_ a9, bc1_ a9, bc2_ a9, p5, p6⟩ (fun hHeld => ?_)
                 clear hK K; refine nm_ 76 ?_; refine pu_ HT_ 12 64 (bs_ 18 40959) ?_; refine pu_ HT_ 13 77 (bs_ 18 49151) ?_; refine pu_ HT_ 14 78 (bs_ 18 65535) ?_
                 exact norm_ (by simp only [putAll, Act.put, List.setIfInBounds_toArray, List.set_cons_zero, List.set_cons_succ]) (hCont (b3) _ ⟨hHeld, (kx_ a1), (kx_ a2), (sx_ a4), (kx_ a5), (kx_ a6), (sx_ a3), (bx_ a9), (bx_ b0), (bx_ b8), q4.out, n2.out, d1.out, j5.out, g4.out, j6.out, (hw_ HB)⟩)
               rintro b3 h9 ⟨hS_, G4, G5, G6, G7, G8, G9, H0, H1, H2, H3, t2, t3, t4, t5, t6, t7⟩
               replace a1 : Aside0 (Kd.R (Kd.int .i64) 3 h9 w.heap.size (fun k_ => some k_ ≠ (.slice (some b7) a8.length b9 : Value).ownBlock ∧ some k_ ≠ (.slice (some b7) a8.length b9 : Value).ownBlock) (.slice (some b6) a7.length b2) a7) := ⟨G4⟩; replace a2 : Aside0 (Kd.R (Kd.int .i64) 3 h9 w.heap.size (fun k_ => some k_ ≠ (.slice (some b6) a7.length b2 : Value).ownBlock ∧ some k_ ≠ (.slice (some b6) a7.length b2 : Value).ownBlock) (.slice (some b7) a8.length b9) a8) := ⟨G5⟩; replace a4 : Aside0 (Kd.S (Kd.slice 3 (Kd.int .i64)) 23 h9 w.heap.size (fun k_ => some k_ ≠ (.slice (some b6) a7.length b2 : Value).ownBlock ∧ some k_ ≠ (.slice (some b7) a8.length b9 : Value).ownBlock ∧ some k_ ≠ (.slice (some b6) a7.length b2 : Value).ownBlock ∧ some k_ ≠ (.slice (some b7) a8.length b9 : Value).ownBlock ∧ some k_ ≠ (c2 : Value).ownBlock) (.slice j7 b1.length j0) b1) := ⟨G6⟩; replace a5 : Aside0 (Kd.R (Kd.int .i64) 3 h9 w.heap.size (fun k_ => some k_ ≠ (.slice (some b7) a8.length b9 : Value).ownBlock ∧ some k_ ≠ (.slice (some b7) a8.length b9 : Value).ownBlock) (.slice (some b6) a7.length b2) a7) := ⟨G7⟩; replace a6 : Aside0 (Kd.R (Kd.int .i64) 3 h9 w.heap.size (fun k_ => some k_ ≠ (.slice (some b6) a7.length b2 : Value).ownBlock ∧ some k_ ≠ (.slice (some b6) a7.length b2 : Value).ownBlock) (.slice (some b7) a8.length b9) a8) := ⟨G8⟩; replace a3 : Aside0 (Kd.S (Kd.slice 3 (Kd.int .i64)) 23 h9 w.heap.size (fun k_ => some k_ ≠ (.slice (some b6) a7.length b2 : Value).ownBlock ∧ some k_ ≠ (.slice (some b7) a8.length b9 : Value).ownBlock ∧ some k_ ≠ (.slice j7 b1.length j0 : Value).ownBlock ∧ some k_ ≠ (.slice (some b6) a7.length b2 : Value).ownBlock ∧ some k_ ≠ (.slice (some b7) a8.length b9 : Value).ownBlock) c2 b4) := ⟨G9⟩; replace a9 : Aside0 (h9.heap[c4]? = some (.cells #[.slice (some b6) a7.length b2, .slice (some b7) a8.length b9, .slice j7 b1.length j0] 50 (0, 0))) := ⟨H0⟩; replace b0 : Aside0 (h9.heap[c6]? = some (.cells #[.slice (some b6) a7.length b2, .slice (some b7) a8.length b9, c2] 50 (0, 0))) := ⟨H1⟩; have b8 : Aside0 (h9.heap[b3]? = some (.cells #[.int .i64 0, .int .i64 0] 26 (0, 0))) := ⟨H2⟩; have q4 : Aside0 (w.heap.size ≤ b3) := ⟨H3⟩; have n2 : Aside0 (w.heap.size ≤ b3) := ⟨t2⟩; have d1 : Aside0 (c4 ≠ b3) := ⟨t3⟩; have j5 : Aside0 (b3 ≠ c4) := ⟨t4⟩; have g4 : Aside0 (c6 ≠ b3) := ⟨t5⟩; have j6 : Aside0 (b3 ≠ c6) := ⟨t6⟩; replace HB : Aside0 (Below w.heap.size w h9) := ⟨t7⟩; clear G4 G5 G6 G7 G8 G9 H0 H1 H2 H3 t2 t3 t4 t5 t6 t7
               have hHeld : h9.cell? ⟨c4, 0, none⟩ = some (.slice (some b6) a7.length b2) ∧ h9.cell? ⟨c4, 1, none⟩ = some (.slice (some b7) a8.length b9) ∧ h9.cell? ⟨c4, 2, none⟩ = some (.slice j7 b1.length j0) ∧ h9.cell? (b6.add (h5).toNat) = some (.int .i64 (rd a7 h5)) ∧ h9.cell? (b7.add (g8).toNat) = some (.int .i64 (rd a8 g8)) := hS_
               refine norm_ (a' := ?_) ?_ ?_
               rotate_left
               ·simp only [putAll, Act.put, List.setIfInBounds_toArray, List.set_cons_zero, List.set_cons_succ]
                rfl
               refine one_ (i := 16) (N := none) (bs_ 18 131071) rfl rfl (one_of HT_.out (by kernel_rfl)) (by decide) (fun K hK => ?_)
               have ac9 : h9.cell? ⟨b3, 0, none⟩ = some (.int .i64 0) := bc0_ b8
               have Z2 := blk_frozen b8.out 0
               have N6 := d1.out; have N7 := g4.out
               have N8 := j5.out; have N9 := j6.out
               have ad0 : h9.cell? ⟨b3, 1, none⟩ = some (.int .i64 0) := bc1_ b8
               have Z3 := blk_frozen b8.out 1
               have O0 := d1.out; have O1 := g4.out
               have O2 := j5.out; have O3 := j6.out
               refine skip_ (w1 := ?_) (by rfl) rfl ?_ ?_
               rotate_left
               ·go_simp
                rfl
               refine hK.out _ _ ⟨((cell_far (p := ⟨b3, _, none⟩) d1.out _).trans (((cell_far (p := ⟨b3, _, none⟩) d1.out _).trans (hHeld.1)))), ((cell_far (p := ⟨b3, _, none⟩) d1.out _).trans (((cell_far (p := ⟨b3, _, none⟩) d1.out _).trans (hHeld.2.1)))), ((cell_far (p := ⟨b3, _, none⟩) d1.out _).trans (((cell_far (p := ⟨b3, _, none⟩) d1.out _).trans (hHeld.2.2.1)))), ((cell_far (p := ⟨b3, _, none⟩) (by first | exact Kd.own_blk (Kd.R_ne a1.out b8.out (by decide)) | (rw [add_block]; exact Kd.own_blk (Kd.R_ne a1.out b8.out (by decide))) | (show (Addr.add _ _).block ≠ _; rw [add_block]; exact Kd.own_blk (Kd.R_ne a1.out b8.out (by decide))) | (dsimp only; exact Kd.own_blk (Kd.R_ne a1.out b8.out (by decide)))) _).trans (((cell_far (p := ⟨b3, _, none⟩) (by first | exact Kd.own_blk (Kd.R_ne a1.out b8.out (by decide)) | (rw [add_block]; exact Kd.own_blk (Kd.R_ne a1.out b8.out (by decide))) | (show (Addr.add _ _).block ≠ _; rw [add_block]; exact Kd.own_blk (Kd.R_ne a1.out b8.out (by decide))) | (dsimp only; exact Kd.own_blk (Kd.R_ne a1.out b8.out (by decide)))) _).trans (hHeld.2.2.2.1)))), ((cell_far (p := ⟨b3, _, none⟩) (by first | exact Kd.own_blk (Kd.R_ne a2.out b8.out (by decide)) | (rw [add_block]; exact Kd.own_blk (Kd.R_ne a2.out b8.out (by decide))) | (show (Addr.add _ _).block ≠ _; rw [add_block]; exact Kd.own_blk (Kd.R_ne a2.out b8.out (by decide))) | (dsimp only; exact Kd.own_blk (Kd.R_ne a2.out b8.out (by decide)))) _).trans (((cell_far (p := ⟨b3, _, none⟩) (by first | exact Kd.own_blk (Kd.R_ne a2.out b8.out (by decide)) | (rw [add_block]; exact Kd.own_blk (Kd.R_ne a2.out b8.out (by decide))) | (show (Addr.add _ _).block ≠ _; rw [add_block]; exact Kd.own_blk (Kd.R_ne a2.out b8.out (by decide))) | (dsimp only; exact Kd.own_blk (Kd.R_ne a2.out b8.out (by decide)))) _).trans (hHeld.2.2.2.2))))⟩ (fun hHeld => ?_)
               clear hK K; refine pu_ HT_ 17 9 (bs_ 18 262143) ?_
               refine done_ (done_of HT_.out (by kernel_rfl)) ?_
               go_upto_region 17 with (fail)
               go_cut [98] (fun v98 wc => ∃ (kq : Nat) (n6 : Bool), v98 = .bool n6 ∧ Aside0 (laws_FnGrid.j3 kq l0 g8 h5 n6 a7 a8 b1 a7 a8 b4 = some r) ∧ Aside0 (kq ≤ k3) ∧ Aside0 (Kd.R (Kd.int .i64) 3 wc w.heap.size (fun k_ => some k_ ≠ ((.slice (some b7) a8.length b9) : Value).ownBlock ∧ some k_ ≠ ((.slice (some b7) a8.length b9) : Value).ownBlock) (.slice (some b6) a7.length b2) a7) ∧ Aside0 (Kd.R (Kd.int .i64) 3 wc w.heap.size (fun k_ => some k_ ≠ ((.slice (some b6) a7.length b2) : Value).ownBlock ∧ some k_ ≠ ((.slice (some b6) a7.length b2) : Value).ownBlock) (.slice (some b7) a8.length b9) a8) ∧ Aside0 (Kd.S (Kd.slice 3 (Kd.int .i64)) 23 wc w.heap.size (fun k_ => some k_ ≠ ((.slice (some b6) a7.length b2) : Value).ownBlock ∧ some k_ ≠ ((.slice (some b7) a8.length b9) : Value).ownBlock ∧ some k_ ≠ ((.slice (some b6) a7.length b2) : Value).ownBlock ∧ some k_ ≠ ((.slice (some b7) a8.length b9) : Value).ownBlock ∧ some k_ ≠ (c2 : Value).ownBlock) (.slice j7 b1.length j0) b1) ∧ Aside0 (Kd.R (Kd.int .i64) 3 wc w.heap.size (fun k_ => some k_ ≠ ((.slice (some b7) a8.length b9) : Value).ownBlock ∧ some k_ ≠ ((.slice (some b7) a8.length b9) : Value).ownBlock) (.slice (some b6) a7.length b2) a7) ∧ Aside0 (Kd.R (Kd.int .i64) 3 wc w.heap.size (fun k_ => some k_ ≠ ((.slice (some b6) a7.length b2) : Value).ownBlock ∧ some k_ ≠ ((.slice (some b6) a7.length b2) : Value).ownBlock) (.slice (some b7) a8.length b9) a8) ∧ Aside0 (Kd.S (Kd.slice 3 (Kd.int .i64)) 23 wc w.heap.size (fun k_ => some k_ ≠ ((.slice (some b6) a7.length b2) : Value).ownBlock ∧ some k_ ≠ ((.slice (some b7) a8.length b9) : Value).ownBlock ∧ some k_ ≠ ((.slice j7 b1.length j0) : Value).ownBlock ∧ some k_ ≠ ((.slice (some b6) a7.length b2) : Value).ownBlock ∧ some k_ ≠ ((.slice (some b7) a8.length b9) : Value).ownBlock) c2 b4) ∧ Aside0 (wc.heap[c4]? = some (.cells #[(.slice (some b6) a7.length b2), (.slice (some b7) a8.length b9), (.slice j7 b1.length j0)] 50 (0, 0))) ∧ Aside0 (wc.heap[c6]? = some (.cells #[(.slice (some b6) a7.length b2), (.slice (some b7) a8.length b9), c2] 50 (0, 0))) ∧ Aside0 (wc.heap[b3]? = some (.cells #[.int .i64 d0, .int .i64 c8] 26 (0, 0))) ∧ Aside0 (Below w.heap.size w wc))
               case first => as_aux_lemma =>
                have H := D5.out; clear D5; by_cases O4 : s5 = true
                ·subst O4; rw [if_pos rfl] at H
                 by_cases E1 : c8 = 1
                 ·rw [if_pos E1] at H; have o8 : (c8 == 1) = true := beq_iff_eq.mpr E1; have H4 : (c8 != 1) = false := bne_eq_false_iff_eq.mpr E1; clear E1
                  (first | rw [o8] | (simp only [i64_w, i32_w]; rw [o8]) | skip)
                  by_cases O5 : g8 < (b1.length : Int)
                  ·rw [if_pos O5] at H; have Z4 : decide (g8 < (b1.length : Int)) = true := decide_eq_true O5; clear O5; by_cases O6 : h5 < ((rd_L2 b1 g8).length : Int)
                   ·rw [if_pos O6] at H; have Z5 : decide (h5 < ((rd_L2 b1 g8).length : Int)) = true := decide_eq_true O6; clear O6
                    have H' := mk_ H
                    clear H
                    try go_wp2
                    have t8 : Aside0 (Kd.R (Kd.int .i64) 3 ((h9.setCell ⟨b3, 0, none⟩ (.int .i64 d0)).setCell ⟨b3, 1, none⟩ (.int .i64 c8)) w.heap.size (fun k_ => some k_ ≠ (.slice (some b7) a8.length b9 : Value).ownBlock ∧ some k_ ≠ (.slice (some b7) a8.length b9 : Value).ownBlock) (.slice (some b6) a7.length b2) a7) := ⟨by (with_reducible repeat (first | apply Kd.R_alloc | apply Kd.R_drewN | apply Kd.R_drew)); exact Kd.R_mono (Kd.R_far (p := ⟨b3, 1, none⟩) (Kd.R_far (p := ⟨b3, 0, none⟩) (Kd.R_types a1.out b8.out (by decide)) (fun _ hk => hk.2) (.int .i64 d0)) (fun _ hk => hk.2) (.int .i64 c8)) (fun _ hk => ⟨hk.1.1, hk.1.2⟩)⟩
                    have t9 : Aside0 (Kd.R (Kd.int .i64) 3 ((h9.setCell ⟨b3, 0, none⟩ (.int .i64 d0)).setCell ⟨b3, 1, none⟩ (.int .i64 c8)) w.heap.size (fun k_ => some k_ ≠ (.slice (some b6) a7.length b2 : Value).ownBlock ∧ some k_ ≠ (.slice (some b6) a7.length b2 : Value).ownBlock) (.slice (some b7) a8.length b9) a8) := ⟨by (with_reducible repeat (first | apply Kd.R_alloc | apply Kd.R_drewN | apply Kd.R_drew)); exact Kd.R_mono (Kd.R_far (p := ⟨b3, 1, none⟩) (Kd.R_far (p := ⟨b3, 0, none⟩) (Kd.R_types a2.out b8.out (by decide)) (fun _ hk => hk.2) (.int .i64 d0)) (fun _ hk => hk.2) (.int .i64 c8)) (fun _ hk => ⟨hk.1.1, hk.1.2⟩)⟩
                    have A1 : Aside0 (Kd.S (Kd.slice 3 (Kd.int .i64)) 23 ((h9.setCell ⟨b3, 0, none⟩ (.int .i64 d0)).setCell ⟨b3, 1, none⟩ (.int .i64 c8)) w.heap.size (fun k_ => some k_ ≠ (.slice (some b6) a7.length b2 : Value).ownBlock ∧ some k_ ≠ (.slice (some b7) a8.length b9 : Value).ownBlock ∧ some k_ ≠ (.slice (some b6) a7.length b2 : Value).ownBlock ∧ some k_ ≠ (.slice (some b7) a8.length b9 : Value).ownBlock ∧ some k_ ≠ (c2 : Value).ownBlock) (.slice j7 b1.length j0) b1) := ⟨by (with_reducible repeat (first | apply Kd.S_alloc | apply Kd.S_drewN | apply Kd.S_drew)); exact Kd.S_mono (Kd.S_far (p := ⟨b3, 1, none⟩) (Kd.S_far (p := ⟨b3, 0, none⟩) (Kd.S_types a4.out b8.out (by decide)) (fun _ hk => hk.2) (.int .i64 d0)) (fun _ hk => hk.2) (.int .i64 c8)) (fun _ hk => ⟨hk.1.1, ⟨hk.1.2.1, ⟨hk.1.2.2.1, ⟨hk.1.2.2.2.1, hk.1.2.2.2.2⟩⟩⟩⟩)⟩
                    have A3 : Aside0 (Kd.R (Kd.int .i64) 3 ((h9.setCell ⟨b3, 0, none⟩ (.int .i64 d0)).setCell ⟨b3, 1, none⟩ (.int .i64 c8)) w.heap.size (fun k_ => some k_ ≠ (.slice (some b7) a8.length b9 : Value).ownBlock ∧ some k_ ≠ (.slice (some b7) a8.length b9 : Value).ownBlock) (.slice (some b6) a7.length b2) a7) := ⟨by (with_reducible repeat (first | apply Kd.R_alloc | apply Kd.R_drewN | apply Kd.R_drew)); exact Kd.R_mono (Kd.R_far (p := ⟨b3, 1, none⟩) (Kd.R_far (p := ⟨b3, 0, none⟩) (Kd.R_types a5.out b8.out (by decide)) (fun _ hk => hk.2) (.int .i64 d0)) (fun _ hk => hk.2) (.int .i64 c8)) (fun _ hk => ⟨hk.1.1, hk.1.2⟩)⟩
                    have A5 : Aside0 (Kd.R (Kd.int .i64) 3 ((h9.setCell ⟨b3, 0, none⟩ (.int .i64 d0)).setCell ⟨b3, 1, none⟩ (.int .i64 c8)) w.heap.size (fun k_ => some k_ ≠ (.slice (some b6) a7.length b2 : Value).ownBlock ∧ some k_ ≠ (.slice (some b6) a7.length b2 : Value).ownBlock) (.slice (some b7) a8.length b9) a8) := ⟨by (with_reducible repeat (first | apply Kd.R_alloc | apply Kd.R_drewN | apply Kd.R_drew)); exact Kd.R_mono (Kd.R_far (p := ⟨b3, 1, none⟩) (Kd.R_far (p := ⟨b3, 0, none⟩) (Kd.R_types a6.out b8.out (by decide)) (fun _ hk => hk.2) (.int .i64 d0)) (fun _ hk => hk.2) (.int .i64 c8)) (fun _ hk => ⟨hk.1.1, hk.1.2⟩)⟩
                    have A6 : Aside0 (Kd.S (Kd.slice 3 (Kd.int .i64)) 23 ((h9.setCell ⟨b3, 0, none⟩ (.int .i64 d0)).setCell ⟨b3, 1, none⟩ (.int .i64 c8)) w.heap.size (fun k_ => some k_ ≠ (.slice (some b6) a7.length b2 : Value).ownBlock ∧ some k_ ≠ (.slice (some b7) a8.length b9 : Value).ownBlock ∧ some k_ ≠ (.slice j7 b1.length j0 : Value).ownBlock ∧ some k_ ≠ (.slice (some b6) a7.length b2 : Value).ownBlock ∧ some k_ ≠ (.slice (some b7) a8.length b9 : Value).ownBlock) c2 b4) := ⟨by (with_reducible repeat (first | apply Kd.S_alloc | apply Kd.S_drewN | apply Kd.S_drew)); exact Kd.S_mono (Kd.S_far (p := ⟨b3, 1, none⟩) (Kd.S_far (p := ⟨b3, 0, none⟩) (Kd.S_types a3.out b8.out (by decide)) (fun _ hk => hk.2) (.int .i64 d0)) (fun _ hk => hk.2) (.int .i64 c8)) (fun _ hk => ⟨hk.1.1, ⟨hk.1.2.1, ⟨hk.1.2.2.1, ⟨hk.1.2.2.2.1, hk.1.2.2.2.2⟩⟩⟩⟩)⟩
                    have A7 : Aside0 (((h9.setCell ⟨b3, 0, none⟩ (.int .i64 d0)).setCell ⟨b3, 1, none⟩ (.int .i64 c8)).heap[c4]? = some (.cells #[.slice (some b6) a7.length b2, .slice (some b7) a8.length b9, .slice j7 b1.length j0] 50 (0, 0))) := ⟨by (with_reducible repeat (first | refine blk_drewN ?_ _ | refine blk_drew ?_ | refine blk_alloc ?_ _)); refine blk_far ?_ d1.out _; (with_reducible repeat (first | refine blk_drewN ?_ _ | refine blk_drew ?_ | refine blk_alloc ?_ _)); refine blk_far ?_ d1.out _; (with_reducible repeat (first | refine blk_drewN ?_ _ | refine blk_drew ?_ | refine blk_alloc ?_ _)); exact a9.out⟩
                    have A8 : Aside0 (((h9.setCell ⟨b3, 0, none⟩ (.int .i64 d0)).setCell ⟨b3, 1, none⟩ (.int .i64 c8)).heap[c6]? = some (.cells #[.slice (some b6) a7.length b2, .slice (some b7) a8.length b9, c2] 50 (0, 0))) := ⟨by (with_reducible repeat (first | refine blk_drewN ?_ _ | refine blk_drew ?_ | refine blk_alloc ?_ _)); refine blk_far ?_ g4.out _; (with_reducible repeat (first | refine blk_drewN ?_ _ | refine blk_drew ?_ | refine blk_alloc ?_ _)); refine blk_far ?_ g4.out _; (with_reducible repeat (first | refine blk_drewN ?_ _ | refine blk_drew ?_ | refine blk_alloc ?_ _)); exact b0.out⟩
                    have A9 : Aside0 (((h9.setCell ⟨b3, 0, none⟩ (.int .i64 d0)).setCell ⟨b3, 1, none⟩ (.int .i64 c8)).heap[b3]? = some (.cells #[.int .i64 d0, .int .i64 c8] 26 (0, 0))) := ⟨by (with_reducible repeat (first | refine blk_drewN ?_ _ | refine blk_drew ?_ | refine blk_alloc ?_ _)); refine blk_put (cs := #[.int .i64 d0, .int .i64 0]) ?_ 1 _ rfl; (with_reducible repeat (first | refine blk_drewN ?_ _ | refine blk_drew ?_ | refine blk_alloc ?_ _)); refine blk_put (cs := #[.int .i64 0, .int .i64 0]) ?_ 0 _ rfl; (with_reducible repeat (first | refine blk_drewN ?_ _ | refine blk_drew ?_ | refine blk_alloc ?_ _)); exact b8.out⟩
                    have B0 : Aside0 (Below w.heap.size w ((h9.setCell ⟨b3, 0, none⟩ (.int .i64 d0)).setCell ⟨b3, 1, none⟩ (.int .i64 c8))) := ⟨by repeat (first | (with_reducible first | exact HB.out | apply below_alloc | apply pw_below_drewN | apply below_drew1 | refine below_set ?_ n2.out) | exact HB.out)⟩
                    (try clear a1); (try clear a2); (try clear a4); (try clear a5); (try clear a6); (try clear a3); (try clear a9); (try clear b0); (try clear b8); (try clear HB)
                    generalize ((h9.setCell ⟨b3, 0, none⟩ (.int .i64 d0)).setCell ⟨b3, 1, none⟩ (.int .i64 c8)) = w55 at t8 t9 A1 A3 A5 A6 A7 A8 A9 B0 ⊢
                    have a1 := t8
                    have a2 := t9
                    have a4 := A1
                    have a5 := A3
                    have a6 := A5
                    have a3 := A6
                    have a9 := A7
                    have b0 := A8
                    have b8 := A9
                    have HB := B0
                    clear t8 t9 A1 A3 A5 A6 A7 A8 A9 B0
                    replace a1 := dR_ a1; replace a2 := dR_ a2; replace a4 := mk_ (Kd.S_drew a4.out); replace a5 := dR_ a5; replace a6 := dR_ a6; replace a3 := mk_ (Kd.S_drew a3.out); replace a9 := dB_ a9; replace b0 := dB_ b0; replace b8 := dB_ b8; replace HB := dH_ HB
                    have B6 : 0 ≤ (g8 : Int) := od_
                    have B7 : g8 < (b1.length : Int) := od_
                    obtain ⟨C7, W0, E2, W1, n7, q5, q6⟩ := at_L2 (Kd.S_reads' a4.out).2.2 g8 B6 B7; cases W1
                    obtain ⟨Z6, hce181, hMe181, B1⟩ := Kd.S_get a4.out [] g8 B6 (by first | exact B7 | exact od_ | (have e_ := (Kd.S_reads' a4.out).1; omega))
                    obtain ⟨ve181_0, rfl, n8⟩ := hMe181
                    have m6 := B1 0 _ rfl
                    rw [Nat.add_zero, show ((Kd.slice 3 (Kd.int .i64))).sz = 1 from rfl, Nat.mul_one] at m6
                    replace m6 := Option.some.inj (m6.symm.trans n7)
                    rw [m6] at n8
                    have B9 := mk_ (show Kd.R (Kd.int .i64) 3 _ _ _ _ (rd_L2 b1 g8) from n8); clear m6 n8; clear B1 hce181; have n9 := mk_ q6; have O7 := mk_ q5; clear q6 q5; replace B6 := eq_true B6; replace B7 := eq_true B7
                    have E3 : 0 ≤ (h5 : Int) := od_
                    have E4 : h5 < ((rd_L2 b1 g8).length : Int) := od_
                    obtain ⟨C8, W2, q7⟩ := Kd.at_int (by repeat (first | (with_reducible exact n9.out) | (with_reducible refine Kd.C_alloc ?_ _) | (with_reducible refine Kd.C_drewN ?_ _) | (with_reducible refine Kd.C_drew ?_) | exact n9.out)) h5 E3 E4; cases W2; replace E3 := eq_true E3; replace E4 := eq_true E4
                    refine start_ (n := 20) (S := fun w' => w'.cell? ⟨b3, 0, none⟩ = some (.int .i64 d0) ∧ w'.cell? ⟨b3, 1, none⟩ = some (.int .i64 c8) ∧ w'.cell? ⟨c4, 0, none⟩ = some (.slice (some b6) a7.length b2) ∧ w'.cell? ⟨c4, 1, none⟩ = some (.slice (some b7) a8.length b9) ∧ w'.cell? ⟨c4, 2, none⟩ = some (.slice (some C7) b1.length j0) ∧ w'.cell? (C7.add (g8).toNat) = some (.slice (some C8) (rd_L2 b1 g8).length E2) ∧ w'.cell? (C8.add (h5).toNat) = some (.int .i64 (rd (rd_L2 b1 g8) h5))) (ds := []) (bs_ 20 0) (by kernel_rfl) rfl (by kernel_rfl) ⟨bc0_ b8, bc1_ b8, bc0_ a9, bc1_ a9, bc2_ a9, n7, q7⟩ (fun hHeld => ?_); refine with_tabW laws_FnGrid.tab17 laws_FnGrid.bits17 (fun HT_ HW_ => ?_)
                    generalize w55.drew = w56 at a1 a2 a4 a5 a6 a3 a9 b0 b8 HB B9 n9 n7 q7 hHeld ⊢
                    refine pu_ HT_ 0 79 (bs_ 20 1) ?_; refine pu_ HT_ 1 80 (bs_ 20 3) ?_; refine pu_ HT_ 2 81 (bs_ 20 7) ?_; refine pu_ HT_ 3 82 (bs_ 20 15) ?_; refine tk_ HT_ HW_ 4 83 (bs_ 20 31) hHeld ?_; refine pu_ HT_ 5 84 (bs_ 20 63) ?_; refine pu_ HT_ 6 85 (bs_ 20 127) ?_; refine pu_ HT_ 7 86 (bs_ 20 255) ?_; refine pu_ HT_ 8 87 (bs_ 20 511) ?_; refine pu_ HT_ 10 89 (bs_ 20 1535) ?_; refine pu_ HT_ 12 91 (bs_ 20 5631) ?_; refine pu_ HT_ 15 94 (bs_ 20 38399) ?_; refine tk_ HT_ HW_ 9 88 (bs_ 20 38911) hHeld ?_; refine tk_ HT_ HW_ 11 90 (bs_ 20 40959) hHeld ?_; refine pu_ HT_ 13 92 (bs_ 20 49151) ?_; refine tk_ HT_ HW_ 14 93 (bs_ 20 65535) hHeld ?_; refine pu_ HT_ 16 95 (bs_ 20 131071) ?_; refine tk_ HT_ HW_ 17 96 (bs_ 20 262143) hHeld ?_; refine pu_ HT_ 18 97 (bs_ 20 524287) ?_; refine pu_ HT_ 19 98 (bs_ 20 1048575) ?_
                    refine done_ (done_of HT_.out (by kernel_rfl)) ?_
                    try go_wp2
                    go_meet
                    case rel => exact ⟨_, ((d0 != (rd (rd_L2 b1 g8) h5))), rf_, H', ⟨by have := p9.out; have := s8.out; have := D4.out; first | omega | exact Nat.le_refl _⟩, kw_ a1, kw_ a2, ⟨by (with_reducible repeat (first | apply Kd.S_alloc | apply Kd.S_drewN | apply Kd.S_drew)); exact a4.out⟩, kw_ a5, kw_ a6, ⟨by (with_reducible repeat (first | apply Kd.S_alloc | apply Kd.S_drewN | apply Kd.S_drew)); exact a3.out⟩, bw_ a9, bw_ b0, bw_ b8, ⟨hw_ HB⟩⟩
                   ·rw [if_neg O6] at H
                    exact absurd H (by simp)
                  ·rw [if_neg O5] at H
                   exact absurd H (by simp)
                 ·rw [if_neg E1] at H; have o8 : (c8 == 1) = false := beq_eq_false_iff_ne.mpr E1; have H4 : (c8 != 1) = true := bne_iff_ne.mpr E1
                  (first | rw [o8] | (simp only [i64_w, i32_w]; rw [o8]) | skip)
                  have H' := mk_ H
                  clear H
                  try go_wp2
                  have t8 : Aside0 (Kd.R (Kd.int .i64) 3 ((h9.setCell ⟨b3, 0, none⟩ (.int .i64 d0)).setCell ⟨b3, 1, none⟩ (.int .i64 c8)) w.heap.size (fun k_ => some k_ ≠ (.slice (some b7) a8.length b9 : Value).ownBlock ∧ some k_ ≠ (.slice (some b7) a8.length b9 : Value).ownBlock) (.slice (some b6) a7.length b2) a7) := ⟨by (with_reducible repeat (first | apply Kd.R_alloc | apply Kd.R_drewN | apply Kd.R_drew)); exact Kd.R_mono (Kd.R_far (p := ⟨b3, 1, none⟩) (Kd.R_far (p := ⟨b3, 0, none⟩) (Kd.R_types a1.out b8.out (by decide)) (fun _ hk => hk.2) (.int .i64 d0)) (fun _ hk => hk.2) (.int .i64 c8)) (fun _ hk => ⟨hk.1.1, hk.1.2⟩)⟩
                  have t9 : Aside0 (Kd.R (Kd.int .i64) 3 ((h9.setCell ⟨b3, 0, none⟩ (.int .i64 d0)).setCell ⟨b3, 1, none⟩ (.int .i64 c8)) w.heap.size (fun k_ => some k_ ≠ (.slice (some b6) a7.length b2 : Value).ownBlock ∧ some k_ ≠ (.slice (some b6) a7.length b2 : Value).ownBlock) (.slice (some b7) a8.length b9) a8) := ⟨by (with_reducible repeat (first | apply Kd.R_alloc | apply Kd.R_drewN | apply Kd.R_drew)); exact Kd.R_mono (Kd.R_far (p := ⟨b3, 1, none⟩) (Kd.R_far (p := ⟨b3, 0, none⟩) (Kd.R_types a2.out b8.out (by decide)) (fun _ hk => hk.2) (.int .i64 d0)) (fun _ hk => hk.2) (.int .i64 c8)) (fun _ hk => ⟨hk.1.1, hk.1.2⟩)⟩
                  have A1 : Aside0 (Kd.S (Kd.slice 3 (Kd.int .i64)) 23 ((h9.setCell ⟨b3, 0, none⟩ (.int .i64 d0)).setCell ⟨b3, 1, none⟩ (.int .i64 c8)) w.heap.size (fun k_ => some k_ ≠ (.slice (some b6) a7.length b2 : Value).ownBlock ∧ some k_ ≠ (.slice (some b7) a8.length b9 : Value).ownBlock ∧ some k_ ≠ (.slice (some b6) a7.length b2 : Value).ownBlock ∧ some k_ ≠ (.slice (some b7) a8.length b9 : Value).ownBlock ∧ some k_ ≠ (c2 : Value).ownBlock) (.slice j7 b1.length j0) b1) := ⟨by (with_reducible repeat (first | apply Kd.S_alloc | apply Kd.S_drewN | apply Kd.S_drew)); exact Kd.S_mono (Kd.S_far (p := ⟨b3, 1, none⟩) (Kd.S_far (p := ⟨b3, 0, none⟩) (Kd.S_types a4.out b8.out (by decide)) (fun _ hk => hk.2) (.int .i64 d0)) (fun _ hk => hk.2) (.int .i64 c8)) (fun _ hk => ⟨hk.1.1, ⟨hk.1.2.1, ⟨hk.1.2.2.1, ⟨hk.1.2.2.2.1, hk.1.2.2.2.2⟩⟩⟩⟩)⟩
                  have A3 : Aside0 (Kd.R (Kd.int .i64) 3 ((h9.setCell ⟨b3, 0, none⟩ (.int .i64 d0)).setCell ⟨b3, 1, none⟩ (.int .i64 c8)) w.heap.size (fun k_ => some k_ ≠ (.slice (some b7) a8.length b9 : Value).ownBlock ∧ some k_ ≠ (.slice (some b7) a8.length b9 : Value).ownBlock) (.slice (some b6) a7.length b2) a7) := ⟨by (with_reducible repeat (first | apply Kd.R_alloc | apply Kd.R_drewN | apply Kd.R_drew)); exact Kd.R_mono (Kd.R_far (p := ⟨b3, 1, none⟩) (Kd.R_far (p := ⟨b3, 0, none⟩) (Kd.R_types a5.out b8.out (by decide)) (fun _ hk => hk.2) (.int .i64 d0)) (fun _ hk => hk.2) (.int .i64 c8)) (fun _ hk => ⟨hk.1.1, hk.1.2⟩)⟩
                  have A5 : Aside0 (Kd.R (Kd.int .i64) 3 ((h9.setCell ⟨b3, 0, none⟩ (.int .i64 d0)).setCell ⟨b3, 1, none⟩ (.int .i64 c8)) w.heap.size (fun k_ => some k_ ≠ (.slice (some b6) a7.length b2 : Value).ownBlock ∧ some k_ ≠ (.slice (some b6) a7.length b2 : Value).ownBlock) (.slice (some b7) a8.length b9) a8) := ⟨by (with_reducible repeat (first | apply Kd.R_alloc | apply Kd.R_drewN | apply Kd.R_drew)); exact Kd.R_mono (Kd.R_far (p := ⟨b3, 1, none⟩) (Kd.R_far (p := ⟨b3, 0, none⟩) (Kd.R_types a6.out b8.out (by decide)) (fun _ hk => hk.2) (.int .i64 d0)) (fun _ hk => hk.2) (.int .i64 c8)) (fun _ hk => ⟨hk.1.1, hk.1.2⟩)⟩
                  have A6 : Aside0 (Kd.S (Kd.slice 3 (Kd.int .i64)) 23 ((h9.setCell ⟨b3, 0, none⟩ (.int .i64 d0)).setCell ⟨b3, 1, none⟩ (.int .i64 c8)) w.heap.size (fun k_ => some k_ ≠ (.slice (some b6) a7.length b2 : Value).ownBlock ∧ some k_ ≠ (.slice (some b7) a8.length b9 : Value).ownBlock ∧ some k_ ≠ (.slice j7 b1.length j0 : Value).ownBlock ∧ some k_ ≠ (.slice (some b6) a7.length b2 : Value).ownBlock ∧ some k_ ≠ (.slice (some b7) a8.length b9 : Value).ownBlock) c2 b4) := ⟨by (with_reducible repeat (first | apply Kd.S_alloc | apply Kd.S_drewN | apply Kd.S_drew)); exact Kd.S_mono (Kd.S_far (p := ⟨b3, 1, none⟩) (Kd.S_far (p := ⟨b3, 0, none⟩) (Kd.S_types a3.out b8.out (by decide)) (fun _ hk => hk.2) (.int .i64 d0)) (fun _ hk => hk.2) (.int .i64 c8)) (fun _ hk => ⟨hk.1.1, ⟨hk.1.2.1, ⟨hk.1.2.2.1, ⟨hk.1.2.2.2.1, hk.1.2.2.2.2⟩⟩⟩⟩)⟩
                  have A7 : Aside0 (((h9.setCell ⟨b3, 0, none⟩ (.int .i64 d0)).setCell ⟨b3, 1, none⟩ (.int .i64 c8)).heap[c4]? = some (.cells #[.slice (some b6) a7.length b2, .slice (some b7) a8.length b9, .slice j7 b1.length j0] 50 (0, 0))) := ⟨by (with_reducible repeat (first | refine blk_drewN ?_ _ | refine blk_drew ?_ | refine blk_alloc ?_ _)); refine blk_far ?_ d1.out _; (with_reducible repeat (first | refine blk_drewN ?_ _ | refine blk_drew ?_ | refine blk_alloc ?_ _)); refine blk_far ?_ d1.out _; (with_reducible repeat (first | refine blk_drewN ?_ _ | refine blk_drew ?_ | refine blk_alloc ?_ _)); exact a9.out⟩
                  have A8 : Aside0 (((h9.setCell ⟨b3, 0, none⟩ (.int .i64 d0)).setCell ⟨b3, 1, none⟩ (.int .i64 c8)).heap[c6]? = some (.cells #[.slice (some b6) a7.length b2, .slice (some b7) a8.length b9, c2] 50 (0, 0))) := ⟨by (with_reducible repeat (first | refine blk_drewN ?_ _ | refine blk_drew ?_ | refine blk_alloc ?_ _)); refine blk_far ?_ g4.out _; (with_reducible repeat (first | refine blk_drewN ?_ _ | refine blk_drew ?_ | refine blk_alloc ?_ _)); refine blk_far ?_ g4.out _; (with_reducible repeat (first | refine blk_drewN ?_ _ | refine blk_drew ?_ | refine blk_alloc ?_ _)); exact b0.out⟩
                  have A9 : Aside0 (((h9.setCell ⟨b3, 0, none⟩ (.int .i64 d0)).setCell ⟨b3, 1, none⟩ (.int .i64 c8)).heap[b3]? = some (.cells #[.int .i64 d0, .int .i64 c8] 26 (0, 0))) := ⟨by (with_reducible repeat (first | refine blk_drewN ?_ _ | refine blk_drew ?_ | refine blk_alloc ?_ _)); refine blk_put (cs := #[.int .i64 d0, .int .i64 0]) ?_ 1 _ rfl; (with_reducible repeat (first | refine blk_drewN ?_ _ | refine blk_drew ?_ | refine blk_alloc ?_ _)); refine blk_put (cs := #[.int .i64 0, .int .i64 0]) ?_ 0 _ rfl; (with_reducible repeat (first | refine blk_drewN ?_ _ | refine blk_drew ?_ | refine blk_alloc ?_ _)); exact b8.out⟩
                  have B0 : Aside0 (Below w.heap.size w ((h9.setCell ⟨b3, 0, none⟩ (.int .i64 d0)).setCell ⟨b3, 1, none⟩ (.int .i64 c8))) := ⟨by repeat (first | (with_reducible first | exact HB.out | apply below_alloc | apply pw_below_drewN | apply below_drew1 | refine below_set ?_ n2.out) | exact HB.out)⟩
                  (try clear a1); (try clear a2); (try clear a4); (try clear a5); (try clear a6); (try clear a3); (try clear a9); (try clear b0); (try clear b8); (try clear HB)
                  generalize ((h9.setCell ⟨b3, 0, none⟩ (.int .i64 d0)).setCell ⟨b3, 1, none⟩ (.int .i64 c8)) = w57 at t8 t9 A1 A3 A5 A6 A7 A8 A9 B0 ⊢
                  have a1 := t8
                  have a2 := t9
                  have a4 := A1
                  have a5 := A3
                  have a6 := A5
                  have a3 := A6
                  have a9 := A7
                  have b0 := A8
                  have b8 := A9
                  have HB := B0
                  clear t8 t9 A1 A3 A5 A6 A7 A8 A9 B0
                  replace a1 := dR_ a1; replace a2 := dR_ a2; replace a4 := mk_ (Kd.S_drew a4.out); replace a5 := dR_ a5; replace a6 := dR_ a6; replace a3 := mk_ (Kd.S_drew a3.out); replace a9 := dB_ a9; replace b0 := dB_ b0; replace b8 := dB_ b8; replace HB := dH_ HB
                  refine start_ (n := 20) (S := fun w' => w'.cell? ⟨b3, 0, none⟩ = some (.int .i64 d0) ∧ w'.cell? ⟨b3, 1, none⟩ = some (.int .i64 c8)) (ds := []) (bs_ 20 0) (by kernel_rfl) rfl (by kernel_rfl) ⟨bc0_ b8, bc1_ b8⟩ (fun hHeld => ?_); refine with_tabW laws_FnGrid.tab17 laws_FnGrid.bits17 (fun HT_ HW_ => ?_)
                  generalize w57.drew = w58 at a1 a2 a4 a5 a6 a3 a9 b0 b8 HB hHeld ⊢
                  refine pu_ HT_ 0 79 (bs_ 20 1) ?_; refine pu_ HT_ 1 80 (bs_ 20 3) ?_; refine pu_ HT_ 2 81 (bs_ 20 7) ?_; refine pu_ HT_ 3 82 (bs_ 20 15) ?_; refine tk_ HT_ HW_ 4 83 (bs_ 20 31) hHeld ?_; refine pu_ HT_ 5 84 (bs_ 20 63) ?_; refine pu_ HT_ 6 85 (bs_ 20 127) ?_; refine pu_ HT_ 7 86 (bs_ 20 255) ?_; refine pn_ HT_ 8 87 (bs_ 20 511) ?_; refine pn_ HT_ 9 88 (bs_ 20 1023) ?_; refine pn_ HT_ 10 89 (bs_ 20 2047) ?_; refine pn_ HT_ 11 90 (bs_ 20 4095) ?_; refine pn_ HT_ 12 91 (bs_ 20 8191) ?_; refine pn_ HT_ 13 92 (bs_ 20 16383) ?_; refine pn_ HT_ 14 93 (bs_ 20 32767) ?_; refine pn_ HT_ 15 94 (bs_ 20 65535) ?_; refine pn_ HT_ 16 95 (bs_ 20 131071) ?_; refine pn_ HT_ 17 96 (bs_ 20 262143) ?_; refine pn_ HT_ 18 97 (bs_ 20 524287) ?_; refine pu_ HT_ 19 98 (bs_ 20 1048575) ?_
                  refine done_ (done_of HT_.out (by kernel_rfl)) ?_
                  try go_wp2
                  go_meet
                  case rel => exact ⟨_, (true), rf_, H', ⟨by have := p9.out; have := s8.out; have := D4.out; first | omega | exact Nat.le_refl _⟩, kw_ a1, kw_ a2, ⟨by (with_reducible repeat (first | apply Kd.S_alloc | apply Kd.S_drewN | apply Kd.S_drew)); exact a4.out⟩, kw_ a5, kw_ a6, ⟨by (with_reducible repeat (first | apply Kd.S_alloc | apply Kd.S_drewN | apply Kd.S_drew)); exact a3.out⟩, bw_ a9, bw_ b0, bw_ b8, ⟨hw_ HB⟩⟩
                ·replace O4 := Bool.eq_false_iff.mpr O4; subst O4; rw [if_neg (show ¬ (false = true) by decide)] at H
                 have H' := mk_ H
                 clear H
                 try go_wp2
                 have t8 : Aside0 (Kd.R (Kd.int .i64) 3 ((h9.setCell ⟨b3, 0, none⟩ (.int .i64 d0)).setCell ⟨b3, 1, none⟩ (.int .i64 c8)) w.heap.size (fun k_ => some k_ ≠ (.slice (some b7) a8.length b9 : Value).ownBlock ∧ some k_ ≠ (.slice (some b7) a8.length b9 : Value).ownBlock) (.slice (some b6) a7.length b2) a7) := ⟨by (with_reducible repeat (first | apply Kd.R_alloc | apply Kd.R_drewN | apply Kd.R_drew)); exact Kd.R_mono (Kd.R_far (p := ⟨b3, 1, none⟩) (Kd.R_far (p := ⟨b3, 0, none⟩) (Kd.R_types a1.out b8.out (by decide)) (fun _ hk => hk.2) (.int .i64 d0)) (fun _ hk => hk.2) (.int .i64 c8)) (fun _ hk => ⟨hk.1.1, hk.1.2⟩)⟩
                 have t9 : Aside0 (Kd.R (Kd.int .i64) 3 ((h9.setCell ⟨b3, 0, none⟩ (.int .i64 d0)).setCell ⟨b3, 1, none⟩ (.int .i64 c8)) w.heap.size (fun k_ => some k_ ≠ (.slice (some b6) a7.length b2 : Value).ownBlock ∧ some k_ ≠ (.slice (some b6) a7.length b2 : Value).ownBlock) (.slice (some b7) a8.length b9) a8) := ⟨by (with_reducible repeat (first | apply Kd.R_alloc | apply Kd.R_drewN | apply Kd.R_drew)); exact Kd.R_mono (Kd.R_far (p := ⟨b3, 1, none⟩) (Kd.R_far (p := ⟨b3, 0, none⟩) (Kd.R_types a2.out b8.out (by decide)) (fun _ hk => hk.2) (.int .i64 d0)) (fun _ hk => hk.2) (.int .i64 c8)) (fun _ hk => ⟨hk.1.1, hk.1.2⟩)⟩
                 have A1 : Aside0 (Kd.S (Kd.slice 3 (Kd.int .i64)) 23 ((h9.setCell ⟨b3, 0, none⟩ (.int .i64 d0)).setCell ⟨b3, 1, none⟩ (.int .i64 c8)) w.heap.size (fun k_ => some k_ ≠ (.slice (some b6) a7.length b2 : Value).ownBlock ∧ some k_ ≠ (.slice (some b7) a8.length b9 : Value).ownBlock ∧ some k_ ≠ (.slice (some b6) a7.length b2 : Value).ownBlock ∧ some k_ ≠ (.slice (some b7) a8.length b9 : Value).ownBlock ∧ some k_ ≠ (c2 : Value).ownBlock) (.slice j7 b1.length j0) b1) := ⟨by (with_reducible repeat (first | apply Kd.S_alloc | apply Kd.S_drewN | apply Kd.S_drew)); exact Kd.S_mono (Kd.S_far (p := ⟨b3, 1, none⟩) (Kd.S_far (p := ⟨b3, 0, none⟩) (Kd.S_types a4.out b8.out (by decide)) (fun _ hk => hk.2) (.int .i64 d0)) (fun _ hk => hk.2) (.int .i64 c8)) (fun _ hk => ⟨hk.1.1, ⟨hk.1.2.1, ⟨hk.1.2.2.1, ⟨hk.1.2.2.2.1, hk.1.2.2.2.2⟩⟩⟩⟩)⟩
                 have A3 : Aside0 (Kd.R (Kd.int .i64) 3 ((h9.setCell ⟨b3, 0, none⟩ (.int .i64 d0)).setCell ⟨b3, 1, none⟩ (.int .i64 c8)) w.heap.size (fun k_ => some k_ ≠ (.slice (some b7) a8.length b9 : Value).ownBlock ∧ some k_ ≠ (.slice (some b7) a8.length b9 : Value).ownBlock) (.slice (some b6) a7.length b2) a7) := ⟨by (with_reducible repeat (first | apply Kd.R_alloc | apply Kd.R_drewN | apply Kd.R_drew)); exact Kd.R_mono (Kd.R_far (p := ⟨b3, 1, none⟩) (Kd.R_far (p := ⟨b3, 0, none⟩) (Kd.R_types a5.out b8.out (by decide)) (fun _ hk => hk.2) (.int .i64 d0)) (fun _ hk => hk.2) (.int .i64 c8)) (fun _ hk => ⟨hk.1.1, hk.1.2⟩)⟩
                 have A5 : Aside0 (Kd.R (Kd.int .i64) 3 ((h9.setCell ⟨b3, 0, none⟩ (.int .i64 d0)).setCell ⟨b3, 1, none⟩ (.int .i64 c8)) w.heap.size (fun k_ => some k_ ≠ (.slice (some b6) a7.length b2 : Value).ownBlock ∧ some k_ ≠ (.slice (some b6) a7.length b2 : Value).ownBlock) (.slice (some b7) a8.length b9) a8) := ⟨by (with_reducible repeat (first | apply Kd.R_alloc | apply Kd.R_drewN | apply Kd.R_drew)); exact Kd.R_mono (Kd.R_far (p := ⟨b3, 1, none⟩) (Kd.R_far (p := ⟨b3, 0, none⟩) (Kd.R_types a6.out b8.out (by decide)) (fun _ hk => hk.2) (.int .i64 d0)) (fun _ hk => hk.2) (.int .i64 c8)) (fun _ hk => ⟨hk.1.1, hk.1.2⟩)⟩
                 have A6 : Aside0 (Kd.S (Kd.slice 3 (Kd.int .i64)) 23 ((h9.setCell ⟨b3, 0, none⟩ (.int .i64 d0)).setCell ⟨b3, 1, none⟩ (.int .i64 c8)) w.heap.size (fun k_ => some k_ ≠ (.slice (some b6) a7.length b2 : Value).ownBlock ∧ some k_ ≠ (.slice (some b7) a8.length b9 : Value).ownBlock ∧ some k_ ≠ (.slice j7 b1.length j0 : Value).ownBlock ∧ some k_ ≠ (.slice (some b6) a7.length b2 : Value).ownBlock ∧ some k_ ≠ (.slice (some b7) a8.length b9 : Value).ownBlock) c2 b4) := ⟨by (with_reducible repeat (first | apply Kd.S_alloc | apply Kd.S_drewN | apply Kd.S_drew)); exact Kd.S_mono (Kd.S_far (p := ⟨b3, 1, none⟩) (Kd.S_far (p := ⟨b3, 0, none⟩) (Kd.S_types a3.out b8.out (by decide)) (fun _ hk => hk.2) (.int .i64 d0)) (fun _ hk => hk.2) (.int .i64 c8)) (fun _ hk => ⟨hk.1.1, ⟨hk.1.2.1, ⟨hk.1.2.2.1, ⟨hk.1.2.2.2.1, hk.1.2.2.2.2⟩⟩⟩⟩)⟩
                 have A7 : Aside0 (((h9.setCell ⟨b3, 0, none⟩ (.int .i64 d0)).setCell ⟨b3, 1, none⟩ (.int .i64 c8)).heap[c4]? = some (.cells #[.slice (some b6) a7.length b2, .slice (some b7) a8.length b9, .slice j7 b1.length j0] 50 (0, 0))) := ⟨by (with_reducible repeat (first | refine blk_drewN ?_ _ | refine blk_drew ?_ | refine blk_alloc ?_ _)); refine blk_far ?_ d1.out _; (with_reducible repeat (first | refine blk_drewN ?_ _ | refine blk_drew ?_ | refine blk_alloc ?_ _)); refine blk_far ?_ d1.out _; (with_reducible repeat (first | refine blk_drewN ?_ _ | refine blk_drew ?_ | refine blk_alloc ?_ _)); exact a9.out⟩
                 have A8 : Aside0 (((h9.setCell ⟨b3, 0, none⟩ (.int .i64 d0)).setCell ⟨b3, 1, none⟩ (.int .i64 c8)).heap[c6]? = some (.cells #[.slice (some b6) a7.length b2, .slice (some b7) a8.length b9, c2] 50 (0, 0))) := ⟨by (with_reducible repeat (first | refine blk_drewN ?_ _ | refine blk_drew ?_ | refine blk_alloc ?_ _)); refine blk_far ?_ g4.out _; (with_reducible repeat (first | refine blk_drewN ?_ _ | refine blk_drew ?_ | refine blk_alloc ?_ _)); refine blk_far ?_ g4.out _; (with_reducible repeat (first | refine blk_drewN ?_ _ | refine blk_drew ?_ | refine blk_alloc ?_ _)); exact b0.out⟩
                 have A9 : Aside0 (((h9.setCell ⟨b3, 0, none⟩ (.int .i64 d0)).setCell ⟨b3, 1, none⟩ (.int .i64 c8)).heap[b3]? = some (.cells #[.int .i64 d0, .int .i64 c8] 26 (0, 0))) := ⟨by (with_reducible repeat (first | refine blk_drewN ?_ _ | refine blk_drew ?_ | refine blk_alloc ?_ _)); refine blk_put (cs := #[.int .i64 d0, .int .i64 0]) ?_ 1 _ rfl; (with_reducible repeat (first | refine blk_drewN ?_ _ | refine blk_drew ?_ | refine blk_alloc ?_ _)); refine blk_put (cs := #[.int .i64 0, .int .i64 0]) ?_ 0 _ rfl; (with_reducible repeat (first | refine blk_drewN ?_ _ | refine blk_drew ?_ | refine blk_alloc ?_ _)); exact b8.out⟩
                 have B0 : Aside0 (Below w.heap.size w ((h9.setCell ⟨b3, 0, none⟩ (.int .i64 d0)).setCell ⟨b3, 1, none⟩ (.int .i64 c8))) := ⟨by repeat (first | (with_reducible first | exact HB.out | apply below_alloc | apply pw_below_drewN | apply below_drew1 | refine below_set ?_ n2.out) | exact HB.out)⟩
                 (try clear a1); (try clear a2); (try clear a4); (try clear a5); (try clear a6); (try clear a3); (try clear a9); (try clear b0); (try clear b8); (try clear HB)
                 generalize ((h9.setCell ⟨b3, 0, none⟩ (.int .i64 d0)).setCell ⟨b3, 1, none⟩ (.int .i64 c8)) = w59 at t8 t9 A1 A3 A5 A6 A7 A8 A9 B0 ⊢
                 have a1 := t8
                 have a2 := t9
                 have a4 := A1
                 have a5 := A3
                 have a6 := A5
                 have a3 := A6
                 have a9 := A7
                 have b0 := A8
                 have b8 := A9
                 have HB := B0
                 clear t8 t9 A1 A3 A5 A6 A7 A8 A9 B0
                 replace a1 := dR_ a1; replace a2 := dR_ a2; replace a4 := mk_ (Kd.S_drew a4.out); replace a5 := dR_ a5; replace a6 := dR_ a6; replace a3 := mk_ (Kd.S_drew a3.out); replace a9 := dB_ a9; replace b0 := dB_ b0; replace b8 := dB_ b8; replace HB := dH_ HB
                 refine start_ (n := 20) (S := fun w' => True) (ds := []) (bs_ 20 0) (by kernel_rfl) rfl rfl trivial (fun hHeld => ?_); refine with_tabW laws_FnGrid.tab17 laws_FnGrid.bits17 (fun HT_ HW_ => ?_)
                 generalize w59.drew = w60 at a1 a2 a4 a5 a6 a3 a9 b0 b8 HB hHeld ⊢
                 refine pu_ HT_ 0 79 (bs_ 20 1) ?_; refine pu_ HT_ 1 80 (bs_ 20 3) ?_; refine pu_ HT_ 2 81 (bs_ 20 7) ?_; refine pn_ HT_ 3 82 (bs_ 20 15) ?_; refine pn_ HT_ 4 83 (bs_ 20 31) ?_; refine pn_ HT_ 5 84 (bs_ 20 63) ?_; refine pu_ HT_ 6 85 (bs_ 20 127) ?_; refine pu_ HT_ 7 86 (bs_ 20 255) ?_; refine pn_ HT_ 8 87 (bs_ 20 511) ?_; refine pn_ HT_ 9 88 (bs_ 20 1023) ?_; refine pn_ HT_ 10 89 (bs_ 20 2047) ?_; refine pn_ HT_ 11 90 (bs_ 20 4095) ?_; refine pn_ HT_ 12 91 (bs_ 20 8191) ?_; refine pn_ HT_ 13 92 (bs_ 20 16383) ?_; refine pn_ HT_ 14 93 (bs_ 20 32767) ?_; refine pn_ HT_ 15 94 (bs_ 20 65535) ?_; refine pn_ HT_ 16 95 (bs_ 20 131071) ?_; refine pn_ HT_ 17 96 (bs_ 20 262143) ?_; refine pn_ HT_ 18 97 (bs_ 20 524287) ?_; refine pu_ HT_ 19 98 (bs_ 20 1048575) ?_
                 refine done_ (done_of HT_.out (by kernel_rfl)) ?_
                 try go_wp2
                 go_meet
                 case rel => exact ⟨_, (true), rf_, H', ⟨by have := p9.out; have := s8.out; have := D4.out; first | omega | exact Nat.le_refl _⟩, kw_ a1, kw_ a2, ⟨by (with_reducible repeat (first | apply Kd.S_alloc | apply Kd.S_drewN | apply Kd.S_drew)); exact a4.out⟩, kw_ a5, kw_ a6, ⟨by (with_reducible repeat (first | apply Kd.S_alloc | apply Kd.S_drewN | apply Kd.S_drew)); exact a3.out⟩, bw_ a9, bw_ b0, bw_ b8, ⟨hw_ HB⟩⟩
               case rest => as_aux_lemma =>
                clear D5
                obtain ⟨kq, n6, rfl, HA, H5, a1, a2, a4, a5, a6, a3, a9, b0, b8, HB⟩ := hcut
                cases kq with
                | zero => exact absurd HA.out (by simp [laws_FnGrid.j3])
                | succ kj42 =>
                 have H := HA.out; clear HA
                 simp only [laws_FnGrid.j3] at H
                 by_cases O8 : n6 = true
                 ·subst O8; rw [if_pos rfl] at H
                  obtain rfl := Option.some.inj H; go_wp2
                  go_ret
                  exact ⟨re_, hw_ HB⟩
                 ·replace O8 := Bool.eq_false_iff.mpr O8; subst O8; rw [if_neg (show ¬ (false = true) by decide)] at H
                  have H' := mk_ H
                  clear H; go_wp2
                  go_roundg kj42
                  case measure => have := p9.out; have := s8.out; have := D4.out; have := H5.out; omega
                  case rel => exact ⟨(wrap64 (h5 + 1)), rf_, H', ⟨by have := p9.out; have := s8.out; have := D4.out; have := H5.out; omega⟩, kw_ a1, kw_ a2, ⟨by (with_reducible repeat (first | apply Kd.S_alloc | apply Kd.S_drewN | apply Kd.S_drew)); exact a4.out⟩, kw_ a5, kw_ a6, ⟨by (with_reducible repeat (first | apply Kd.S_alloc | apply Kd.S_drewN | apply Kd.S_drew)); exact a3.out⟩, bw_ a9, bw_ b0, ⟨hw_ HB⟩⟩
              ·rw [if_neg N5] at H
               exact absurd H (by simp)
             ·rw [if_neg N4] at H
              exact absurd H (by simp)
            ·rw [if_neg N3] at H
             exact absurd H (by simp)
           ·rw [if_neg N2] at H
            exact absurd H (by simp)
          ·rw [if_neg E9] at H; have G2 : decide (h5 < 2) = false := decide_eq_false E9; clear E9
           have H' := mk_ H
           clear H; go_wp2; go_roundg k3
           case measure => have := p9.out; have := s8.out; have := D4.out; omega
           case rel => exact ⟨(wrap64 (g8 + 1)), rf_, H', ⟨by have := p9.out; have := s8.out; have := D4.out; omega⟩, kw_ a1, kw_ a2, ⟨by (with_reducible repeat (first | apply Kd.S_alloc | apply Kd.S_drewN | apply Kd.S_drew)); exact a4.out⟩, kw_ a5, kw_ a6, ⟨by (with_reducible repeat (first | apply Kd.S_alloc | apply Kd.S_drewN | apply Kd.S_drew)); exact a3.out⟩, bw_ a9, bw_ b0, ⟨hw_ HB⟩⟩
       ·rw [if_neg D3] at H; have G1 : decide (g8 < 3) = false := decide_eq_false D3; clear D3; replace H := Option.bind_eq_some_iff.mp H; obtain ⟨m4, H6, H⟩ := H; (try dsimp only at H); have Z7 := mk_ H6; clear H6; replace H := Option.bind_eq_some_iff.mp H; obtain ⟨l9, H7, H⟩ := H; (try dsimp only at H); have W3 := mk_ H7; clear H7; replace H := Option.bind_eq_some_iff.mp H; obtain ⟨⟨h8, j1, o9⟩, H8, H⟩ := H; (try dsimp only at H); have O9 := mk_ H8; clear H8; replace H := Option.bind_eq_some_iff.mp H; obtain ⟨⟨h2, h3, H9⟩, I0, H⟩ := H; (try dsimp only at H); have A65 := mk_ I0; clear I0; have E5 := mk_ H; clear H
        obtain ⟨l6, l7, W4⟩ := Kd.S_slice a3.out
        subst W4
        try go_wp2
        replace a1 := dR_ a1; replace a2 := dR_ a2; replace a4 := mk_ (Kd.S_drew a4.out); replace a5 := dR_ a5; replace a6 := dR_ a6; replace a3 := mk_ (Kd.S_drew a3.out); replace a9 := dB_ a9; replace b0 := dB_ b0; replace HB := dH_ HB
        refine start_ (n := 15) (S := fun w' => w'.cell? ⟨c6, 0, none⟩ = some (.slice b5 a7.length b2) ∧ w'.cell? ⟨c6, 1, none⟩ = some (.slice d2 a8.length b9) ∧ w'.cell? ⟨c6, 2, none⟩ = some (.slice l6 b4.length l7)) (ds := []) (bs_ 15 0) (by kernel_rfl) rfl (by kernel_rfl) ⟨bc0_ b0, bc1_ b0, bc2_ b0⟩ (fun hHeld => ?_); refine with_tabW laws_FnGrid.tab19 laws_FnGrid.bits19 (fun HT_ HW_ => ?_)
        generalize wr.drew = w68 at a1 a2 a4 a5 a6 a3 a9 b0 HB hHeld ⊢
        refine pu_ HT_ 1 101 (bs_ 15 2) ?_; refine pu_ HT_ 4 104 (bs_ 15 18) ?_; refine tk_ HT_ HW_ 0 100 (bs_ 15 19) hHeld ?_
        refine join_ (σ := Nat) 2 (bs_ 15 8191) (fun s_ => [(102, .int .i64 m4), (105, .int .i64 l9), (108, .tuple #[.agg #[.int .i64 h8, .int .i64 j1], .bool o9]), (10, .pointer (some ⟨s_, 0, none⟩)), (103, .int .i64 (Int.tmod m4 4)), (106, .int .i64 (Int.tmod l9 12)), (107, .int .i64 (wrap64 ((Int.tmod l9 12) - 2))), (99, .tuple #[.agg #[.int .i64 h8, .int .i64 j1], .bool o9]), (109, .agg #[.int .i64 h8, .int .i64 j1]), (110, .bool o9)]) (fun s_ w' => (w'.cell? ⟨c6, 0, none⟩ = some (.slice b5 a7.length b2) ∧ w'.cell? ⟨c6, 1, none⟩ = some (.slice d2 a8.length b9) ∧ w'.cell? ⟨c6, 2, none⟩ = some (.slice l6 b4.length l7)) ∧ (Kd.R (Kd.int .i64) 3 w' w.heap.size (fun k_ => some k_ ≠ (.slice d2 a8.length b9 : Value).ownBlock ∧ some k_ ≠ (.slice d2 a8.length b9 : Value).ownBlock) (.slice b5 a7.length b2) a7) ∧ (Kd.R (Kd.int .i64) 3 w' w.heap.size (fun k_ => some k_ ≠ (.slice b5 a7.length b2 : Value).ownBlock ∧ some k_ ≠ (.slice b5 a7.length b2 : Value).ownBlock) (.slice d2 a8.length b9) a8) ∧ (Kd.S (Kd.slice 3 (Kd.int .i64)) 23 w' w.heap.size (fun k_ => some k_ ≠ (.slice b5 a7.length b2 : Value).ownBlock ∧ some k_ ≠ (.slice d2 a8.length b9 : Value).ownBlock ∧ some k_ ≠ (.slice b5 a7.length b2 : Value).ownBlock ∧ some k_ ≠ (.slice d2 a8.length b9 : Value).ownBlock ∧ some k_ ≠ (.slice l6 b4.length l7 : Value).ownBlock) d4 b1) ∧ (Kd.R (Kd.int .i64) 3 w' w.heap.size (fun k_ => some k_ ≠ (.slice d2 a8.length b9 : Value).ownBlock ∧ some k_ ≠ (.slice d2 a8.length b9 : Value).ownBlock) (.slice b5 a7.length b2) a7) ∧ (Kd.R (Kd.int .i64) 3 w' w.heap.size (fun k_ => some k_ ≠ (.slice b5 a7.length b2 : Value).ownBlock ∧ some k_ ≠ (.slice b5 a7.length b2 : Value).ownBlock) (.slice d2 a8.length b9) a8) ∧ (Kd.S (Kd.slice 3 (Kd.int .i64)) 23 w' w.heap.size (fun k_ => some k_ ≠ (.slice b5 a7.length b2 : Value).ownBlock ∧ some k_ ≠ (.slice d2 a8.length b9 : Value).ownBlock ∧ some k_ ≠ (d4 : Value).ownBlock ∧ some k_ ≠ (.slice b5 a7.length b2 : Value).ownBlock ∧ some k_ ≠ (.slice d2 a8.length b9 : Value).ownBlock) (.slice l6 b4.length l7) b4) ∧ (w'.heap[c4]? = some (.cells #[.slice b5 a7.length b2, .slice d2 a8.length b9, d4] 50 (0, 0))) ∧ (w'.heap[c6]? = some (.cells #[.slice b5 a7.length b2, .slice d2 a8.length b9, .slice l6 b4.length l7] 50 (0, 0))) ∧ (w'.heap[s_]? = some (.cells #[.int .i64 0, .int .i64 0] 26 (0, 0))) ∧ (w.heap.size ≤ s_) ∧ (w.heap.size ≤ s_) ∧ (c4 ≠ s_) ∧ (s_ ≠ c4) ∧ (c6 ≠ s_) ∧ (s_ ≠ c6) ∧ (Below w.heap.size w w')) ?_ ?_
        rotate_left
        ·intro hCont
         refine two_ (i := 2) (j := 12) (Ni := some 102) (Nj := some 10) (bs_ 15 23) (bs_ 15 4115) rfl rfl rfl rfl (two_of HT_.out (by kernel_rfl)) (by decide) (by decide) (fun K hK => ?_) (fun K hK => ?_)
         ·skip
          refine gs_ Try.func24 #[.slice A0 l0.length c0, .int .i64 9] ?_
          with_reducible refine (laws_at.calls _ _ l0 9 m4 _ ?d8 ?d9 Z7.out).mono ?_
          (case d8 => exact cw_ (Kd.C_below B3.out HB.out))
          (case d9 => exact B4.out)
          rintro e w' ⟨rfl, ⟨nd, rfl⟩⟩
          refine ⟨_, rfl, ?_⟩
          refine hK.out _ _ ⟨bc0_ b0, bc1_ b0, bc2_ b0⟩ (fun hHeld => ?_)
          clear hK K; refine nm_ 102 ?_; refine pu_ HT_ 3 103 (bs_ 15 31) ?_
          refine two_ (i := 5) (j := 12) (Ni := some 105) (Nj := some 10) (bs_ 15 63) (bs_ 15 4127) rfl rfl rfl rfl (two_of HT_.out (by kernel_rfl)) (by decide) (by decide) (fun K hK => ?_) (fun K hK => ?_)
          ·skip
           refine gs_ Try.func24 #[.slice A0 l0.length c0, .int .i64 10] ?_
           with_reducible refine (laws_at.calls _ _ l0 10 l9 _ ?d8 ?d9 W3.out).mono ?_
           (case d8 => repeat (first | exact (Kd.C_below B3.out (hw_ HB)) | (with_reducible refine Kd.C_alloc ?_ _) | (with_reducible refine Kd.C_drewN ?_ _) | (with_reducible refine Kd.C_drew ?_)))
           (case d9 => exact B4.out)
           rintro e w' ⟨rfl, ⟨nd, rfl⟩⟩
           refine ⟨_, rfl, ?_⟩
           refine hK.out _ _ ⟨bc0_ b0, bc1_ b0, bc2_ b0⟩ (fun hHeld => ?_)
           clear hK K; refine nm_ 105 ?_; refine pu_ HT_ 6 106 (bs_ 15 127) ?_; refine pu_ HT_ 7 107 (bs_ 15 255) ?_
           refine two_ (i := 8) (j := 12) (Ni := some 108) (Nj := some 10) (bs_ 15 511) (bs_ 15 4351) rfl rfl rfl rfl (two_of HT_.out (by kernel_rfl)) (by decide) (by decide) (fun K hK => ?_) (fun K hK => ?_)
           ·skip
            refine gs_ Try.func25 #[.agg #[.slice b5 a7.length b2, .slice d2 a8.length b9, .slice l6 b4.length l7], .int .i64 (Int.tmod m4 4), .int .i64 (wrap64 ((Int.tmod l9 12) - 2))] ?_
            with_reducible refine (impl_AtGrid.calls k2 _ _ a7 _ _ a8 _ _ b4 (Int.tmod m4 4) (wrap64 ((Int.tmod l9 12) - 2)) h8 j1 o9 _ ?d8 ?d9 ?j8 ?j9 ?l3 ?l4 O9.out).mono ?_
            (case d8 => exact cw_ (rr_ a5))
            (case d9 => exact (Kd.R_reads' a5.out).2.1)
            (case j8 => exact cw_ (rr_ a6))
            (case j9 => exact (Kd.R_reads' a6.out).2.1)
            (case l3 => repeat (first | exact (Kd.S_reads' a3.out).2.2 | (with_reducible refine Kd.C_alloc ?_ _) | (with_reducible refine Kd.C_drewN ?_ _) | (with_reducible refine Kd.C_drew ?_)))
            (case l4 => exact (Kd.S_reads' a3.out).2.1)
            rintro e W5 ⟨rfl, hb⟩
            refine ⟨_, rfl, ?_⟩
            replace a1 := rk_ a1 hb; replace a2 := rk_ a2 hb; replace a4 := sk_ a4 hb; replace a5 := rk_ a5 hb; replace a6 := rk_ a6 hb; replace a3 := sk_ a3 hb; replace a9 := bk_ a9 hb; replace b0 := bk_ b0 hb; replace HB := hk_ HB hb
            (try clear hb); (try clear E0); (try clear hk); (try clear hi)
            refine hK.out _ _ ⟨bc0_ b0, bc1_ b0, bc2_ b0⟩ (fun hHeld => ?_)
            clear hK K; refine nm_ 108 ?_; refine pu_ HT_ 9 99 (bs_ 15 1023) ?_; refine pu_ HT_ 10 109 (bs_ 15 2047) ?_; refine pu_ HT_ 11 110 (bs_ 15 4095) ?_
            refine one_ (i := 12) (N := some 10) (bs_ 15 8191) rfl rfl (one_of HT_.out (by kernel_rfl)) (by decide) (fun K hK => ?_)
            refine box_step ?hg (N := 10) ?hd (cs := #[.int .i64 0, .int .i64 0]) (t := 26) ?hr ?_; (case hd => rfl); (case hg => rfl); (case hr => exact hr_)
            intro c9 hg W6 hbox hb
            replace a1 := rk_ a1 hb; replace a2 := rk_ a2 hb; replace a4 := sk_ a4 hb; replace a5 := rk_ a5 hb; replace a6 := rk_ a6 hb; replace a3 := sk_ a3 hb; have c5 := mk_ (hbox); have m8 := gk_ hg HB; have m7 := gk_ hg HB; replace HB := hk_ HB hb; have d3 := nk_ hg a9; have d7 := nj_ hg a9; replace a9 := bk_ a9 hb; have c7 := nk_ hg b0; have g1 := nj_ hg b0; replace b0 := bk_ b0 hb
            clear hb hbox hg
            refine hK.out _ _ ⟨bc0_ b0, bc1_ b0, bc2_ b0⟩ (fun hHeld => ?_)
            clear hK K; refine nm_ 10 ?_
            exact norm_ (by simp only [putAll, Act.put, List.setIfInBounds_toArray, List.set_cons_zero, List.set_cons_succ]) (hCont (c9) _ ⟨hHeld, (kx_ a1), (kx_ a2), (sx_ a4), (kx_ a5), (kx_ a6), (sx_ a3), (bx_ a9), (bx_ b0), (bx_ c5), m8.out, m7.out, d3.out, d7.out, c7.out, g1.out, (hw_ HB)⟩)
           ·skip
            refine box_step ?hg (N := 10) ?hd (cs := #[.int .i64 0, .int .i64 0]) (t := 26) ?hr ?_; (case hd => rfl); (case hg => rfl); (case hr => exact hr_)
            intro c9 hg W5 hbox hb
            replace a1 := rk_ a1 hb; replace a2 := rk_ a2 hb; replace a4 := sk_ a4 hb; replace a5 := rk_ a5 hb; replace a6 := rk_ a6 hb; replace a3 := sk_ a3 hb; have c5 := mk_ (hbox); have m8 := gk_ hg HB; have m7 := gk_ hg HB; replace HB := hk_ HB hb; have d3 := nk_ hg a9; have d7 := nj_ hg a9; replace a9 := bk_ a9 hb; have c7 := nk_ hg b0; have g1 := nj_ hg b0; replace b0 := bk_ b0 hb
            clear hb hbox hg
            refine hK.out _ _ ⟨bc0_ b0, bc1_ b0, bc2_ b0⟩ (fun hHeld => ?_)
            clear hK K; refine nm_ 10 ?_
            refine one_ (i := 8) (N := some 108) (bs_ 15 4607) rfl rfl (one_of HT_.out (by kernel_rfl)) (by decide) (fun K hK => ?_)
            refine gs_ Try.func25 #[.agg #[.slice b5 a7.length b2, .slice d2 a8.length b9, .slice l6 b4.length l7], .int .i64 (Int.tmod m4 4), .int .i64 (wrap64 ((Int.tmod l9 12) - 2))] ?_
            with_reducible refine (impl_AtGrid.calls k2 _ _ a7 _ _ a8 _ _ b4 (Int.tmod m4 4) (wrap64 ((Int.tmod l9 12) - 2)) h8 j1 o9 _ ?d8 ?d9 ?j8 ?j9 ?l3 ?l4 O9.out).mono ?_
            (case d8 => exact cw_ (rr_ a5))
            (case d9 => exact (Kd.R_reads' a5.out).2.1)
            (case j8 => exact cw_ (rr_ a6))
            (case j9 => exact (Kd.R_reads' a6.out).2.1)
            (case l3 => repeat (first | exact (Kd.S_reads' a3.out).2.2 | (with_reducible refine Kd.C_alloc ?_ _) | (with_reducible refine Kd.C_drewN ?_ _) | (with_reducible refine Kd.C_drew ?_)))
            (case l4 => exact (Kd.S_reads' a3.out).2.1)
            rintro e W6 ⟨rfl, hb⟩
            refine ⟨_, rfl, ?_⟩
            replace a1 := rk_ a1 hb; replace a2 := rk_ a2 hb; replace a4 := sk_ a4 hb; replace a5 := rk_ a5 hb; replace a6 := rk_ a6 hb; replace a3 := sk_ a3 hb; replace a9 := bk_ a9 hb; replace b0 := bk_ b0 hb; replace c5 := bk_ c5 hb; replace HB := hk_ HB hb
            (try clear hb); (try clear E0); (try clear hk); (try clear hi)
            refine hK.out _ _ ⟨bc0_ b0, bc1_ b0, bc2_ b0⟩ (fun hHeld => ?_)
            clear hK K; refine nm_ 108 ?_; refine pu_ HT_ 9 99 (bs_ 15 5119) ?_; refine pu_ HT_ 10 109 (bs_ 15 6143) ?_; refine pu_ HT_ 11 110 (bs_ 15 8191) ?_
            exact norm_ (by simp only [putAll, Act.put, List.setIfInBounds_toArray, List.set_cons_zero, List.set_cons_succ]) (hCont (c9) _ ⟨hHeld, (kx_ a1), (kx_ a2), (sx_ a4), (kx_ a5), (kx_ a6), (sx_ a3), (bx_ a9), (bx_ b0), (bx_ c5), m8.out, m7.out, d3.out, d7.out, c7.out, g1.out, (hw_ HB)⟩)
          ·skip
           refine box_step ?hg (N := 10) ?hd (cs := #[.int .i64 0, .int .i64 0]) (t := 26) ?hr ?_; (case hd => rfl); (case hg => rfl); (case hr => exact hr_)
           intro c9 hg W5 hbox hb
           replace a1 := rk_ a1 hb; replace a2 := rk_ a2 hb; replace a4 := sk_ a4 hb; replace a5 := rk_ a5 hb; replace a6 := rk_ a6 hb; replace a3 := sk_ a3 hb; have c5 := mk_ (hbox); have m8 := gk_ hg HB; have m7 := gk_ hg HB; replace HB := hk_ HB hb; have d3 := nk_ hg a9; have d7 := nj_ hg a9; replace a9 := bk_ a9 hb; have c7 := nk_ hg b0; have g1 := nj_ hg b0; replace b0 := bk_ b0 hb
           clear hb hbox hg
           refine hK.out _ _ ⟨bc0_ b0, bc1_ b0, bc2_ b0⟩ (fun hHeld => ?_)
           clear hK K; refine nm_ 10 ?_
           refine one_ (i := 5) (N := some 105) (bs_ 15 4159) rfl rfl (one_of HT_.out (by kernel_rfl)) (by decide) (fun K hK => ?_)
           refine gs_ Try.func24 #[.slice A0 l0.length c0, .int .i64 10] ?_
           with_reducible refine (laws_at.calls _ _ l0 10 l9 _ ?d8 ?d9 W3.out).mono ?_
           (case d8 => exact cw_ (Kd.C_below B3.out HB.out))
           (case d9 => exact B4.out)
           rintro e w' ⟨rfl, ⟨nd, rfl⟩⟩
           refine ⟨_, rfl, ?_⟩
           refine hK.out _ _ ⟨bc0_ b0, bc1_ b0, bc2_ b0⟩ (fun hHeld => ?_)
           clear hK K; refine nm_ 105 ?_; refine pu_ HT_ 6 106 (bs_ 15 4223) ?_; refine pu_ HT_ 7 107 (bs_ 15 4351) ?_
           refine one_ (i := 8) (N := some 108) (bs_ 15 4607) rfl rfl (one_of HT_.out (by kernel_rfl)) (by decide) (fun K hK => ?_)
           refine gs_ Try.func25 #[.agg #[.slice b5 a7.length b2, .slice d2 a8.length b9, .slice l6 b4.length l7], .int .i64 (Int.tmod m4 4), .int .i64 (wrap64 ((Int.tmod l9 12) - 2))] ?_
           with_reducible refine (impl_AtGrid.calls k2 _ _ a7 _ _ a8 _ _ b4 (Int.tmod m4 4) (wrap64 ((Int.tmod l9 12) - 2)) h8 j1 o9 _ ?d8 ?d9 ?j8 ?j9 ?l3 ?l4 O9.out).mono ?_
           (case d8 => exact cw_ (rr_ a5))
           (case d9 => exact (Kd.R_reads' a5.out).2.1)
           (case j8 => exact cw_ (rr_ a6))
           (case j9 => exact (Kd.R_reads' a6.out).2.1)
           (case l3 => repeat (first | exact (Kd.S_reads' a3.out).2.2 | (with_reducible refine Kd.C_alloc ?_ _) | (with_reducible refine Kd.C_drewN ?_ _) | (with_reducible refine Kd.C_drew ?_)))
           (case l4 => exact (Kd.S_reads' a3.out).2.1)
           rintro e W6 ⟨rfl, hb⟩
           refine ⟨_, rfl, ?_⟩
           replace a1 := rk_ a1 hb; replace a2 := rk_ a2 hb; replace a4 := sk_ a4 hb; replace a5 := rk_ a5 hb; replace a6 := rk_ a6 hb; replace a3 := sk_ a3 hb; replace a9 := bk_ a9 hb; replace b0 := bk_ b0 hb; replace c5 := bk_ c5 hb; replace HB := hk_ HB hb
           (try clear hb); (try clear E0); (try clear hk); (try clear hi)
           refine hK.out _ _ ⟨bc0_ b0, bc1_ b0, bc2_ b0⟩ (fun hHeld => ?_)
           clear hK K; refine nm_ 108 ?_; refine pu_ HT_ 9 99 (bs_ 15 5119) ?_; refine pu_ HT_ 10 109 (bs_ 15 6143) ?_; refine pu_ HT_ 11 110 (bs_ 15 8191) ?_
           exact norm_ (by simp only [putAll, Act.put, List.setIfInBounds_toArray, List.set_cons_zero, List.set_cons_succ]) (hCont (c9) _ ⟨hHeld, (kx_ a1), (kx_ a2), (sx_ a4), (kx_ a5), (kx_ a6), (sx_ a3), (bx_ a9), (bx_ b0), (bx_ c5), m8.out, m7.out, d3.out, d7.out, c7.out, g1.out, (hw_ HB)⟩)
         ·skip
          refine box_step ?hg (N := 10) ?hd (cs := #[.int .i64 0, .int .i64 0]) (t := 26) ?hr ?_; (case hd => rfl); (case hg => rfl); (case hr => exact hr_)
          intro c9 hg W5 hbox hb
          replace a1 := rk_ a1 hb; replace a2 := rk_ a2 hb; replace a4 := sk_ a4 hb; replace a5 := rk_ a5 hb; replace a6 := rk_ a6 hb; replace a3 := sk_ a3 hb; have c5 := mk_ (hbox); have m8 := gk_ hg HB; have m7 := gk_ hg HB; replace HB := hk_ HB hb; have d3 := nk_ hg a9; have d7 := nj_ hg a9; replace a9 := bk_ a9 hb; have c7 := nk_ hg b0; have g1 := nj_ hg b0; replace b0 := bk_ b0 hb
          clear hb hbox hg
          refine hK.out _ _ ⟨bc0_ b0, bc1_ b0, bc2_ b0⟩ (fun hHeld => ?_)
          clear hK K; refine nm_ 10 ?_
          refine one_ (i := 2) (N := some 102) (bs_ 15 4119) rfl rfl (one_of HT_.out (by kernel_rfl)) (by decide) (fun K hK => ?_)
          refine gs_ Try.func24 #[.slice A0 l0.length c0, .int .i64 9] ?_
          with_reducible refine (laws_at.calls _ _ l0 9 m4 _ ?d8 ?d9 Z7.out).mono ?_
          (case d8 => exact cw_ (Kd.C_below B3.out HB.out))
          (case d9 => exact B4.out)
          rintro e w' ⟨rfl, ⟨nd, rfl⟩⟩
          refine ⟨_, rfl, ?_⟩
          refine hK.out _ _ ⟨bc0_ b0, bc1_ b0, bc2_ b0⟩ (fun hHeld => ?_)
          clear hK K; refine nm_ 102 ?_; refine pu_ HT_ 3 103 (bs_ 15 4127) ?_
          refine one_ (i := 5) (N := some 105) (bs_ 15 4159) rfl rfl (one_of HT_.out (by kernel_rfl)) (by decide) (fun K hK => ?_)
          refine gs_ Try.func24 #[.slice A0 l0.length c0, .int .i64 10] ?_
          with_reducible refine (laws_at.calls _ _ l0 10 l9 _ ?d8 ?d9 W3.out).mono ?_
          (case d8 => repeat (first | exact (Kd.C_below B3.out (hw_ HB)) | (with_reducible refine Kd.C_alloc ?_ _) | (with_reducible refine Kd.C_drewN ?_ _) | (with_reducible refine Kd.C_drew ?_)))
          (case d9 => exact B4.out)
          rintro e w' ⟨rfl, ⟨nd, rfl⟩⟩
          refine ⟨_, rfl, ?_⟩
          refine hK.out _ _ ⟨bc0_ b0, bc1_ b0, bc2_ b0⟩ (fun hHeld => ?_)
          clear hK K; refine nm_ 105 ?_; refine pu_ HT_ 6 106 (bs_ 15 4223) ?_; refine pu_ HT_ 7 107 (bs_ 15 4351) ?_
          refine one_ (i := 8) (N := some 108) (bs_ 15 4607) rfl rfl (one_of HT_.out (by kernel_rfl)) (by decide) (fun K hK => ?_)
          refine gs_ Try.func25 #[.agg #[.slice b5 a7.length b2, .slice d2 a8.length b9, .slice l6 b4.length l7], .int .i64 (Int.tmod m4 4), .int .i64 (wrap64 ((Int.tmod l9 12) - 2))] ?_
          with_reducible refine (impl_AtGrid.calls k2 _ _ a7 _ _ a8 _ _ b4 (Int.tmod m4 4) (wrap64 ((Int.tmod l9 12) - 2)) h8 j1 o9 _ ?d8 ?d9 ?j8 ?j9 ?l3 ?l4 O9.out).mono ?_
          (case d8 => exact cw_ (rr_ a5))
          (case d9 => exact (Kd.R_reads' a5.out).2.1)
          (case j8 => exact cw_ (rr_ a6))
          (case j9 => exact (Kd.R_reads' a6.out).2.1)
          (case l3 => repeat (first | exact (Kd.S_reads' a3.out).2.2 | (with_reducible refine Kd.C_alloc ?_ _) | (with_reducible refine Kd.C_drewN ?_ _) | (with_reducible refine Kd.C_drew ?_)))
          (case l4 => exact (Kd.S_reads' a3.out).2.1)
          rintro e W6 ⟨rfl, hb⟩
          refine ⟨_, rfl, ?_⟩
          replace a1 := rk_ a1 hb; replace a2 := rk_ a2 hb; replace a4 := sk_ a4 hb; replace a5 := rk_ a5 hb; replace a6 := rk_ a6 hb; replace a3 := sk_ a3 hb; replace a9 := bk_ a9 hb; replace b0 := bk_ b0 hb; replace c5 := bk_ c5 hb; replace HB := hk_ HB hb
          (try clear hb); (try clear E0); (try clear hk); (try clear hi)
          refine hK.out _ _ ⟨bc0_ b0, bc1_ b0, bc2_ b0⟩ (fun hHeld => ?_)
          clear hK K; refine nm_ 108 ?_; refine pu_ HT_ 9 99 (bs_ 15 5119) ?_; refine pu_ HT_ 10 109 (bs_ 15 6143) ?_; refine pu_ HT_ 11 110 (bs_ 15 8191) ?_
          exact norm_ (by simp only [putAll, Act.put, List.setIfInBounds_toArray, List.set_cons_zero, List.set_cons_succ]) (hCont (c9) _ ⟨hHeld, (kx_ a1), (kx_ a2), (sx_ a4), (kx_ a5), (kx_ a6), (sx_ a3), (bx_ a9), (bx_ b0), (bx_ c5), m8.out, m7.out, d3.out, d7.out, c7.out, g1.out, (hw_ HB)⟩)
        rintro c9 p7 ⟨hS_, G4, G5, G6, G7, G8, G9, H0, H1, H2, H3, t2, t3, t4, t5, t6, t7⟩
        replace a1 : Aside0 (Kd.R (Kd.int .i64) 3 p7 w.heap.size (fun k_ => some k_ ≠ (.slice d2 a8.length b9 : Value).ownBlock ∧ some k_ ≠ (.slice d2 a8.length b9 : Value).ownBlock) (.slice b5 a7.length b2) a7) := ⟨G4⟩; replace a2 : Aside0 (Kd.R (Kd.int .i64) 3 p7 w.heap.size (fun k_ => some k_ ≠ (.slice b5 a7.length b2 : Value).ownBlock ∧ some k_ ≠ (.slice b5 a7.length b2 : Value).ownBlock) (.slice d2 a8.length b9) a8) := ⟨G5⟩; replace a4 : Aside0 (Kd.S (Kd.slice 3 (Kd.int .i64)) 23 p7 w.heap.size (fun k_ => some k_ ≠ (.slice b5 a7.length b2 : Value).ownBlock ∧ some k_ ≠ (.slice d2 a8.length b9 : Value).ownBlock ∧ some k_ ≠ (.slice b5 a7.length b2 : Value).ownBlock ∧ some k_ ≠ (.slice d2 a8.length b9 : Value).ownBlock ∧ some k_ ≠ (.slice l6 b4.length l7 : Value).ownBlock) d4 b1) := ⟨G6⟩; replace a5 : Aside0 (Kd.R (Kd.int .i64) 3 p7 w.heap.size (fun k_ => some k_ ≠ (.slice d2 a8.length b9 : Value).ownBlock ∧ some k_ ≠ (.slice d2 a8.length b9 : Value).ownBlock) (.slice b5 a7.length b2) a7) := ⟨G7⟩; replace a6 : Aside0 (Kd.R (Kd.int .i64) 3 p7 w.heap.size (fun k_ => some k_ ≠ (.slice b5 a7.length b2 : Value).ownBlock ∧ some k_ ≠ (.slice b5 a7.length b2 : Value).ownBlock) (.slice d2 a8.length b9) a8) := ⟨G8⟩; replace a3 : Aside0 (Kd.S (Kd.slice 3 (Kd.int .i64)) 23 p7 w.heap.size (fun k_ => some k_ ≠ (.slice b5 a7.length b2 : Value).ownBlock ∧ some k_ ≠ (.slice d2 a8.length b9 : Value).ownBlock ∧ some k_ ≠ (d4 : Value).ownBlock ∧ some k_ ≠ (.slice b5 a7.length b2 : Value).ownBlock ∧ some k_ ≠ (.slice d2 a8.length b9 : Value).ownBlock) (.slice l6 b4.length l7) b4) := ⟨G9⟩; replace a9 : Aside0 (p7.heap[c4]? = some (.cells #[.slice b5 a7.length b2, .slice d2 a8.length b9, d4] 50 (0, 0))) := ⟨H0⟩; replace b0 : Aside0 (p7.heap[c6]? = some (.cells #[.slice b5 a7.length b2, .slice d2 a8.length b9, .slice l6 b4.length l7] 50 (0, 0))) := ⟨H1⟩; have c5 : Aside0 (p7.heap[c9]? = some (.cells #[.int .i64 0, .int .i64 0] 26 (0, 0))) := ⟨H2⟩; have m8 : Aside0 (w.heap.size ≤ c9) := ⟨H3⟩; have m7 : Aside0 (w.heap.size ≤ c9) := ⟨t2⟩; have d3 : Aside0 (c4 ≠ c9) := ⟨t3⟩; have d7 : Aside0 (c9 ≠ c4) := ⟨t4⟩; have c7 : Aside0 (c6 ≠ c9) := ⟨t5⟩; have g1 : Aside0 (c9 ≠ c6) := ⟨t6⟩; replace HB : Aside0 (Below w.heap.size w p7) := ⟨t7⟩; clear G4 G5 G6 G7 G8 G9 H0 H1 H2 H3 t2 t3 t4 t5 t6 t7
        have hHeld : p7.cell? ⟨c6, 0, none⟩ = some (.slice b5 a7.length b2) ∧ p7.cell? ⟨c6, 1, none⟩ = some (.slice d2 a8.length b9) ∧ p7.cell? ⟨c6, 2, none⟩ = some (.slice l6 b4.length l7) := hS_
        refine norm_ (a' := ?_) ?_ ?_
        rotate_left
        ·simp only [putAll, Act.put, List.setIfInBounds_toArray, List.set_cons_zero, List.set_cons_succ]
         rfl
        refine one_ (i := 13) (N := none) (bs_ 15 16383) rfl rfl (one_of HT_.out (by kernel_rfl)) (by decide) (fun K hK => ?_)
        have ad1 : p7.cell? ⟨c9, 0, none⟩ = some (.int .i64 0) := bc0_ c5
        have Z8 := blk_frozen c5.out 0
        have P0 := d3.out; have P1 := c7.out
        have P2 := d7.out; have P3 := g1.out
        have ad2 : p7.cell? ⟨c9, 1, none⟩ = some (.int .i64 0) := bc1_ c5
        have Z9 := blk_frozen c5.out 1
        have P4 := d3.out; have P5 := c7.out
        have P6 := d7.out; have P7 := g1.out
        refine skip_ (w1 := ?_) (by rfl) rfl ?_ ?_
        rotate_left
        ·go_simp
         rfl
        refine hK.out _ _ ⟨((cell_far (p := ⟨c9, _, none⟩) c7.out _).trans (((cell_far (p := ⟨c9, _, none⟩) c7.out _).trans (hHeld.1)))), ((cell_far (p := ⟨c9, _, none⟩) c7.out _).trans (((cell_far (p := ⟨c9, _, none⟩) c7.out _).trans (hHeld.2.1)))), ((cell_far (p := ⟨c9, _, none⟩) c7.out _).trans (((cell_far (p := ⟨c9, _, none⟩) c7.out _).trans (hHeld.2.2))))⟩ (fun hHeld => ?_)
        clear hK K; refine pu_ HT_ 14 11 (bs_ 15 32767) ?_
        refine done_ (done_of HT_.out (by kernel_rfl)) ?_
        have aa0 := g9.out; have aa1 := j2.out
        have aa2 := d3.out; have aa3 := d7.out
        have P8 := bc0_ a9; have P9 := bc1_ a9; have Q0 := bc2_ a9; have Q1 := bf_ a9 0; have Q2 := bf_ a9 1; have Q3 := bf_ a9 2
        obtain ⟨s6, p0, W7⟩ := Kd.S_slice a4.out
        subst W7
        go_upto_region 21 with (first | ((with_reducible refine gc_ 25 rfl ?_); refine gl_ (some 113) rfl Try.func25 #[.agg #[.slice b5 a7.length b2, .slice d2 a8.length b9, .slice s6 b1.length p0], .int .i64 (-1), .int .i64 0] ?_; (with_reducible refine (impl_AtGrid.calls k2 _ _ a7 _ _ a8 _ _ b1 (-1) 0 h2 h3 H9 _ ?d8 ?d9 ?j8 ?j9 ?l3 ?l4 A65.out).mono ?_); (case d8 => refine (Kd.R_reads' (e := 3) (base := w.heap.size) (ok := fun k_ => (some k_ ≠ (.slice d2 a8.length b9 : Value).ownBlock ∧ some k_ ≠ (.slice d2 a8.length b9 : Value).ownBlock)) (n := a7.length) (c := b2) ?_).2.2; exact (by (with_reducible repeat (first | apply Kd.R_alloc | apply Kd.R_drewN | apply Kd.R_drew)); exact (Kd.R_mono (Kd.R_far (p := ⟨c9, 1, none⟩) (Kd.R_far (p := ⟨c9, 0, none⟩) (Kd.R_types a1.out c5.out (by decide)) (fun _ hk => hk.2) (.int .i64 h8)) (fun _ hk => hk.2) (.int .i64 j1)) (fun _ h_ => h_.1)))); (case d9 => exact (Kd.R_reads' a1.out).2.1); (case j8 => refine (Kd.R_reads' (e := 3) (base := w.heap.size) (ok := fun k_ => (some k_ ≠ (.slice b5 a7.length b2 : Value).ownBlock ∧ some k_ ≠ (.slice b5 a7.length b2 : Value).ownBlock)) (n := a8.length) (c := b9) ?_).2.2; exact (by (with_reducible repeat (first | apply Kd.R_alloc | apply Kd.R_drewN | apply Kd.R_drew)); exact (Kd.R_mono (Kd.R_far (p := ⟨c9, 1, none⟩) (Kd.R_far (p := ⟨c9, 0, none⟩) (Kd.R_types a2.out c5.out (by decide)) (fun _ hk => hk.2) (.int .i64 h8)) (fun _ hk => hk.2) (.int .i64 j1)) (fun _ h_ => h_.1)))); (case j9 => exact (Kd.R_reads' a2.out).2.1); (case l3 => refine (Kd.S_reads' (e := 23) (base := w.heap.size) (ok := fun k_ => (some k_ ≠ (.slice b5 a7.length b2 : Value).ownBlock ∧ (some k_ ≠ (.slice d2 a8.length b9 : Value).ownBlock ∧ (some k_ ≠ (.slice b5 a7.length b2 : Value).ownBlock ∧ (some k_ ≠ (.slice d2 a8.length b9 : Value).ownBlock ∧ some k_ ≠ (.slice l6 b4.length l7 : Value).ownBlock))))) (n := b1.length) (c := p0) ?_).2.2; exact (by (with_reducible repeat (first | apply Kd.S_alloc | apply Kd.S_drewN | apply Kd.S_drew)); exact (Kd.S_mono (Kd.S_far (p := ⟨c9, 1, none⟩) (Kd.S_far (p := ⟨c9, 0, none⟩) (Kd.S_types a4.out c5.out (by decide)) (fun _ hk => hk.2) (.int .i64 h8)) (fun _ hk => hk.2) (.int .i64 j1)) (fun _ h_ => h_.1)))); (case l4 => exact (Kd.S_reads' a4.out).2.1); rintro e w78 ⟨rfl, hb⟩; refine ⟨_, rfl, ?_⟩; replace a1 := mk_ (Kd.R_below (by (with_reducible repeat (first | apply Kd.R_alloc | apply Kd.R_drewN | apply Kd.R_drew)); exact (Kd.R_mono (Kd.R_far (p := ⟨c9, 1, none⟩) (Kd.R_far (p := ⟨c9, 0, none⟩) (Kd.R_types a1.out c5.out (by decide)) (fun _ hk => hk.2) (.int .i64 h8)) (fun _ hk => hk.2) (.int .i64 j1)) (fun _ h_ => h_.1))) hb); replace a2 := mk_ (Kd.R_below (by (with_reducible repeat (first | apply Kd.R_alloc | apply Kd.R_drewN | apply Kd.R_drew)); exact (Kd.R_mono (Kd.R_far (p := ⟨c9, 1, none⟩) (Kd.R_far (p := ⟨c9, 0, none⟩) (Kd.R_types a2.out c5.out (by decide)) (fun _ hk => hk.2) (.int .i64 h8)) (fun _ hk => hk.2) (.int .i64 j1)) (fun _ h_ => h_.1))) hb); replace a4 := mk_ (Kd.S_below (by (with_reducible repeat (first | apply Kd.S_alloc | apply Kd.S_drewN | apply Kd.S_drew)); exact (Kd.S_mono (Kd.S_far (p := ⟨c9, 1, none⟩) (Kd.S_far (p := ⟨c9, 0, none⟩) (Kd.S_types a4.out c5.out (by decide)) (fun _ hk => hk.2) (.int .i64 h8)) (fun _ hk => hk.2) (.int .i64 j1)) (fun _ h_ => h_.1))) hb); replace a5 := mk_ (Kd.R_below (by (with_reducible repeat (first | apply Kd.R_alloc | apply Kd.R_drewN | apply Kd.R_drew)); exact (Kd.R_mono (Kd.R_far (p := ⟨c9, 1, none⟩) (Kd.R_far (p := ⟨c9, 0, none⟩) (Kd.R_types a5.out c5.out (by decide)) (fun _ hk => hk.2) (.int .i64 h8)) (fun _ hk => hk.2) (.int .i64 j1)) (fun _ h_ => h_.1))) hb); replace a6 := mk_ (Kd.R_below (by (with_reducible repeat (first | apply Kd.R_alloc | apply Kd.R_drewN | apply Kd.R_drew)); exact (Kd.R_mono (Kd.R_far (p := ⟨c9, 1, none⟩) (Kd.R_far (p := ⟨c9, 0, none⟩) (Kd.R_types a6.out c5.out (by decide)) (fun _ hk => hk.2) (.int .i64 h8)) (fun _ hk => hk.2) (.int .i64 j1)) (fun _ h_ => h_.1))) hb); replace a3 := mk_ (Kd.S_below (by (with_reducible repeat (first | apply Kd.S_alloc | apply Kd.S_drewN | apply Kd.S_drew)); exact (Kd.S_mono (Kd.S_far (p := ⟨c9, 1, none⟩) (Kd.S_far (p := ⟨c9, 0, none⟩) (Kd.S_types a3.out c5.out (by decide)) (fun _ hk => hk.2) (.int .i64 h8)) (fun _ hk => hk.2) (.int .i64 j1)) (fun _ h_ => h_.1))) hb); replace a9 := mk_ (blk_below (g := c4) (o := .cells #[.slice b5 a7.length b2, .slice d2 a8.length b9, .slice s6 b1.length p0] 50 (0, 0)) (by (with_reducible repeat (first | refine blk_drewN ?_ _ | refine blk_drew ?_ | refine blk_alloc ?_ _)); refine blk_far ?_ d3.out _; (with_reducible repeat (first | refine blk_drewN ?_ _ | refine blk_drew ?_ | refine blk_alloc ?_ _)); refine blk_far ?_ d3.out _; (with_reducible repeat (first | refine blk_drewN ?_ _ | refine blk_drew ?_ | refine blk_alloc ?_ _)); exact a9.out) hb); replace b0 := mk_ (blk_below (g := c6) (o := .cells #[.slice b5 a7.length b2, .slice d2 a8.length b9, .slice l6 b4.length l7] 50 (0, 0)) (by (with_reducible repeat (first | refine blk_drewN ?_ _ | refine blk_drew ?_ | refine blk_alloc ?_ _)); refine blk_far ?_ c7.out _; (with_reducible repeat (first | refine blk_drewN ?_ _ | refine blk_drew ?_ | refine blk_alloc ?_ _)); refine blk_far ?_ c7.out _; (with_reducible repeat (first | refine blk_drewN ?_ _ | refine blk_drew ?_ | refine blk_alloc ?_ _)); exact b0.out) hb); replace c5 := mk_ (blk_below (g := c9) (o := .cells #[.int .i64 h8, .int .i64 j1] 26 (0, 0)) (by (with_reducible repeat (first | refine blk_drewN ?_ _ | refine blk_drew ?_ | refine blk_alloc ?_ _)); refine blk_put (cs := #[.int .i64 h8, .int .i64 0]) ?_ 1 _ rfl; (with_reducible repeat (first | refine blk_drewN ?_ _ | refine blk_drew ?_ | refine blk_alloc ?_ _)); refine blk_put (cs := #[.int .i64 0, .int .i64 0]) ?_ 0 _ rfl; (with_reducible repeat (first | refine blk_drewN ?_ _ | refine blk_drew ?_ | refine blk_alloc ?_ _)); exact c5.out) hb); replace HB := mk_ (below_step (by repeat (first | (with_reducible first | exact HB.out | apply below_alloc | apply pw_below_drewN | apply below_drew1 | refine below_set ?_ m7.out) | exact HB.out)) hb); (try clear hb); (try clear E0); (try clear hk); (try clear hi)) | ((with_reducible refine gd_ 12 rfl ?_); refine box_event ?hg (N := 12) ?hd (cs := #[.int .i64 0, .int .i64 0]) (t := 26) ?hr ?_; (case hd => rfl); (case hg => rfl); (case hr => exact hr_); intro c1 hg w79 hbox hb; replace a1 := rb_ a1 hb; replace a2 := rb_ a2 hb; replace a4 := sk_ a4 hb; replace a5 := rb_ a5 hb; replace a6 := rb_ a6 hb; replace a3 := sk_ a3 hb; have d5 := mk_ (hbox); have I1 := gb_ hg HB; replace HB := bp_ HB hb; have p1 := I1; have g2 := nb_ hg a9; replace a9 := bl_ a9 hb; have n4 := ns_ g2; have g5 := nb_ hg b0; replace b0 := bl_ b0 hb; have s7 := ns_ g5; have d6 := nb_ hg c5; replace c5 := bl_ c5 hb; have l8 := ns_ d6; clear hb hbox hg; have aa4 := n4.out; have aa5 := g2.out; have aa6 := s7.out; have aa7 := g5.out; have aa8 := l8.out; have aa9 := d6.out; have Q4 := bc0_ d5; have Q5 := bc1_ d5; have Q6 := bf_ d5 0; have Q7 := bf_ d5 1))
        (try simp only [Act.put, List.setIfInBounds_toArray, List.set_cons_zero, List.set_cons_succ])
        go_cut [2] (fun v2 wc => ∃ (kq : Nat) (B2 : Bool), v2 = .bool B2 ∧ Aside0 (laws_FnGrid.j4 kq B2 = some r) ∧ Aside0 (kq ≤ k2) ∧ Aside0 (Kd.R (Kd.int .i64) 3 wc w.heap.size (fun k_ => some k_ ≠ ((.slice d2 a8.length b9) : Value).ownBlock ∧ some k_ ≠ ((.slice d2 a8.length b9) : Value).ownBlock) (.slice b5 a7.length b2) a7) ∧ Aside0 (Kd.R (Kd.int .i64) 3 wc w.heap.size (fun k_ => some k_ ≠ ((.slice b5 a7.length b2) : Value).ownBlock ∧ some k_ ≠ ((.slice b5 a7.length b2) : Value).ownBlock) (.slice d2 a8.length b9) a8) ∧ Aside0 (Kd.S (Kd.slice 3 (Kd.int .i64)) 23 wc w.heap.size (fun k_ => some k_ ≠ ((.slice b5 a7.length b2) : Value).ownBlock ∧ some k_ ≠ ((.slice d2 a8.length b9) : Value).ownBlock ∧ some k_ ≠ ((.slice b5 a7.length b2) : Value).ownBlock ∧ some k_ ≠ ((.slice d2 a8.length b9) : Value).ownBlock ∧ some k_ ≠ ((.slice l6 b4.length l7) : Value).ownBlock) (.slice s6 b1.length p0) b1) ∧ Aside0 (Kd.R (Kd.int .i64) 3 wc w.heap.size (fun k_ => some k_ ≠ ((.slice d2 a8.length b9) : Value).ownBlock ∧ some k_ ≠ ((.slice d2 a8.length b9) : Value).ownBlock) (.slice b5 a7.length b2) a7) ∧ Aside0 (Kd.R (Kd.int .i64) 3 wc w.heap.size (fun k_ => some k_ ≠ ((.slice b5 a7.length b2) : Value).ownBlock ∧ some k_ ≠ ((.slice b5 a7.length b2) : Value).ownBlock) (.slice d2 a8.length b9) a8) ∧ Aside0 (Kd.S (Kd.slice 3 (Kd.int .i64)) 23 wc w.heap.size (fun k_ => some k_ ≠ ((.slice b5 a7.length b2) : Value).ownBlock ∧ some k_ ≠ ((.slice d2 a8.length b9) : Value).ownBlock ∧ some k_ ≠ ((.slice s6 b1.length p0) : Value).ownBlock ∧ some k_ ≠ ((.slice b5 a7.length b2) : Value).ownBlock ∧ some k_ ≠ ((.slice d2 a8.length b9) : Value).ownBlock) (.slice l6 b4.length l7) b4) ∧ Aside0 (wc.heap[c4]? = some (.cells #[(.slice b5 a7.length b2), (.slice d2 a8.length b9), (.slice s6 b1.length p0)] 50 (0, 0))) ∧ Aside0 (wc.heap[c6]? = some (.cells #[(.slice b5 a7.length b2), (.slice d2 a8.length b9), (.slice l6 b4.length l7)] 50 (0, 0))) ∧ Aside0 (wc.heap[c9]? = some (.cells #[.int .i64 h8, .int .i64 j1] 26 (0, 0))) ∧ Aside0 (Below w.heap.size w wc))
        case first => as_aux_lemma =>
         have H := E5.out; clear E5; by_cases Q8 : o9 = true
         ·subst Q8; rw [if_pos rfl] at H
          by_cases E6 : h8 = 7
          ·rw [if_pos E6] at H; have p2 : (h8 == 7) = true := beq_iff_eq.mpr E6; have I2 : (h8 != 7) = false := bne_eq_false_iff_eq.mpr E6; clear E6
           (first | rw [p2] | (simp only [i64_w, i32_w]; rw [p2]) | skip)
           by_cases E7 : j1 = 1
           ·rw [if_pos E7] at H; have I3 : (j1 == 1) = true := beq_iff_eq.mpr E7; have I4 : (j1 != 1) = false := bne_eq_false_iff_eq.mpr E7; clear E7; by_cases Q9 : H9 = true
            ·subst Q9; rw [if_pos rfl] at H
             have H' := mk_ H
             clear H; have ab0 := d7.out; have ab1 := d3.out; have ab2 := g1.out; have ab3 := c7.out; have ab4 := d6.out; have ab5 := l8.out; have R0 := bc0_ c5; have R1 := bc1_ c5; have R2 := bf_ c5 0; have R3 := bf_ c5 1; go_wp2; go_meet
             case rel => exact ⟨_, (false), rf_, H', ⟨by have := p9.out; have := s8.out; first | omega | exact Nat.le_refl _⟩, ⟨by (with_reducible repeat (first | apply Kd.R_alloc | apply Kd.R_drewN | apply Kd.R_drew)); exact Kd.R_mono (Kd.R_far (p := ⟨c1, 1, none⟩) (Kd.R_far (p := ⟨c1, 0, none⟩) (Kd.R_types a1.out d5.out (by decide)) (fun _ hk => hk.2) (.int .i64 h2)) (fun _ hk => hk.2) (.int .i64 h3)) (fun _ hk => ⟨hk.1.1, hk.1.2⟩)⟩, ⟨by (with_reducible repeat (first | apply Kd.R_alloc | apply Kd.R_drewN | apply Kd.R_drew)); exact Kd.R_mono (Kd.R_far (p := ⟨c1, 1, none⟩) (Kd.R_far (p := ⟨c1, 0, none⟩) (Kd.R_types a2.out d5.out (by decide)) (fun _ hk => hk.2) (.int .i64 h2)) (fun _ hk => hk.2) (.int .i64 h3)) (fun _ hk => ⟨hk.1.1, hk.1.2⟩)⟩, ⟨by (with_reducible repeat (first | apply Kd.S_alloc | apply Kd.S_drewN | apply Kd.S_drew)); exact Kd.S_mono (Kd.S_far (p := ⟨c1, 1, none⟩) (Kd.S_far (p := ⟨c1, 0, none⟩) (Kd.S_types a4.out d5.out (by decide)) (fun _ hk => hk.2) (.int .i64 h2)) (fun _ hk => hk.2) (.int .i64 h3)) (fun _ hk => ⟨hk.1.1, ⟨hk.1.2.1, ⟨hk.1.2.2.1, ⟨hk.1.2.2.2.1, hk.1.2.2.2.2⟩⟩⟩⟩)⟩, ⟨by (with_reducible repeat (first | apply Kd.R_alloc | apply Kd.R_drewN | apply Kd.R_drew)); exact Kd.R_mono (Kd.R_far (p := ⟨c1, 1, none⟩) (Kd.R_far (p := ⟨c1, 0, none⟩) (Kd.R_types a5.out d5.out (by decide)) (fun _ hk => hk.2) (.int .i64 h2)) (fun _ hk => hk.2) (.int .i64 h3)) (fun _ hk => ⟨hk.1.1, hk.1.2⟩)⟩, ⟨by (with_reducible repeat (first | apply Kd.R_alloc | apply Kd.R_drewN | apply Kd.R_drew)); exact Kd.R_mono (Kd.R_far (p := ⟨c1, 1, none⟩) (Kd.R_far (p := ⟨c1, 0, none⟩) (Kd.R_types a6.out d5.out (by decide)) (fun _ hk => hk.2) (.int .i64 h2)) (fun _ hk => hk.2) (.int .i64 h3)) (fun _ hk => ⟨hk.1.1, hk.1.2⟩)⟩, ⟨by (with_reducible repeat (first | apply Kd.S_alloc | apply Kd.S_drewN | apply Kd.S_drew)); exact Kd.S_mono (Kd.S_far (p := ⟨c1, 1, none⟩) (Kd.S_far (p := ⟨c1, 0, none⟩) (Kd.S_types a3.out d5.out (by decide)) (fun _ hk => hk.2) (.int .i64 h2)) (fun _ hk => hk.2) (.int .i64 h3)) (fun _ hk => ⟨hk.1.1, ⟨hk.1.2.1, ⟨hk.1.2.2.1, ⟨hk.1.2.2.2.1, hk.1.2.2.2.2⟩⟩⟩⟩)⟩, ⟨by (with_reducible repeat (first | refine blk_drewN ?_ _ | refine blk_drew ?_ | refine blk_alloc ?_ _)); refine blk_far ?_ g2.out _; (with_reducible repeat (first | refine blk_drewN ?_ _ | refine blk_drew ?_ | refine blk_alloc ?_ _)); refine blk_far ?_ g2.out _; (with_reducible repeat (first | refine blk_drewN ?_ _ | refine blk_drew ?_ | refine blk_alloc ?_ _)); exact a9.out⟩, ⟨by (with_reducible repeat (first | refine blk_drewN ?_ _ | refine blk_drew ?_ | refine blk_alloc ?_ _)); refine blk_far ?_ g5.out _; (with_reducible repeat (first | refine blk_drewN ?_ _ | refine blk_drew ?_ | refine blk_alloc ?_ _)); refine blk_far ?_ g5.out _; (with_reducible repeat (first | refine blk_drewN ?_ _ | refine blk_drew ?_ | refine blk_alloc ?_ _)); exact b0.out⟩, ⟨by (with_reducible repeat (first | refine blk_drewN ?_ _ | refine blk_drew ?_ | refine blk_alloc ?_ _)); refine blk_far ?_ d6.out _; (with_reducible repeat (first | refine blk_drewN ?_ _ | refine blk_drew ?_ | refine blk_alloc ?_ _)); refine blk_far ?_ d6.out _; (with_reducible repeat (first | refine blk_drewN ?_ _ | refine blk_drew ?_ | refine blk_alloc ?_ _)); exact c5.out⟩, ⟨by repeat (first | (with_reducible first | exact HB.out | apply below_alloc | apply pw_below_drewN | apply below_drew1 | refine below_set ?_ p1.out) | exact HB.out)⟩⟩
            ·replace Q9 := Bool.eq_false_iff.mpr Q9; subst Q9; rw [if_neg (show ¬ (false = true) by decide)] at H; replace H := Option.bind_eq_some_iff.mp H; obtain ⟨B5, I5, H⟩ := H; (try dsimp only at H); have A92 := mk_ I5; clear I5
             have H' := mk_ H
             clear H; have ab6 := d7.out; have ab7 := d3.out; have ab8 := g1.out; have ab9 := c7.out; have ac0 := d6.out; have ac1 := l8.out; have R4 := bc0_ c5; have R5 := bc1_ c5; have R6 := bf_ c5 0; have R7 := bf_ c5 1; have ac2 := g9.out; have ac3 := j2.out; have ac4 := g2.out; have ac5 := n4.out; have R8 := bc0_ a9; have R9 := bc1_ a9; have V0 := bc2_ a9; have V1 := bf_ a9 0; have V2 := bf_ a9 1; have V3 := bf_ a9 2
             go_wp2_with (first | (go_at_call 26; (with_reducible refine (impl_GridOk.calls k2 _ _ a7 _ _ a8 _ _ b1 B5 _ ?d8 ?d9 ?j8 ?j9 ?l3 ?l4 A92.out).mono ?_); (case d8 => refine (Kd.R_reads' (e := 3) (base := w.heap.size) (ok := fun k_ => (some k_ ≠ (.slice d2 a8.length b9 : Value).ownBlock ∧ some k_ ≠ (.slice d2 a8.length b9 : Value).ownBlock)) (n := a7.length) (c := b2) ?_).2.2; exact (by (with_reducible repeat (first | apply Kd.R_alloc | apply Kd.R_drewN | apply Kd.R_drew)); exact (Kd.R_mono (Kd.R_far (p := ⟨c1, 1, none⟩) (Kd.R_far (p := ⟨c1, 0, none⟩) (Kd.R_types a1.out d5.out (by decide)) (fun _ hk => hk.2) (.int .i64 h2)) (fun _ hk => hk.2) (.int .i64 h3)) (fun _ h_ => h_.1)))); (case d9 => exact (Kd.R_reads' a1.out).2.1); (case j8 => refine (Kd.R_reads' (e := 3) (base := w.heap.size) (ok := fun k_ => (some k_ ≠ (.slice b5 a7.length b2 : Value).ownBlock ∧ some k_ ≠ (.slice b5 a7.length b2 : Value).ownBlock)) (n := a8.length) (c := b9) ?_).2.2; exact (by (with_reducible repeat (first | apply Kd.R_alloc | apply Kd.R_drewN | apply Kd.R_drew)); exact (Kd.R_mono (Kd.R_far (p := ⟨c1, 1, none⟩) (Kd.R_far (p := ⟨c1, 0, none⟩) (Kd.R_types a2.out d5.out (by decide)) (fun _ hk => hk.2) (.int .i64 h2)) (fun _ hk => hk.2) (.int .i64 h3)) (fun _ h_ => h_.1)))); (case j9 => exact (Kd.R_reads' a2.out).2.1); (case l3 => refine (Kd.S_reads' (e := 23) (base := w.heap.size) (ok := fun k_ => (some k_ ≠ (.slice b5 a7.length b2 : Value).ownBlock ∧ (some k_ ≠ (.slice d2 a8.length b9 : Value).ownBlock ∧ (some k_ ≠ (.slice b5 a7.length b2 : Value).ownBlock ∧ (some k_ ≠ (.slice d2 a8.length b9 : Value).ownBlock ∧ some k_ ≠ (.slice l6 b4.length l7 : Value).ownBlock))))) (n := b1.length) (c := p0) ?_).2.2; exact (by (with_reducible repeat (first | apply Kd.S_alloc | apply Kd.S_drewN | apply Kd.S_drew)); exact (Kd.S_mono (Kd.S_far (p := ⟨c1, 1, none⟩) (Kd.S_far (p := ⟨c1, 0, none⟩) (Kd.S_types a4.out d5.out (by decide)) (fun _ hk => hk.2) (.int .i64 h2)) (fun _ hk => hk.2) (.int .i64 h3)) (fun _ h_ => h_.1)))); (case l4 => exact (Kd.S_reads' a4.out).2.1); rintro e ad3 ⟨rfl, hb⟩; replace a1 := mk_ (Kd.R_below (by (with_reducible repeat (first | apply Kd.R_alloc | apply Kd.R_drewN | apply Kd.R_drew)); exact (Kd.R_mono (Kd.R_far (p := ⟨c1, 1, none⟩) (Kd.R_far (p := ⟨c1, 0, none⟩) (Kd.R_types a1.out d5.out (by decide)) (fun _ hk => hk.2) (.int .i64 h2)) (fun _ hk => hk.2) (.int .i64 h3)) (fun _ h_ => h_.1))) hb); replace a2 := mk_ (Kd.R_below (by (with_reducible repeat (first | apply Kd.R_alloc | apply Kd.R_drewN | apply Kd.R_drew)); exact (Kd.R_mono (Kd.R_far (p := ⟨c1, 1, none⟩) (Kd.R_far (p := ⟨c1, 0, none⟩) (Kd.R_types a2.out d5.out (by decide)) (fun _ hk => hk.2) (.int .i64 h2)) (fun _ hk => hk.2) (.int .i64 h3)) (fun _ h_ => h_.1))) hb); replace a4 := mk_ (Kd.S_below (by (with_reducible repeat (first | apply Kd.S_alloc | apply Kd.S_drewN | apply Kd.S_drew)); exact (Kd.S_mono (Kd.S_far (p := ⟨c1, 1, none⟩) (Kd.S_far (p := ⟨c1, 0, none⟩) (Kd.S_types a4.out d5.out (by decide)) (fun _ hk => hk.2) (.int .i64 h2)) (fun _ hk => hk.2) (.int .i64 h3)) (fun _ h_ => h_.1))) hb); replace a5 := mk_ (Kd.R_below (by (with_reducible repeat (first | apply Kd.R_alloc | apply Kd.R_drewN | apply Kd.R_drew)); exact (Kd.R_mono (Kd.R_far (p := ⟨c1, 1, none⟩) (Kd.R_far (p := ⟨c1, 0, none⟩) (Kd.R_types a5.out d5.out (by decide)) (fun _ hk => hk.2) (.int .i64 h2)) (fun _ hk => hk.2) (.int .i64 h3)) (fun _ h_ => h_.1))) hb); replace a6 := mk_ (Kd.R_below (by (with_reducible repeat (first | apply Kd.R_alloc | apply Kd.R_drewN | apply Kd.R_drew)); exact (Kd.R_mono (Kd.R_far (p := ⟨c1, 1, none⟩) (Kd.R_far (p := ⟨c1, 0, none⟩) (Kd.R_types a6.out d5.out (by decide)) (fun _ hk => hk.2) (.int .i64 h2)) (fun _ hk => hk.2) (.int .i64 h3)) (fun _ h_ => h_.1))) hb); replace a3 := mk_ (Kd.S_below (by (with_reducible repeat (first | apply Kd.S_alloc | apply Kd.S_drewN | apply Kd.S_drew)); exact (Kd.S_mono (Kd.S_far (p := ⟨c1, 1, none⟩) (Kd.S_far (p := ⟨c1, 0, none⟩) (Kd.S_types a3.out d5.out (by decide)) (fun _ hk => hk.2) (.int .i64 h2)) (fun _ hk => hk.2) (.int .i64 h3)) (fun _ h_ => h_.1))) hb); replace a9 := mk_ (blk_below (g := c4) (o := .cells #[.slice b5 a7.length b2, .slice d2 a8.length b9, .slice s6 b1.length p0] 50 (0, 0)) (by (with_reducible repeat (first | refine blk_drewN ?_ _ | refine blk_drew ?_ | refine blk_alloc ?_ _)); refine blk_far ?_ g2.out _; (with_reducible repeat (first | refine blk_drewN ?_ _ | refine blk_drew ?_ | refine blk_alloc ?_ _)); refine blk_far ?_ g2.out _; (with_reducible repeat (first | refine blk_drewN ?_ _ | refine blk_drew ?_ | refine blk_alloc ?_ _)); exact a9.out) hb); replace b0 := mk_ (blk_below (g := c6) (o := .cells #[.slice b5 a7.length b2, .slice d2 a8.length b9, .slice l6 b4.length l7] 50 (0, 0)) (by (with_reducible repeat (first | refine blk_drewN ?_ _ | refine blk_drew ?_ | refine blk_alloc ?_ _)); refine blk_far ?_ g5.out _; (with_reducible repeat (first | refine blk_drewN ?_ _ | refine blk_drew ?_ | refine blk_alloc ?_ _)); refine blk_far ?_ g5.out _; (with_reducible repeat (first | refine blk_drewN ?_ _ | refine blk_drew ?_ | refine blk_alloc ?_ _)); exact b0.out) hb); replace c5 := mk_ (blk_below (g := c9) (o := .cells #[.int .i64 h8, .int .i64 j1] 26 (0, 0)) (by (with_reducible repeat (first | refine blk_drewN ?_ _ | refine blk_drew ?_ | refine blk_alloc ?_ _)); refine blk_far ?_ d6.out _; (with_reducible repeat (first | refine blk_drewN ?_ _ | refine blk_drew ?_ | refine blk_alloc ?_ _)); refine blk_far ?_ d6.out _; (with_reducible repeat (first | refine blk_drewN ?_ _ | refine blk_drew ?_ | refine blk_alloc ?_ _)); exact c5.out) hb); replace d5 := mk_ (blk_below (g := c1) (o := .cells #[.int .i64 h2, .int .i64 h3] 26 (0, 0)) (by (with_reducible repeat (first | refine blk_drewN ?_ _ | refine blk_drew ?_ | refine blk_alloc ?_ _)); refine blk_put (cs := #[.int .i64 h2, .int .i64 0]) ?_ 1 _ rfl; (with_reducible repeat (first | refine blk_drewN ?_ _ | refine blk_drew ?_ | refine blk_alloc ?_ _)); refine blk_put (cs := #[.int .i64 0, .int .i64 0]) ?_ 0 _ rfl; (with_reducible repeat (first | refine blk_drewN ?_ _ | refine blk_drew ?_ | refine blk_alloc ?_ _)); exact d5.out) hb); replace HB := mk_ (below_step (by repeat (first | (with_reducible first | exact HB.out | apply below_alloc | apply pw_below_drewN | apply below_drew1 | refine below_set ?_ p1.out) | exact HB.out)) hb); (try clear hb); (try clear E0); (try clear hk); (try clear hi)))
             go_meet
             case rel => exact ⟨_, (B5), rf_, H', ⟨by have := p9.out; have := s8.out; first | omega | exact Nat.le_refl _⟩, kw_ a1, kw_ a2, ⟨by (with_reducible repeat (first | apply Kd.S_alloc | apply Kd.S_drewN | apply Kd.S_drew)); exact a4.out⟩, kw_ a5, kw_ a6, ⟨by (with_reducible repeat (first | apply Kd.S_alloc | apply Kd.S_drewN | apply Kd.S_drew)); exact a3.out⟩, bw_ a9, bw_ b0, bw_ c5, ⟨hw_ HB⟩⟩
           ·rw [if_neg E7] at H; have I3 : (j1 == 1) = false := beq_eq_false_iff_ne.mpr E7; have I4 : (j1 != 1) = true := bne_iff_ne.mpr E7
            have H' := mk_ H
            clear H; have W8 := d7.out; have W9 := d3.out; have X0 := g1.out; have X1 := c7.out; have X2 := d6.out; have X3 := l8.out; have I6 := bc0_ c5; have I7 := bc1_ c5; have I8 := bf_ c5 0; have I9 := bf_ c5 1; go_wp2; go_meet
            case rel => exact ⟨_, (false), rf_, H', ⟨by have := p9.out; have := s8.out; first | omega | exact Nat.le_refl _⟩, ⟨by (with_reducible repeat (first | apply Kd.R_alloc | apply Kd.R_drewN | apply Kd.R_drew)); exact Kd.R_mono (Kd.R_far (p := ⟨c1, 1, none⟩) (Kd.R_far (p := ⟨c1, 0, none⟩) (Kd.R_types a1.out d5.out (by decide)) (fun _ hk => hk.2) (.int .i64 h2)) (fun _ hk => hk.2) (.int .i64 h3)) (fun _ hk => ⟨hk.1.1, hk.1.2⟩)⟩, ⟨by (with_reducible repeat (first | apply Kd.R_alloc | apply Kd.R_drewN | apply Kd.R_drew)); exact Kd.R_mono (Kd.R_far (p := ⟨c1, 1, none⟩) (Kd.R_far (p := ⟨c1, 0, none⟩) (Kd.R_types a2.out d5.out (by decide)) (fun _ hk => hk.2) (.int .i64 h2)) (fun _ hk => hk.2) (.int .i64 h3)) (fun _ hk => ⟨hk.1.1, hk.1.2⟩)⟩, ⟨by (with_reducible repeat (first | apply Kd.S_alloc | apply Kd.S_drewN | apply Kd.S_drew)); exact Kd.S_mono (Kd.S_far (p := ⟨c1, 1, none⟩) (Kd.S_far (p := ⟨c1, 0, none⟩) (Kd.S_types a4.out d5.out (by decide)) (fun _ hk => hk.2) (.int .i64 h2)) (fun _ hk => hk.2) (.int .i64 h3)) (fun _ hk => ⟨hk.1.1, ⟨hk.1.2.1, ⟨hk.1.2.2.1, ⟨hk.1.2.2.2.1, hk.1.2.2.2.2⟩⟩⟩⟩)⟩, ⟨by (with_reducible repeat (first | apply Kd.R_alloc | apply Kd.R_drewN | apply Kd.R_drew)); exact Kd.R_mono (Kd.R_far (p := ⟨c1, 1, none⟩) (Kd.R_far (p := ⟨c1, 0, none⟩) (Kd.R_types a5.out d5.out (by decide)) (fun _ hk => hk.2) (.int .i64 h2)) (fun _ hk => hk.2) (.int .i64 h3)) (fun _ hk => ⟨hk.1.1, hk.1.2⟩)⟩, ⟨by (with_reducible repeat (first | apply Kd.R_alloc | apply Kd.R_drewN | apply Kd.R_drew)); exact Kd.R_mono (Kd.R_far (p := ⟨c1, 1, none⟩) (Kd.R_far (p := ⟨c1, 0, none⟩) (Kd.R_types a6.out d5.out (by decide)) (fun _ hk => hk.2) (.int .i64 h2)) (fun _ hk => hk.2) (.int .i64 h3)) (fun _ hk => ⟨hk.1.1, hk.1.2⟩)⟩, ⟨by (with_reducible repeat (first | apply Kd.S_alloc | apply Kd.S_drewN | apply Kd.S_drew)); exact Kd.S_mono (Kd.S_far (p := ⟨c1, 1, none⟩) (Kd.S_far (p := ⟨c1, 0, none⟩) (Kd.S_types a3.out d5.out (by decide)) (fun _ hk => hk.2) (.int .i64 h2)) (fun _ hk => hk.2) (.int .i64 h3)) (fun _ hk => ⟨hk.1.1, ⟨hk.1.2.1, ⟨hk.1.2.2.1, ⟨hk.1.2.2.2.1, hk.1.2.2.2.2⟩⟩⟩⟩)⟩, ⟨by (with_reducible repeat (first | refine blk_drewN ?_ _ | refine blk_drew ?_ | refine blk_alloc ?_ _)); refine blk_far ?_ g2.out _; (with_reducible repeat (first | refine blk_drewN ?_ _ | refine blk_drew ?_ | refine blk_alloc ?_ _)); refine blk_far ?_ g2.out _; (with_reducible repeat (first | refine blk_drewN ?_ _ | refine blk_drew ?_ | refine blk_alloc ?_ _)); exact a9.out⟩, ⟨by (with_reducible repeat (first | refine blk_drewN ?_ _ | refine blk_drew ?_ | refine blk_alloc ?_ _)); refine blk_far ?_ g5.out _; (with_reducible repeat (first | refine blk_drewN ?_ _ | refine blk_drew ?_ | refine blk_alloc ?_ _)); refine blk_far ?_ g5.out _; (with_reducible repeat (first | refine blk_drewN ?_ _ | refine blk_drew ?_ | refine blk_alloc ?_ _)); exact b0.out⟩, ⟨by (with_reducible repeat (first | refine blk_drewN ?_ _ | refine blk_drew ?_ | refine blk_alloc ?_ _)); refine blk_far ?_ d6.out _; (with_reducible repeat (first | refine blk_drewN ?_ _ | refine blk_drew ?_ | refine blk_alloc ?_ _)); refine blk_far ?_ d6.out _; (with_reducible repeat (first | refine blk_drewN ?_ _ | refine blk_drew ?_ | refine blk_alloc ?_ _)); exact c5.out⟩, ⟨by repeat (first | (with_reducible first | exact HB.out | apply below_alloc | apply pw_below_drewN | apply below_drew1 | refine below_set ?_ p1.out) | exact HB.out)⟩⟩
          ·rw [if_neg E6] at H; have p2 : (h8 == 7) = false := beq_eq_false_iff_ne.mpr E6; have I2 : (h8 != 7) = true := bne_iff_ne.mpr E6
           (first | rw [p2] | (simp only [i64_w, i32_w]; rw [p2]) | skip)
           have H' := mk_ H
           clear H; have X4 := d7.out; have X5 := d3.out; have X6 := g1.out; have X7 := c7.out; have X8 := d6.out; have X9 := l8.out; have J0 := bc0_ c5; have J1 := bc1_ c5; have J2 := bf_ c5 0; have J3 := bf_ c5 1; go_wp2; go_meet
           case rel => exact ⟨_, (false), rf_, H', ⟨by have := p9.out; have := s8.out; first | omega | exact Nat.le_refl _⟩, ⟨by (with_reducible repeat (first | apply Kd.R_alloc | apply Kd.R_drewN | apply Kd.R_drew)); exact Kd.R_mono (Kd.R_far (p := ⟨c1, 1, none⟩) (Kd.R_far (p := ⟨c1, 0, none⟩) (Kd.R_types a1.out d5.out (by decide)) (fun _ hk => hk.2) (.int .i64 h2)) (fun _ hk => hk.2) (.int .i64 h3)) (fun _ hk => ⟨hk.1.1, hk.1.2⟩)⟩, ⟨by (with_reducible repeat (first | apply Kd.R_alloc | apply Kd.R_drewN | apply Kd.R_drew)); exact Kd.R_mono (Kd.R_far (p := ⟨c1, 1, none⟩) (Kd.R_far (p := ⟨c1, 0, none⟩) (Kd.R_types a2.out d5.out (by decide)) (fun _ hk => hk.2) (.int .i64 h2)) (fun _ hk => hk.2) (.int .i64 h3)) (fun _ hk => ⟨hk.1.1, hk.1.2⟩)⟩, ⟨by (with_reducible repeat (first | apply Kd.S_alloc | apply Kd.S_drewN | apply Kd.S_drew)); exact Kd.S_mono (Kd.S_far (p := ⟨c1, 1, none⟩) (Kd.S_far (p := ⟨c1, 0, none⟩) (Kd.S_types a4.out d5.out (by decide)) (fun _ hk => hk.2) (.int .i64 h2)) (fun _ hk => hk.2) (.int .i64 h3)) (fun _ hk => ⟨hk.1.1, ⟨hk.1.2.1, ⟨hk.1.2.2.1, ⟨hk.1.2.2.2.1, hk.1.2.2.2.2⟩⟩⟩⟩)⟩, ⟨by (with_reducible repeat (first | apply Kd.R_alloc | apply Kd.R_drewN | apply Kd.R_drew)); exact Kd.R_mono (Kd.R_far (p := ⟨c1, 1, none⟩) (Kd.R_far (p := ⟨c1, 0, none⟩) (Kd.R_types a5.out d5.out (by decide)) (fun _ hk => hk.2) (.int .i64 h2)) (fun _ hk => hk.2) (.int .i64 h3)) (fun _ hk => ⟨hk.1.1, hk.1.2⟩)⟩, ⟨by (with_reducible repeat (first | apply Kd.R_alloc | apply Kd.R_drewN | apply Kd.R_drew)); exact Kd.R_mono (Kd.R_far (p := ⟨c1, 1, none⟩) (Kd.R_far (p := ⟨c1, 0, none⟩) (Kd.R_types a6.out d5.out (by decide)) (fun _ hk => hk.2) (.int .i64 h2)) (fun _ hk => hk.2) (.int .i64 h3)) (fun _ hk => ⟨hk.1.1, hk.1.2⟩)⟩, ⟨by (with_reducible repeat (first | apply Kd.S_alloc | apply Kd.S_drewN | apply Kd.S_drew)); exact Kd.S_mono (Kd.S_far (p := ⟨c1, 1, none⟩) (Kd.S_far (p := ⟨c1, 0, none⟩) (Kd.S_types a3.out d5.out (by decide)) (fun _ hk => hk.2) (.int .i64 h2)) (fun _ hk => hk.2) (.int .i64 h3)) (fun _ hk => ⟨hk.1.1, ⟨hk.1.2.1, ⟨hk.1.2.2.1, ⟨hk.1.2.2.2.1, hk.1.2.2.2.2⟩⟩⟩⟩)⟩, ⟨by (with_reducible repeat (first | refine blk_drewN ?_ _ | refine blk_drew ?_ | refine blk_alloc ?_ _)); refine blk_far ?_ g2.out _; (with_reducible repeat (first | refine blk_drewN ?_ _ | refine blk_drew ?_ | refine blk_alloc ?_ _)); refine blk_far ?_ g2.out _; (with_reducible repeat (first | refine blk_drewN ?_ _ | refine blk_drew ?_ | refine blk_alloc ?_ _)); exact a9.out⟩, ⟨by (with_reducible repeat (first | refine blk_drewN ?_ _ | refine blk_drew ?_ | refine blk_alloc ?_ _)); refine blk_far ?_ g5.out _; (with_reducible repeat (first | refine blk_drewN ?_ _ | refine blk_drew ?_ | refine blk_alloc ?_ _)); refine blk_far ?_ g5.out _; (with_reducible repeat (first | refine blk_drewN ?_ _ | refine blk_drew ?_ | refine blk_alloc ?_ _)); exact b0.out⟩, ⟨by (with_reducible repeat (first | refine blk_drewN ?_ _ | refine blk_drew ?_ | refine blk_alloc ?_ _)); refine blk_far ?_ d6.out _; (with_reducible repeat (first | refine blk_drewN ?_ _ | refine blk_drew ?_ | refine blk_alloc ?_ _)); refine blk_far ?_ d6.out _; (with_reducible repeat (first | refine blk_drewN ?_ _ | refine blk_drew ?_ | refine blk_alloc ?_ _)); exact c5.out⟩, ⟨by repeat (first | (with_reducible first | exact HB.out | apply below_alloc | apply pw_below_drewN | apply below_drew1 | refine below_set ?_ p1.out) | exact HB.out)⟩⟩
         ·replace Q8 := Bool.eq_false_iff.mpr Q8; subst Q8; rw [if_neg (show ¬ (false = true) by decide)] at H
          have H' := mk_ H
          clear H; go_wp2; go_meet
          case rel => exact ⟨_, (false), rf_, H', ⟨by have := p9.out; have := s8.out; first | omega | exact Nat.le_refl _⟩, ⟨by (with_reducible repeat (first | apply Kd.R_alloc | apply Kd.R_drewN | apply Kd.R_drew)); exact Kd.R_mono (Kd.R_far (p := ⟨c1, 1, none⟩) (Kd.R_far (p := ⟨c1, 0, none⟩) (Kd.R_types a1.out d5.out (by decide)) (fun _ hk => hk.2) (.int .i64 h2)) (fun _ hk => hk.2) (.int .i64 h3)) (fun _ hk => ⟨hk.1.1, hk.1.2⟩)⟩, ⟨by (with_reducible repeat (first | apply Kd.R_alloc | apply Kd.R_drewN | apply Kd.R_drew)); exact Kd.R_mono (Kd.R_far (p := ⟨c1, 1, none⟩) (Kd.R_far (p := ⟨c1, 0, none⟩) (Kd.R_types a2.out d5.out (by decide)) (fun _ hk => hk.2) (.int .i64 h2)) (fun _ hk => hk.2) (.int .i64 h3)) (fun _ hk => ⟨hk.1.1, hk.1.2⟩)⟩, ⟨by (with_reducible repeat (first | apply Kd.S_alloc | apply Kd.S_drewN | apply Kd.S_drew)); exact Kd.S_mono (Kd.S_far (p := ⟨c1, 1, none⟩) (Kd.S_far (p := ⟨c1, 0, none⟩) (Kd.S_types a4.out d5.out (by decide)) (fun _ hk => hk.2) (.int .i64 h2)) (fun _ hk => hk.2) (.int .i64 h3)) (fun _ hk => ⟨hk.1.1, ⟨hk.1.2.1, ⟨hk.1.2.2.1, ⟨hk.1.2.2.2.1, hk.1.2.2.2.2⟩⟩⟩⟩)⟩, ⟨by (with_reducible repeat (first | apply Kd.R_alloc | apply Kd.R_drewN | apply Kd.R_drew)); exact Kd.R_mono (Kd.R_far (p := ⟨c1, 1, none⟩) (Kd.R_far (p := ⟨c1, 0, none⟩) (Kd.R_types a5.out d5.out (by decide)) (fun _ hk => hk.2) (.int .i64 h2)) (fun _ hk => hk.2) (.int .i64 h3)) (fun _ hk => ⟨hk.1.1, hk.1.2⟩)⟩, ⟨by (with_reducible repeat (first | apply Kd.R_alloc | apply Kd.R_drewN | apply Kd.R_drew)); exact Kd.R_mono (Kd.R_far (p := ⟨c1, 1, none⟩) (Kd.R_far (p := ⟨c1, 0, none⟩) (Kd.R_types a6.out d5.out (by decide)) (fun _ hk => hk.2) (.int .i64 h2)) (fun _ hk => hk.2) (.int .i64 h3)) (fun _ hk => ⟨hk.1.1, hk.1.2⟩)⟩, ⟨by (with_reducible repeat (first | apply Kd.S_alloc | apply Kd.S_drewN | apply Kd.S_drew)); exact Kd.S_mono (Kd.S_far (p := ⟨c1, 1, none⟩) (Kd.S_far (p := ⟨c1, 0, none⟩) (Kd.S_types a3.out d5.out (by decide)) (fun _ hk => hk.2) (.int .i64 h2)) (fun _ hk => hk.2) (.int .i64 h3)) (fun _ hk => ⟨hk.1.1, ⟨hk.1.2.1, ⟨hk.1.2.2.1, ⟨hk.1.2.2.2.1, hk.1.2.2.2.2⟩⟩⟩⟩)⟩, ⟨by (with_reducible repeat (first | refine blk_drewN ?_ _ | refine blk_drew ?_ | refine blk_alloc ?_ _)); refine blk_far ?_ g2.out _; (with_reducible repeat (first | refine blk_drewN ?_ _ | refine blk_drew ?_ | refine blk_alloc ?_ _)); refine blk_far ?_ g2.out _; (with_reducible repeat (first | refine blk_drewN ?_ _ | refine blk_drew ?_ | refine blk_alloc ?_ _)); exact a9.out⟩, ⟨by (with_reducible repeat (first | refine blk_drewN ?_ _ | refine blk_drew ?_ | refine blk_alloc ?_ _)); refine blk_far ?_ g5.out _; (with_reducible repeat (first | refine blk_drewN ?_ _ | refine blk_drew ?_ | refine blk_alloc ?_ _)); refine blk_far ?_ g5.out _; (with_reducible repeat (first | refine blk_drewN ?_ _ | refine blk_drew ?_ | refine blk_alloc ?_ _)); exact b0.out⟩, ⟨by (with_reducible repeat (first | refine blk_drewN ?_ _ | refine blk_drew ?_ | refine blk_alloc ?_ _)); refine blk_far ?_ d6.out _; (with_reducible repeat (first | refine blk_drewN ?_ _ | refine blk_drew ?_ | refine blk_alloc ?_ _)); refine blk_far ?_ d6.out _; (with_reducible repeat (first | refine blk_drewN ?_ _ | refine blk_drew ?_ | refine blk_alloc ?_ _)); exact c5.out⟩, ⟨by repeat (first | (with_reducible first | exact HB.out | apply below_alloc | apply pw_below_drewN | apply below_drew1 | refine below_set ?_ p1.out) | exact HB.out)⟩⟩
        case rest =>
         clear E5
         obtain ⟨kq, B2, rfl, HA, ad4, a1, a2, a4, a5, a6, a3, a9, b0, c5, HB⟩ := hcut
         cases kq with
         | zero => exact absurd HA.out (by simp [laws_FnGrid.j4])
         | succ kj65 =>
          have H := HA.out; clear HA
          simp only [laws_FnGrid.j4] at H
          obtain rfl := Option.some.inj H; go_wp2
          go_ret
          exact ⟨re_, hw_ HB⟩

/-- THE ONE PURE STATEMENT of laws_FnGrid: yours. -/
def laws_FnGrid.Pure : Prop := ∀ (l0 : List Int), l0.length ≤ maxLen → l0.length * 1 ≤ 140737488351232 → (∀ x ∈ l0, (Lit.int .u8 x).wf = true) → ∃ k, laws_FnGrid.f k l0 = some true
theorem laws_FnGrid.walk (P : laws_FnGrid.Pure) (a0 : Option Addr) (len0 cap0 : Nat) (z0 : List Int) (w : World) (w0 : (a0 = none ∧ len0 = 0 ∧ cap0 = 0 ∧ z0 = []) ∨ ∃ x, a0 = some x ∧ len0 ≤ cap0 ∧ cap0 ≤ maxLen ∧ z0.length = cap0 ∧ (∀ i, i < z0.length → w.cell? (x.add i) = some (.int .u8 (z0.getD i 0))) ∧ ∀ n ∈ z0, (Lit.int .u8 n).wf = true) (y0 : len0 * 1 ≤ 140737488351232) :
  Calls Try.prog 5 #[.slice a0 len0 cap0] w fun e w' => e = .returned (.bool true) ∧ Below w.heap.size w w' := by
 obtain ⟨l0, rfl, hr0, hm0, hw0, hc0⟩ := ReadsInt.ofRowC w0
 obtain ⟨k, h⟩ := P l0 hm0 y0 hw0
 refine (laws_FnGrid.calls k _ _ l0 true w (Kd.C_of_reads (d := (0 : Int)) (h1 := fun _ => rfl) hr0) hc0 h).mono ?_
 rintro e w' ⟨rfl, hd⟩
 exact ⟨rfl, hd⟩

end Go.Proofs.Ytkginilghcepbaa.QFnGrid
-- squeezed
