/- Lean functions that tell what the Go functions used by one law answer, and for each a proof that the Go code comes to just these answers; no condition. Printed by this session's own program over the kit's printer. -/
import Derived.Test.YteedbciobdcmaaaQFnBurntx0
import Derived.Test.YteedbciobdcmaaaQFnBurntx2
import Derived.Test.YteedbciobdcmaaaQFnBurntx7
import Derived.Test.YteedbciobdcmaaaQFnBurntx8
import Derived.Test.YteedbciobdcmaaaQFnBurntx9
namespace Go.Proofs.Yteedbciobdcmaaa.QFnBurnt
open Go.RowKit Go.Proofs.YteedbciobdcmaaaW.PrintWords Go.Proofs.YteedbciobdcmaaaW.PrintLast Go.Proofs.YteedbciobdcmaaaW.PrintMore
attribute [local go_sem] max2_int min2_int max_two min_two max_three min_three max_four min_four   -- for this text's walks alone
attribute [local go_sem high] go_eql go_neq go_lss go_leq go_gtr go_geq go_store   -- for this text's walks alone
set_option linter.unusedVariables false
set_option linter.unusedSimpArgs false

/-! ### laws_FnBurnt: function 6 -/
mutual
def laws_FnBurnt.j0 : Nat → List (S60) → Int → List (S62) → Bool → List (S60) → Bool → List Int → List Int → List Int → Int → Int → Option (Bool)
 | 0, _, _, _, _, _, _, _, _, _, _, _ => none
 | k + 1, x5, x6, x7, x8, x9, x52, x293000, x293001, x293002, x294000, x294001 => if x52 = true then (some false) else (laws_FnBurnt.l0 k x5 x6 x7 x8 x9 0 0 0 0 x293000 x293001 x293002 x294000 x294001)
def laws_FnBurnt.l0 : Nat → List (S60) → Int → List (S62) → Bool → List (S60) → Int → Int → Int → Int → List Int → List Int → List Int → Int → Int → Option (Bool)
 | 0, _, _, _, _, _, _, _, _, _, _, _, _, _, _ => none
 | k + 1, x5, x6, x7, x8, x9, x11, x12, x13, x14, x293000, x293001, x293002, x294000, x294001 => if x14 < (x5.length : Int) then (if 0 ≤ x14 then (if x14 < (x9.length : Int) then (laws_FnBurnt.l0 k x5 x6 x7 x8 x9 (wrap64 (x11 + ((rd_T60 x5 x14).f0))) (wrap64 (x12 + ((rd_T60 x9 x14).f0))) x13 (wrap64 (x14 + 1)) x293000 x293001 x293002 x294000 x294001) else (none)) else (none)) else (laws_FnBurnt.l1 k x5 x6 x7 x8 x11 x12 x13 0 x293000 x293001 x293002 x294000 x294001)
def laws_FnBurnt.l1 : Nat → List (S60) → Int → List (S62) → Bool → Int → Int → Int → Int → List Int → List Int → List Int → Int → Int → Option (Bool)
 | 0, _, _, _, _, _, _, _, _, _, _, _, _, _ => none
 | k + 1, x5, x6, x7, x8, x11, x12, x13, x15, x293000, x293001, x293002, x294000, x294001 => if x15 < (x7.length : Int) then (if 0 ≤ x15 then (if ((rd_T62 x7 x15).f1) > x6 then (some false) else (if ((rd_T62 x7 x15).f1) < 1 then (some false) else (laws_FnBurnt.l1 k x5 x6 x7 x8 x11 x12 (wrap64 (x13 + ((rd_T62 x7 x15).f1))) (wrap64 (x15 + 1)) x293000 x293001 x293002 x294000 x294001))) else (none)) else (if (wrap64 (x11 - x12)) = x13 then (if x12 = 0 then ((impl_Leaves.f k x293000 x293001 x293002 x294000 x294001 x5 x7).bind fun t308 => (laws_FnBurnt.j3 k x5 x7 (x8 != (t308 == (x7.length : Int))) x293000 x293001 x293002 x294000 x294001)) else (laws_FnBurnt.j3 k x5 x7 (x8 != false) x293000 x293001 x293002 x294000 x294001)) else (laws_FnBurnt.j3 k x5 x7 true x293000 x293001 x293002 x294000 x294001))
def laws_FnBurnt.j3 : Nat → List (S60) → List (S62) → Bool → List Int → List Int → List Int → Int → Int → Option (Bool)
 | 0, _, _, _, _, _, _, _, _ => none
 | k + 1, x5, x7, x121, x293000, x293001, x293002, x294000, x294001 => if x121 = true then (some false) else (if (x7.length : Int) > 0 then ((impl_Leaves.f k x293000 x293001 x293002 x294000 x294001 x5 x7).bind fun t309 => (if t309 = (x7.length : Int) then ((impl_Burnt.f k x5 (([(⟨(x5.length : Int), 1⟩ : S62)] : List (S62)))).bind fun bt313 => (if bt313.2 = 0 then (some ((bt313.1.length : Int) == (x5.length : Int))) else (some false))) else (some false))) else ((impl_Burnt.f k x5 (([(⟨(x5.length : Int), 1⟩ : S62)] : List (S62)))).bind fun bt320 => (if bt320.2 = 0 then (some ((bt320.1.length : Int) == (x5.length : Int))) else (some false))))
end
def laws_FnBurnt.f (k : Nat) (l0 : List Int) : Option (Bool) := (laws_big.f l0).bind fun t277 => (if t277 = true then (some true) else ((spec_DrawFuel.f k l0).bind fun bt278 => ((laws_at.f l0 3).bind fun t294 => ((impl_Order.f k bt278.1 bt278.2.1 bt278.2.2.1 bt278.2.2.2.1 bt278.2.2.2.2.1 bt278.2.2.2.2.2 (wrap64 (5 + (Int.tmod t294 40)))).bind fun bt295 => ((impl_Burnt.f k bt278.2.2.2.2.2 bt295.1).bind fun bt299 => (if bt299.2 = (-1) then (laws_FnBurnt.j0 k bt278.2.2.2.2.2 (wrap64 (5 + (Int.tmod t294 40))) bt295.1 bt295.2 bt299.1 ((bt299.1.length : Int) != (bt278.2.2.2.2.2.length : Int)) bt278.1 bt278.2.1 bt278.2.2.1 bt278.2.2.2.1 bt278.2.2.2.2.1) else (laws_FnBurnt.j0 k bt278.2.2.2.2.2 (wrap64 (5 + (Int.tmod t294 40))) bt295.1 bt295.2 bt299.1 true bt278.1 bt278.2.1 bt278.2.2.1 bt278.2.2.2.1 bt278.2.2.2.2.1)))))))
theorem laws_FnBurnt.mono_l : ∀ k, (∀ y0 y1 y2 y3 y4 y5 y6 y7 y8 y9 y10, LeO (laws_FnBurnt.j0 k y0 y1 y2 y3 y4 y5 y6 y7 y8 y9 y10) (laws_FnBurnt.j0 (k + 1) y0 y1 y2 y3 y4 y5 y6 y7 y8 y9 y10)) ∧ (∀ y0 y1 y2 y3 y4 y5 y6 y7 y8 y9 y10 y11 y12 y13, LeO (laws_FnBurnt.l0 k y0 y1 y2 y3 y4 y5 y6 y7 y8 y9 y10 y11 y12 y13) (laws_FnBurnt.l0 (k + 1) y0 y1 y2 y3 y4 y5 y6 y7 y8 y9 y10 y11 y12 y13)) ∧ (∀ y0 y1 y2 y3 y4 y5 y6 y7 y8 y9 y10 y11 y12, LeO (laws_FnBurnt.l1 k y0 y1 y2 y3 y4 y5 y6 y7 y8 y9 y10 y11 y12) (laws_FnBurnt.l1 (k + 1) y0 y1 y2 y3 y4 y5 y6 y7 y8 y9 y10 y11 y12)) ∧ (∀ y0 y1 y2 y3 y4 y5 y6 y7, LeO (laws_FnBurnt.j3 k y0 y1 y2 y3 y4 y5 y6 y7) (laws_FnBurnt.j3 (k + 1) y0 y1 y2 y3 y4 y5 y6 y7))
 | 0 => ⟨fun _ _ _ _ _ _ _ _ _ _ _ r h => by simp [laws_FnBurnt.j0] at h, fun _ _ _ _ _ _ _ _ _ _ _ _ _ _ r h => by simp [laws_FnBurnt.l0] at h, fun _ _ _ _ _ _ _ _ _ _ _ _ _ r h => by simp [laws_FnBurnt.l1] at h, fun _ _ _ _ _ _ _ _ r h => by simp [laws_FnBurnt.j3] at h⟩
 | k + 1 => by
  obtain ⟨ih0, ih1, ih2, ih3⟩ := laws_FnBurnt.mono_l k
  refine ⟨?_, ?_, ?_, ?_⟩
  ·intro y0 y1 y2 y3 y4 y5 y6 y7 y8 y9 y10
   unfold laws_FnBurnt.j0
   repeat' first
   | (with_reducible exact ih0 _ _ _ _ _ _ _ _ _ _ _)
   | (with_reducible exact ih1 _ _ _ _ _ _ _ _ _ _ _ _ _ _)
   | (with_reducible exact ih2 _ _ _ _ _ _ _ _ _ _ _ _ _)
   | (with_reducible exact ih3 _ _ _ _ _ _ _ _)
   | (with_reducible exact impl_Burnt.mono _ _ _)
   | (with_reducible exact impl_Leaves.mono _ _ _ _ _ _ _ _)
   | (with_reducible exact impl_Order.mono _ _ _ _ _ _ _ _)
   | (with_reducible exact spec_DrawFuel.mono _ _)
   | (with_reducible exact LeO.refl _)
   | (with_reducible exact LeO.none _)
   | (with_reducible refine LeO.ite ?_ ?_)
   | (with_reducible refine LeO.bind ?_ (fun _ => ?_))
   | exact ih0 _ _ _ _ _ _ _ _ _ _ _
   | exact ih1 _ _ _ _ _ _ _ _ _ _ _ _ _ _
   | exact ih2 _ _ _ _ _ _ _ _ _ _ _ _ _
   | exact ih3 _ _ _ _ _ _ _ _
   | exact impl_Burnt.mono _ _ _
   | exact impl_Leaves.mono _ _ _ _ _ _ _ _
   | exact impl_Order.mono _ _ _ _ _ _ _ _
   | exact spec_DrawFuel.mono _ _
   | exact LeO.none _
   | refine LeO.ite ?_ ?_
   | refine LeO.bind ?_ (fun _ => ?_)
  ·intro y0 y1 y2 y3 y4 y5 y6 y7 y8 y9 y10 y11 y12 y13
   unfold laws_FnBurnt.l0
   repeat' first
   | (with_reducible exact ih0 _ _ _ _ _ _ _ _ _ _ _)
   | (with_reducible exact ih1 _ _ _ _ _ _ _ _ _ _ _ _ _ _)
   | (with_reducible exact ih2 _ _ _ _ _ _ _ _ _ _ _ _ _)
   | (with_reducible exact ih3 _ _ _ _ _ _ _ _)
   | (with_reducible exact impl_Burnt.mono _ _ _)
   | (with_reducible exact impl_Leaves.mono _ _ _ _ _ _ _ _)
   | (with_reducible exact impl_Order.mono _ _ _ _ _ _ _ _)
   | (with_reducible exact spec_DrawFuel.mono _ _)
   | (with_reducible exact LeO.refl _)
   | (with_reducible exact LeO.none _)
   | (with_reducible refine LeO.ite ?_ ?_)
   | (with_reducible refine LeO.bind ?_ (fun _ => ?_))
   | exact ih0 _ _ _ _ _ _ _ _ _ _ _
   | exact ih1 _ _ _ _ _ _ _ _ _ _ _ _ _ _
   | exact ih2 _ _ _ _ _ _ _ _ _ _ _ _ _
   | exact ih3 _ _ _ _ _ _ _ _
   | exact impl_Burnt.mono _ _ _
   | exact impl_Leaves.mono _ _ _ _ _ _ _ _
   | exact impl_Order.mono _ _ _ _ _ _ _ _
   | exact spec_DrawFuel.mono _ _
   | exact LeO.none _
   | refine LeO.ite ?_ ?_
   | refine LeO.bind ?_ (fun _ => ?_)
  ·intro y0 y1 y2 y3 y4 y5 y6 y7 y8 y9 y10 y11 y12
   unfold laws_FnBurnt.l1
   repeat' first
   | (with_reducible exact ih0 _ _ _ _ _ _ _ _ _ _ _)
   | (with_reducible exact ih1 _ _ _ _ _ _ _ _ _ _ _ _ _ _)
   | (with_reducible exact ih2 _ _ _ _ _ _ _ _ _ _ _ _ _)
   | (with_reducible exact ih3 _ _ _ _ _ _ _ _)
   | (with_reducible exact impl_Burnt.mono _ _ _)
   | (with_reducible exact impl_Leaves.mono _ _ _ _ _ _ _ _)
   | (with_reducible exact impl_Order.mono _ _ _ _ _ _ _ _)
   | (with_reducible exact spec_DrawFuel.mono _ _)
   | (with_reducible exact LeO.refl _)
   | (with_reducible exact LeO.none _)
   | (with_reducible refine LeO.ite ?_ ?_)
   | (with_reducible refine LeO.bind ?_ (fun _ => ?_))
   | exact ih0 _ _ _ _ _ _ _ _ _ _ _
   | exact ih1 _ _ _ _ _ _ _ _ _ _ _ _ _ _
   | exact ih2 _ _ _ _ _ _ _ _ _ _ _ _ _
   | exact ih3 _ _ _ _ _ _ _ _
   | exact impl_Burnt.mono _ _ _
   | exact impl_Leaves.mono _ _ _ _ _ _ _ _
   | exact impl_Order.mono _ _ _ _ _ _ _ _
   | exact spec_DrawFuel.mono _ _
   | exact LeO.none _
   | refine LeO.ite ?_ ?_
   | refine LeO.bind ?_ (fun _ => ?_)
  ·intro y0 y1 y2 y3 y4 y5 y6 y7
   unfold laws_FnBurnt.j3
   repeat' first
   | (with_reducible exact ih0 _ _ _ _ _ _ _ _ _ _ _)
   | (with_reducible exact ih1 _ _ _ _ _ _ _ _ _ _ _ _ _ _)
   | (with_reducible exact ih2 _ _ _ _ _ _ _ _ _ _ _ _ _)
   | (with_reducible exact ih3 _ _ _ _ _ _ _ _)
   | (with_reducible exact impl_Burnt.mono _ _ _)
   | (with_reducible exact impl_Leaves.mono _ _ _ _ _ _ _ _)
   | (with_reducible exact impl_Order.mono _ _ _ _ _ _ _ _)
   | (with_reducible exact spec_DrawFuel.mono _ _)
   | (with_reducible exact LeO.refl _)
   | (with_reducible exact LeO.none _)
   | (with_reducible refine LeO.ite ?_ ?_)
   | (with_reducible refine LeO.bind ?_ (fun _ => ?_))
   | exact ih0 _ _ _ _ _ _ _ _ _ _ _
   | exact ih1 _ _ _ _ _ _ _ _ _ _ _ _ _ _
   | exact ih2 _ _ _ _ _ _ _ _ _ _ _ _ _
   | exact ih3 _ _ _ _ _ _ _ _
   | exact impl_Burnt.mono _ _ _
   | exact impl_Leaves.mono _ _ _ _ _ _ _ _
   | exact impl_Order.mono _ _ _ _ _ _ _ _
   | exact spec_DrawFuel.mono _ _
   | exact LeO.none _
   | refine LeO.ite ?_ ?_
   | refine LeO.bind ?_ (fun _ => ?_)
theorem laws_FnBurnt.mono : ∀ a0 k, LeO (laws_FnBurnt.f k a0) (laws_FnBurnt.f (k + 1) a0) := by
 intro a0 k
 obtain ⟨ih0, ih1, ih2, ih3⟩ := laws_FnBurnt.mono_l k
 unfold laws_FnBurnt.f
 repeat' first
   | (with_reducible exact ih0 _ _ _ _ _ _ _ _ _ _ _)
   | (with_reducible exact ih1 _ _ _ _ _ _ _ _ _ _ _ _ _ _)
   | (with_reducible exact ih2 _ _ _ _ _ _ _ _ _ _ _ _ _)
   | (with_reducible exact ih3 _ _ _ _ _ _ _ _)
   | (with_reducible exact impl_Burnt.mono _ _ _)
   | (with_reducible exact impl_Leaves.mono _ _ _ _ _ _ _ _)
   | (with_reducible exact impl_Order.mono _ _ _ _ _ _ _ _)
   | (with_reducible exact spec_DrawFuel.mono _ _)
   | (with_reducible exact LeO.refl _)
   | (with_reducible exact LeO.none _)
   | (with_reducible refine LeO.ite ?_ ?_)
   | (with_reducible refine LeO.bind ?_ (fun _ => ?_))
   | exact ih0 _ _ _ _ _ _ _ _ _ _ _
   | exact ih1 _ _ _ _ _ _ _ _ _ _ _ _ _ _
   | exact ih2 _ _ _ _ _ _ _ _ _ _ _ _ _
   | exact ih3 _ _ _ _ _ _ _ _
   | exact impl_Burnt.mono _ _ _
   | exact impl_Leaves.mono _ _ _ _ _ _ _ _
   | exact impl_Order.mono _ _ _ _ _ _ _ _
   | exact spec_DrawFuel.mono _ _
   | exact LeO.none _
   | refine LeO.ite ?_ ?_
   | refine LeO.bind ?_ (fun _ => ?_)
set_option maxHeartbeats 8000000 in
set_option maxRecDepth 100000 in
theorem laws_FnBurnt.calls (k : Nat) (A0 : Option Addr) (c0 : Nat) (l0 : List Int) (r : Bool) (w : World) (hr0 : Kd.C (Kd.int .u8) w A0 l0.length l0) (hc0 : l0.length ≤ c0) (h : laws_FnBurnt.f k l0 = some r) :
  Calls Try.prog 6 #[.slice A0 l0.length c0] w fun e w' => e = .returned (.bool r) ∧ Below w.heap.size w w' := by
 have hu33 := Try.underlying33
 have hu35 := Try.underlying35
 have hu62 := Try.underlying62
 have HR0 := Aside0.mk hr0
 have HC0 := Aside0.mk hc0
 clear hr0 hc0
 have HB := Aside0.mk (Below.refl w.heap.size w)
 have H : ((laws_big.f l0).bind fun t277 => (if t277 = true then (some true) else ((spec_DrawFuel.f k l0).bind fun bt278 => ((laws_at.f l0 3).bind fun t294 => ((impl_Order.f k bt278.1 bt278.2.1 bt278.2.2.1 bt278.2.2.2.1 bt278.2.2.2.2.1 bt278.2.2.2.2.2 (wrap64 (5 + (Int.tmod t294 40)))).bind fun bt295 => ((impl_Burnt.f k bt278.2.2.2.2.2 bt295.1).bind fun bt299 => (if bt299.2 = (-1) then (laws_FnBurnt.j0 k bt278.2.2.2.2.2 (wrap64 (5 + (Int.tmod t294 40))) bt295.1 bt295.2 bt299.1 ((bt299.1.length : Int) != (bt278.2.2.2.2.2.length : Int)) bt278.1 bt278.2.1 bt278.2.2.1 bt278.2.2.2.1 bt278.2.2.2.2.1) else (laws_FnBurnt.j0 k bt278.2.2.2.2.2 (wrap64 (5 + (Int.tmod t294 40))) bt295.1 bt295.2 bt299.1 true bt278.1 bt278.2.1 bt278.2.2.1 bt278.2.2.2.1 bt278.2.2.2.2.1)))))))) = some r := h
 clear h
 replace H := Option.bind_eq_some_iff.mp H
 obtain ⟨t277, A20, H⟩ := H
 replace H : (if t277 = true then (some true) else ((spec_DrawFuel.f k l0).bind fun bt278 => ((laws_at.f l0 3).bind fun t294 => ((impl_Order.f k bt278.1 bt278.2.1 bt278.2.2.1 bt278.2.2.2.1 bt278.2.2.2.2.1 bt278.2.2.2.2.2 (wrap64 (5 + (Int.tmod t294 40)))).bind fun bt295 => ((impl_Burnt.f k bt278.2.2.2.2.2 bt295.1).bind fun bt299 => (if bt299.2 = (-1) then (laws_FnBurnt.j0 k bt278.2.2.2.2.2 (wrap64 (5 + (Int.tmod t294 40))) bt295.1 bt295.2 bt299.1 ((bt299.1.length : Int) != (bt278.2.2.2.2.2.length : Int)) bt278.1 bt278.2.1 bt278.2.2.1 bt278.2.2.2.1 bt278.2.2.2.2.1) else (laws_FnBurnt.j0 k bt278.2.2.2.2.2 (wrap64 (5 + (Int.tmod t294 40))) bt295.1 bt295.2 bt299.1 true bt278.1 bt278.2.1 bt278.2.2.1 bt278.2.2.2.1 bt278.2.2.2.2.1))))))) = some r := H
 have A2 := Aside0.mk A20
 clear A20
 by_cases c3 : t277 = true
 ·subst c3
  have H1 : (some true) = some r := by rw [if_pos rfl] at H; exact H
  clear H
  have H := H1
  clear H1
  obtain rfl := Option.some.inj H
  go_enter Try.func6, Try.ntmps6
  go_wp2_with (first | ((with_reducible refine gate_callee (f := 28) rfl ?_); refine goesL_ (some 19) rfl rfl Try.func28 (by kernel_rfl) rfl #[.slice A0 l0.length c0] rfl (by (try simp only [List.map_toArray, List.map_cons, List.map_nil]); first | done | rfl | (simp only [List.length_drop, List.length_take]; rfl)) ?_; (with_reducible refine (laws_big.calls _ _ l0 true _ ?side1 ?side2 A2.out).mono ?_); (case side1 => repeat (first | exact HR0.out | (with_reducible refine Kd.C_alloc ?_ _) | (with_reducible refine Kd.C_drewN ?_ _) | (with_reducible refine Kd.C_drew ?_))); (case side2 => exact HC0.out); rintro e w' ⟨rfl, ⟨nd, rfl⟩⟩; refine ⟨_, rfl, ?_⟩))
  go_ret
  exact ⟨by first | rfl | (simp [errW_none, errW_some] <;> rfl) | (simp [*, errW_none, errW_some] <;> rfl), by repeat (first | (with_reducible first | exact HB.out | apply below_alloc | apply pw_below_drewN | apply below_drew1) | exact HB.out)⟩
 ·replace c3 := Bool.eq_false_iff.mpr c3
  subst c3
  have H1 : ((spec_DrawFuel.f k l0).bind fun bt278 => ((laws_at.f l0 3).bind fun t294 => ((impl_Order.f k bt278.1 bt278.2.1 bt278.2.2.1 bt278.2.2.2.1 bt278.2.2.2.2.1 bt278.2.2.2.2.2 (wrap64 (5 + (Int.tmod t294 40)))).bind fun bt295 => ((impl_Burnt.f k bt278.2.2.2.2.2 bt295.1).bind fun bt299 => (if bt299.2 = (-1) then (laws_FnBurnt.j0 k bt278.2.2.2.2.2 (wrap64 (5 + (Int.tmod t294 40))) bt295.1 bt295.2 bt299.1 ((bt299.1.length : Int) != (bt278.2.2.2.2.2.length : Int)) bt278.1 bt278.2.1 bt278.2.2.1 bt278.2.2.2.1 bt278.2.2.2.2.1) else (laws_FnBurnt.j0 k bt278.2.2.2.2.2 (wrap64 (5 + (Int.tmod t294 40))) bt295.1 bt295.2 bt299.1 true bt278.1 bt278.2.1 bt278.2.2.1 bt278.2.2.2.1 bt278.2.2.2.2.1)))))) = some r := by rw [if_neg (show ¬ (false = true) by decide)] at H; exact H
  clear H
  have H := H1
  clear H1
  replace H := Option.bind_eq_some_iff.mp H
  obtain ⟨⟨t278, t281, t284, t287, t288, t289⟩, A40, H⟩ := H
  replace H : ((laws_at.f l0 3).bind fun t294 => ((impl_Order.f k t278 t281 t284 t287 t288 t289 (wrap64 (5 + (Int.tmod t294 40)))).bind fun bt295 => ((impl_Burnt.f k t289 bt295.1).bind fun bt299 => (if bt299.2 = (-1) then (laws_FnBurnt.j0 k t289 (wrap64 (5 + (Int.tmod t294 40))) bt295.1 bt295.2 bt299.1 ((bt299.1.length : Int) != (t289.length : Int)) t278 t281 t284 t287 t288) else (laws_FnBurnt.j0 k t289 (wrap64 (5 + (Int.tmod t294 40))) bt295.1 bt295.2 bt299.1 true t278 t281 t284 t287 t288))))) = some r := H
  have A4 := Aside0.mk A40
  clear A40
  replace H := Option.bind_eq_some_iff.mp H
  obtain ⟨t294, A50, H⟩ := H
  replace H : ((impl_Order.f k t278 t281 t284 t287 t288 t289 (wrap64 (5 + (Int.tmod t294 40)))).bind fun bt295 => ((impl_Burnt.f k t289 bt295.1).bind fun bt299 => (if bt299.2 = (-1) then (laws_FnBurnt.j0 k t289 (wrap64 (5 + (Int.tmod t294 40))) bt295.1 bt295.2 bt299.1 ((bt299.1.length : Int) != (t289.length : Int)) t278 t281 t284 t287 t288) else (laws_FnBurnt.j0 k t289 (wrap64 (5 + (Int.tmod t294 40))) bt295.1 bt295.2 bt299.1 true t278 t281 t284 t287 t288)))) = some r := H
  have A5 := Aside0.mk A50
  clear A50
  replace H := Option.bind_eq_some_iff.mp H
  obtain ⟨⟨t295, t298⟩, A60, H⟩ := H
  replace H : ((impl_Burnt.f k t289 t295).bind fun bt299 => (if bt299.2 = (-1) then (laws_FnBurnt.j0 k t289 (wrap64 (5 + (Int.tmod t294 40))) t295 t298 bt299.1 ((bt299.1.length : Int) != (t289.length : Int)) t278 t281 t284 t287 t288) else (laws_FnBurnt.j0 k t289 (wrap64 (5 + (Int.tmod t294 40))) t295 t298 bt299.1 true t278 t281 t284 t287 t288))) = some r := H
  have A6 := Aside0.mk A60
  clear A60
  replace H := Option.bind_eq_some_iff.mp H
  obtain ⟨⟨t299, t300⟩, A70, H⟩ := H
  replace H : (if t300 = (-1) then (laws_FnBurnt.j0 k t289 (wrap64 (5 + (Int.tmod t294 40))) t295 t298 t299 ((t299.length : Int) != (t289.length : Int)) t278 t281 t284 t287 t288) else (laws_FnBurnt.j0 k t289 (wrap64 (5 + (Int.tmod t294 40))) t295 t298 t299 true t278 t281 t284 t287 t288)) = some r := H
  have A7 := Aside0.mk A70
  clear A70
  have HC8 := Aside0.mk H
  clear H
  go_enter Try.func6, Try.ntmps6
  go_upto_region 7 with (first | ((with_reducible refine gate_callee (f := 28) rfl ?_); refine goesL_ (some 19) rfl rfl Try.func28 (by kernel_rfl) rfl #[.slice A0 l0.length c0] rfl (by (try simp only [List.map_toArray, List.map_cons, List.map_nil]); first | done | rfl | (simp only [List.length_drop, List.length_take]; rfl)) ?_; (with_reducible refine (laws_big.calls _ _ l0 false _ ?side1 ?side2 A2.out).mono ?_); (case side1 => repeat (first | exact HR0.out | (with_reducible refine Kd.C_alloc ?_ _) | (with_reducible refine Kd.C_drewN ?_ _) | (with_reducible refine Kd.C_drew ?_))); (case side2 => exact HC0.out); rintro e w' ⟨rfl, ⟨nd, rfl⟩⟩; refine ⟨_, rfl, ?_⟩) | ((with_reducible refine gate_callee (f := 29) rfl ?_); refine goesL_ (some 22) rfl rfl Try.func29 (by kernel_rfl) rfl #[.slice A0 l0.length c0] rfl (by (try simp only [List.map_toArray, List.map_cons, List.map_nil]); first | done | rfl | (simp only [List.length_drop, List.length_take]; rfl)) ?_; (with_reducible refine (spec_DrawFuel.calls k _ _ l0 t278 t281 t284 t287 t288 t289 _ ?side1 ?side2 A4.out).mono ?_); (case side1 => repeat (first | exact HR0.out | (with_reducible refine Kd.C_alloc ?_ _) | (with_reducible refine Kd.C_drewN ?_ _) | (with_reducible refine Kd.C_drew ?_))); (case side2 => exact HC0.out); rintro e w9 ⟨v279, v282, v285, v290, rfl, ho0, ho1, ho2, ho3, hb⟩; refine ⟨_, rfl, ?_⟩; have n0_ := Aside0.mk (Kd.R_lower ho0 (below_size (by repeat (first | (with_reducible first | exact HB.out | apply below_alloc | apply pw_below_drewN | apply below_drew1) | exact HB.out)))); have n1_ := Aside0.mk (Kd.R_lower ho1 (below_size (by repeat (first | (with_reducible first | exact HB.out | apply below_alloc | apply pw_below_drewN | apply below_drew1) | exact HB.out)))); have n2_ := Aside0.mk (Kd.R_lower ho2 (below_size (by repeat (first | (with_reducible first | exact HB.out | apply below_alloc | apply pw_below_drewN | apply below_drew1) | exact HB.out)))); have n3_ := Aside0.mk (Kd.R_lower ho3 (below_size (by repeat (first | (with_reducible first | exact HB.out | apply below_alloc | apply pw_below_drewN | apply below_drew1) | exact HB.out)))); have n4_ := Aside0.mk (below_step (by repeat (first | (with_reducible first | exact HB.out | apply below_alloc | apply pw_below_drewN | apply below_drew1) | exact HB.out)) hb); clear HB; have HO280 := n0_; have HO283 := n1_; have HO286 := n2_; have HO291 := n3_; have HB := n4_; clear n0_ n1_ n2_ n3_ n4_; (try clear hb); (try clear hb2); (try clear hk); (try clear hi); (try clear ho0); (try clear ho1); (try clear ho2); (try clear ho3)) | ((with_reducible refine gate_dst (N := 3) rfl ?_); (try (refine gate_guard (by rfl) ?_; dsimp only)); refine box_event ?hg (N := 3) ?hd (cs := #[.slice none 0 0, .slice none 0 0, .slice none 0 0]) (t := 33) ?hr ?_; (case hd => rfl); (case hg => rfl); (case hr => first | (go_simp; done) | (go_simp; rfl)); intro gb292 hg w10 hbox hb; have n0_ := Aside0.mk (Kd.R_below (by exact HO280.out) hb); have n1_ := Aside0.mk (Kd.R_below (by exact HO283.out) hb); have n2_ := Aside0.mk (Kd.R_below (by exact HO286.out) hb); have n3_ := Aside0.mk (Kd.R_below (by exact HO291.out) hb); have n4_ := Aside0.mk (below_step (by exact HB.out) hb); have n5_ := Aside0.mk (hbox); have n6_ := Aside0.mk ((by rw [hg]; exact (below_size (by exact HB.out)) : w.heap.size ≤ gb292)); have n7_ := Aside0.mk ((n6_.out)); clear HO280; clear HO283; clear HO286; clear HO291; clear HB; have HO280 := n0_; have HO283 := n1_; have HO286 := n2_; have HO291 := n3_; have HB := n4_; have BK292 := n5_; have GW292 := n6_; have GE292 := n7_; clear n0_ n1_ n2_ n3_ n4_ n5_ n6_ n7_; clear hb hbox hg) | ((with_reducible refine gate_dst (N := 4) rfl ?_); (try (refine gate_guard (by rfl) ?_; dsimp only)); refine box_event ?hg (N := 4) ?hd (cs := #[.int .i64 0, .int .i64 0]) (t := 35) ?hr ?_; (case hd => rfl); (case hg => rfl); (case hr => first | (go_simp; done) | (go_simp; rfl)); intro gb293 hg w11 hbox hb; have n0_ := Aside0.mk (Kd.R_below (by exact HO280.out) hb); have n1_ := Aside0.mk (Kd.R_below (by exact HO283.out) hb); have n2_ := Aside0.mk (Kd.R_below (by exact HO286.out) hb); have n3_ := Aside0.mk (Kd.R_below (by exact HO291.out) hb); have n4_ := Aside0.mk (blk_below (g := gb292) (o := .cells #[.slice none 0 0, .slice none 0 0, .slice none 0 0] 33 (0, 0)) (by exact BK292.out) hb); have n5_ := Aside0.mk (below_step (by exact HB.out) hb); have n6_ := Aside0.mk (hbox); have n7_ := Aside0.mk ((by rw [hg]; exact (below_size (by exact HB.out)) : w.heap.size ≤ gb293)); have n8_ := Aside0.mk ((n7_.out)); have n9_ := Aside0.mk ((by rw [hg]; exact Nat.ne_of_lt (blk_lt (g := gb292) (o := .cells #[.slice none 0 0, .slice none 0 0, .slice none 0 0] 33 (0, 0)) (by exact BK292.out)) : gb292 ≠ gb293)); have n10_ := Aside0.mk ((n9_.out.symm)); clear HO280; clear HO283; clear HO286; clear HO291; clear BK292; clear HB; have HO280 := n0_; have HO283 := n1_; have HO286 := n2_; have HO291 := n3_; have BK292 := n4_; have HB := n5_; have BK293 := n6_; have GW293 := n7_; have GE293 := n8_; have NB292_293 := n9_; have NB293_292 := n10_; clear n0_ n1_ n2_ n3_ n4_ n5_ n6_ n7_ n8_ n9_ n10_; clear hb hbox hg; obtain ⟨Ao12, co12, eo12⟩ := Kd.R_slice HO280.out; subst eo12; have hnb13 := NB292_293.out; have hnc13 := NB293_292.out; have hcz14_0 : w11.cell? ⟨gb292, 0, none⟩ = some (.slice none 0 0) := (blk_cell BK292.out 0).trans rfl; have hcz14_1 : w11.cell? ⟨gb292, 1, none⟩ = some (.slice none 0 0) := (blk_cell BK292.out 1).trans rfl; have hcz14_2 : w11.cell? ⟨gb292, 2, none⟩ = some (.slice none 0 0) := (blk_cell BK292.out 2).trans rfl; have hfz14_0 := blk_frozen BK292.out 0; have hfz14_1 := blk_frozen BK292.out 1; have hfz14_2 := blk_frozen BK292.out 2; obtain ⟨Ao15, co15, eo15⟩ := Kd.R_slice HO283.out; subst eo15; obtain ⟨Ao16, co16, eo16⟩ := Kd.R_slice HO286.out; subst eo16; have hcz17_0 : w11.cell? ⟨gb293, 0, none⟩ = some (.int .i64 0) := (blk_cell BK293.out 0).trans rfl; have hcz17_1 : w11.cell? ⟨gb293, 1, none⟩ = some (.int .i64 0) := (blk_cell BK293.out 1).trans rfl; have hfz17_0 := blk_frozen BK293.out 0; have hfz17_1 := blk_frozen BK293.out 1) | ((with_reducible refine gate_callee (f := 30) rfl ?_); refine goesL_ (some 27) rfl rfl Try.func30 (by kernel_rfl) rfl #[.slice A0 l0.length c0, .int .i64 3] rfl (by (try simp only [List.map_toArray, List.map_cons, List.map_nil]); first | done | rfl | (simp only [List.length_drop, List.length_take]; rfl)) ?_; (with_reducible refine (laws_at.calls _ _ l0 3 t294 _ ?side1 ?side2 A5.out).mono ?_); (case side1 => exact Kd.C_below HR0.out (by repeat (first | (with_reducible first | exact HB.out | apply below_alloc | apply pw_below_drewN | apply below_drew1 | refine below_set ?_ GE292.out | refine below_set ?_ GE293.out) | exact HB.out))); (case side2 => exact HC0.out); rintro e w' ⟨rfl, ⟨nd, rfl⟩⟩; refine ⟨_, rfl, ?_⟩; obtain ⟨Ao18, co18, eo18⟩ := Kd.R_slice HO291.out; subst eo18) | ((with_reducible refine gate_callee (f := 20) rfl ?_); refine goesL_ (some 35) rfl rfl Try.func20 (by kernel_rfl) rfl #[.agg #[.slice Ao12 t278.length co12, .slice Ao15 t281.length co15, .slice Ao16 t284.length co16], .agg #[.int .i64 t287, .int .i64 t288], .slice Ao18 t289.length co18, .int .i64 (wrap64 (5 + (Int.tmod t294 40)))] rfl (by (try simp only [List.map_toArray, List.map_cons, List.map_nil]); first | done | rfl | (simp only [List.length_drop, List.length_take]; rfl)) ?_; (with_reducible refine (impl_Order.calls k _ _ t278 _ _ t281 _ _ t284 t287 t288 _ _ t289 (wrap64 (5 + (Int.tmod t294 40))) t295 t298 _ ?side1 ?side2 ?side3 ?side4 ?side5 ?side6 ?side7 ?side8 A6.out).mono ?_); (case side1 => refine (Kd.R_reads' (e := 3) (base := w.heap.size) (ok := fun k_ => (some k_ ≠ (.slice Ao15 t281.length co15 : Value).ownBlock ∧ some k_ ≠ (.slice Ao16 t284.length co16 : Value).ownBlock)) (n := t278.length) (c := co12) ?_).2.2; exact (by (with_reducible repeat (first | apply Kd.R_alloc | apply Kd.R_drewN | apply Kd.R_drew)); exact (Kd.R_mono (Kd.R_mono (Kd.R_far (p := ⟨gb293, 1, none⟩) (Kd.R_far (p := ⟨gb293, 0, none⟩) (Kd.R_far (p := ⟨gb292, 2, none⟩) (Kd.R_far (p := ⟨gb292, 1, none⟩) (Kd.R_far (p := ⟨gb292, 0, none⟩) (Kd.R_types (Kd.R_types HO280.out BK292.out (by decide)) BK293.out (by decide)) (fun _ hk => hk.1.2) (.slice Ao12 t278.length co12)) (fun _ hk => hk.1.2) (.slice Ao15 t281.length co15)) (fun _ hk => hk.1.2) (.slice Ao16 t284.length co16)) (fun _ hk => hk.2) (.int .i64 t287)) (fun _ hk => hk.2) (.int .i64 t288)) (fun _ h_ => h_.1)) (fun _ h_ => h_.1)))); (case side2 => exact (Kd.R_reads' HO280.out).2.1); (case side3 => refine (Kd.R_reads' (e := 3) (base := w.heap.size) (ok := fun k_ => (some k_ ≠ (.slice Ao12 t278.length co12 : Value).ownBlock ∧ some k_ ≠ (.slice Ao16 t284.length co16 : Value).ownBlock)) (n := t281.length) (c := co15) ?_).2.2; exact (by (with_reducible repeat (first | apply Kd.R_alloc | apply Kd.R_drewN | apply Kd.R_drew)); exact (Kd.R_mono (Kd.R_mono (Kd.R_far (p := ⟨gb293, 1, none⟩) (Kd.R_far (p := ⟨gb293, 0, none⟩) (Kd.R_far (p := ⟨gb292, 2, none⟩) (Kd.R_far (p := ⟨gb292, 1, none⟩) (Kd.R_far (p := ⟨gb292, 0, none⟩) (Kd.R_types (Kd.R_types HO283.out BK292.out (by decide)) BK293.out (by decide)) (fun _ hk => hk.1.2) (.slice Ao12 t278.length co12)) (fun _ hk => hk.1.2) (.slice Ao15 t281.length co15)) (fun _ hk => hk.1.2) (.slice Ao16 t284.length co16)) (fun _ hk => hk.2) (.int .i64 t287)) (fun _ hk => hk.2) (.int .i64 t288)) (fun _ h_ => h_.1)) (fun _ h_ => h_.1)))); (case side4 => exact (Kd.R_reads' HO283.out).2.1); (case side5 => refine (Kd.R_reads' (e := 3) (base := w.heap.size) (ok := fun k_ => (some k_ ≠ (.slice Ao12 t278.length co12 : Value).ownBlock ∧ some k_ ≠ (.slice Ao15 t281.length co15 : Value).ownBlock)) (n := t284.length) (c := co16) ?_).2.2; exact (by (with_reducible repeat (first | apply Kd.R_alloc | apply Kd.R_drewN | apply Kd.R_drew)); exact (Kd.R_mono (Kd.R_mono (Kd.R_far (p := ⟨gb293, 1, none⟩) (Kd.R_far (p := ⟨gb293, 0, none⟩) (Kd.R_far (p := ⟨gb292, 2, none⟩) (Kd.R_far (p := ⟨gb292, 1, none⟩) (Kd.R_far (p := ⟨gb292, 0, none⟩) (Kd.R_types (Kd.R_types HO286.out BK292.out (by decide)) BK293.out (by decide)) (fun _ hk => hk.1.2) (.slice Ao12 t278.length co12)) (fun _ hk => hk.1.2) (.slice Ao15 t281.length co15)) (fun _ hk => hk.1.2) (.slice Ao16 t284.length co16)) (fun _ hk => hk.2) (.int .i64 t287)) (fun _ hk => hk.2) (.int .i64 t288)) (fun _ h_ => h_.1)) (fun _ h_ => h_.1)))); (case side6 => exact (Kd.R_reads' HO286.out).2.1); (case side7 => refine (Kd.R_reads' (e := 60) (base := w.heap.size) (ok := fun k_ => True) (n := t289.length) (c := co18) ?_).2.2; exact (by (with_reducible repeat (first | apply Kd.R_alloc | apply Kd.R_drewN | apply Kd.R_drew)); exact (Kd.R_mono (Kd.R_mono (Kd.R_far (p := ⟨gb293, 1, none⟩) (Kd.R_far (p := ⟨gb293, 0, none⟩) (Kd.R_far (p := ⟨gb292, 2, none⟩) (Kd.R_far (p := ⟨gb292, 1, none⟩) (Kd.R_far (p := ⟨gb292, 0, none⟩) (Kd.R_types (Kd.R_types HO291.out BK292.out (by decide)) BK293.out (by decide)) (fun _ hk => hk.1.2) (.slice Ao12 t278.length co12)) (fun _ hk => hk.1.2) (.slice Ao15 t281.length co15)) (fun _ hk => hk.1.2) (.slice Ao16 t284.length co16)) (fun _ hk => hk.2) (.int .i64 t287)) (fun _ hk => hk.2) (.int .i64 t288)) (fun _ h_ => h_.1)) (fun _ h_ => h_.1)))); (case side8 => exact (Kd.R_reads' HO291.out).2.1); rintro e w19 ⟨v296, rfl, ho0, hb⟩; refine ⟨_, rfl, ?_⟩; have n0_ := Aside0.mk (Kd.R_below (by (with_reducible repeat (first | apply Kd.R_alloc | apply Kd.R_drewN | apply Kd.R_drew)); exact (Kd.R_mono (Kd.R_mono (Kd.R_far (p := ⟨gb293, 1, none⟩) (Kd.R_far (p := ⟨gb293, 0, none⟩) (Kd.R_far (p := ⟨gb292, 2, none⟩) (Kd.R_far (p := ⟨gb292, 1, none⟩) (Kd.R_far (p := ⟨gb292, 0, none⟩) (Kd.R_types (Kd.R_types HO280.out BK292.out (by decide)) BK293.out (by decide)) (fun _ hk => hk.1.2) (.slice Ao12 t278.length co12)) (fun _ hk => hk.1.2) (.slice Ao15 t281.length co15)) (fun _ hk => hk.1.2) (.slice Ao16 t284.length co16)) (fun _ hk => hk.2) (.int .i64 t287)) (fun _ hk => hk.2) (.int .i64 t288)) (fun _ h_ => h_.1)) (fun _ h_ => h_.1))) hb); have n1_ := Aside0.mk (Kd.R_below (by (with_reducible repeat (first | apply Kd.R_alloc | apply Kd.R_drewN | apply Kd.R_drew)); exact (Kd.R_mono (Kd.R_mono (Kd.R_far (p := ⟨gb293, 1, none⟩) (Kd.R_far (p := ⟨gb293, 0, none⟩) (Kd.R_far (p := ⟨gb292, 2, none⟩) (Kd.R_far (p := ⟨gb292, 1, none⟩) (Kd.R_far (p := ⟨gb292, 0, none⟩) (Kd.R_types (Kd.R_types HO283.out BK292.out (by decide)) BK293.out (by decide)) (fun _ hk => hk.1.2) (.slice Ao12 t278.length co12)) (fun _ hk => hk.1.2) (.slice Ao15 t281.length co15)) (fun _ hk => hk.1.2) (.slice Ao16 t284.length co16)) (fun _ hk => hk.2) (.int .i64 t287)) (fun _ hk => hk.2) (.int .i64 t288)) (fun _ h_ => h_.1)) (fun _ h_ => h_.1))) hb); have n2_ := Aside0.mk (Kd.R_below (by (with_reducible repeat (first | apply Kd.R_alloc | apply Kd.R_drewN | apply Kd.R_drew)); exact (Kd.R_mono (Kd.R_mono (Kd.R_far (p := ⟨gb293, 1, none⟩) (Kd.R_far (p := ⟨gb293, 0, none⟩) (Kd.R_far (p := ⟨gb292, 2, none⟩) (Kd.R_far (p := ⟨gb292, 1, none⟩) (Kd.R_far (p := ⟨gb292, 0, none⟩) (Kd.R_types (Kd.R_types HO286.out BK292.out (by decide)) BK293.out (by decide)) (fun _ hk => hk.1.2) (.slice Ao12 t278.length co12)) (fun _ hk => hk.1.2) (.slice Ao15 t281.length co15)) (fun _ hk => hk.1.2) (.slice Ao16 t284.length co16)) (fun _ hk => hk.2) (.int .i64 t287)) (fun _ hk => hk.2) (.int .i64 t288)) (fun _ h_ => h_.1)) (fun _ h_ => h_.1))) hb); have n3_ := Aside0.mk (Kd.R_below (by (with_reducible repeat (first | apply Kd.R_alloc | apply Kd.R_drewN | apply Kd.R_drew)); exact (Kd.R_mono (Kd.R_mono (Kd.R_far (p := ⟨gb293, 1, none⟩) (Kd.R_far (p := ⟨gb293, 0, none⟩) (Kd.R_far (p := ⟨gb292, 2, none⟩) (Kd.R_far (p := ⟨gb292, 1, none⟩) (Kd.R_far (p := ⟨gb292, 0, none⟩) (Kd.R_types (Kd.R_types HO291.out BK292.out (by decide)) BK293.out (by decide)) (fun _ hk => hk.1.2) (.slice Ao12 t278.length co12)) (fun _ hk => hk.1.2) (.slice Ao15 t281.length co15)) (fun _ hk => hk.1.2) (.slice Ao16 t284.length co16)) (fun _ hk => hk.2) (.int .i64 t287)) (fun _ hk => hk.2) (.int .i64 t288)) (fun _ h_ => h_.1)) (fun _ h_ => h_.1))) hb); have n4_ := Aside0.mk (Kd.R_lower ho0 (below_size (by repeat (first | (with_reducible first | exact HB.out | apply below_alloc | apply pw_below_drewN | apply below_drew1 | refine below_set ?_ GE292.out | refine below_set ?_ GE293.out) | exact HB.out)))); have n5_ := Aside0.mk (blk_below (g := gb292) (o := .cells #[.slice Ao12 t278.length co12, .slice Ao15 t281.length co15, .slice Ao16 t284.length co16] 33 (0, 0)) (by (with_reducible repeat (first | refine blk_drewN ?_ _ | refine blk_drew ?_ | refine blk_alloc ?_ _)); refine blk_far ?_ NB292_293.out _; (with_reducible repeat (first | refine blk_drewN ?_ _ | refine blk_drew ?_ | refine blk_alloc ?_ _)); refine blk_far ?_ NB292_293.out _; (with_reducible repeat (first | refine blk_drewN ?_ _ | refine blk_drew ?_ | refine blk_alloc ?_ _)); refine blk_put (cs := #[.slice Ao12 t278.length co12, .slice Ao15 t281.length co15, .slice none 0 0]) ?_ 2 _ rfl; (with_reducible repeat (first | refine blk_drewN ?_ _ | refine blk_drew ?_ | refine blk_alloc ?_ _)); refine blk_put (cs := #[.slice Ao12 t278.length co12, .slice none 0 0, .slice none 0 0]) ?_ 1 _ rfl; (with_reducible repeat (first | refine blk_drewN ?_ _ | refine blk_drew ?_ | refine blk_alloc ?_ _)); refine blk_put (cs := #[.slice none 0 0, .slice none 0 0, .slice none 0 0]) ?_ 0 _ rfl; (with_reducible repeat (first | refine blk_drewN ?_ _ | refine blk_drew ?_ | refine blk_alloc ?_ _)); exact BK292.out) hb); have n6_ := Aside0.mk (blk_below (g := gb293) (o := .cells #[.int .i64 t287, .int .i64 t288] 35 (0, 0)) (by (with_reducible repeat (first | refine blk_drewN ?_ _ | refine blk_drew ?_ | refine blk_alloc ?_ _)); refine blk_put (cs := #[.int .i64 t287, .int .i64 0]) ?_ 1 _ rfl; (with_reducible repeat (first | refine blk_drewN ?_ _ | refine blk_drew ?_ | refine blk_alloc ?_ _)); refine blk_put (cs := #[.int .i64 0, .int .i64 0]) ?_ 0 _ rfl; (with_reducible repeat (first | refine blk_drewN ?_ _ | refine blk_drew ?_ | refine blk_alloc ?_ _)); refine blk_far ?_ NB293_292.out _; (with_reducible repeat (first | refine blk_drewN ?_ _ | refine blk_drew ?_ | refine blk_alloc ?_ _)); refine blk_far ?_ NB293_292.out _; (with_reducible repeat (first | refine blk_drewN ?_ _ | refine blk_drew ?_ | refine blk_alloc ?_ _)); refine blk_far ?_ NB293_292.out _; (with_reducible repeat (first | refine blk_drewN ?_ _ | refine blk_drew ?_ | refine blk_alloc ?_ _)); exact BK293.out) hb); have n7_ := Aside0.mk (below_step (by repeat (first | (with_reducible first | exact HB.out | apply below_alloc | apply pw_below_drewN | apply below_drew1 | refine below_set ?_ GE292.out | refine below_set ?_ GE293.out) | exact HB.out)) hb); clear HO280; clear HO283; clear HO286; clear HO291; clear BK292; clear BK293; clear HB; have HO280 := n0_; have HO283 := n1_; have HO286 := n2_; have HO291 := n3_; have HO297 := n4_; have BK292 := n5_; have BK293 := n6_; have HB := n7_; clear n0_ n1_ n2_ n3_ n4_ n5_ n6_ n7_; (try clear hb); (try clear hb2); (try clear hk); (try clear hi); (try clear ho0); obtain ⟨Ao20, co20, eo20⟩ := Kd.R_slice HO297.out; subst eo20) | ((with_reducible refine gate_callee (f := 26) rfl ?_); refine goesL_ (some 41) rfl rfl Try.func26 (by kernel_rfl) rfl #[.slice Ao18 t289.length co18, .slice Ao20 t295.length co20] rfl (by (try simp only [List.map_toArray, List.map_cons, List.map_nil]); first | done | rfl | (simp only [List.length_drop, List.length_take]; rfl)) ?_; (with_reducible refine (impl_Burnt.calls k _ _ t289 _ _ t295 t299 t300 _ ?side1 ?side2 ?side3 ?side4 A7.out).mono ?_); (case side1 => repeat (first | exact (Kd.R_reads' HO291.out).2.2 | (with_reducible refine Kd.C_alloc ?_ _) | (with_reducible refine Kd.C_drewN ?_ _) | (with_reducible refine Kd.C_drew ?_))); (case side2 => exact (Kd.R_reads' HO291.out).2.1); (case side3 => repeat (first | exact (Kd.R_reads' HO297.out).2.2 | (with_reducible refine Kd.C_alloc ?_ _) | (with_reducible refine Kd.C_drewN ?_ _) | (with_reducible refine Kd.C_drew ?_))); (case side4 => exact (Kd.R_reads' HO297.out).2.1); rintro e w21 ⟨v301, rfl, ho0, hb⟩; refine ⟨_, rfl, ?_⟩; have n0_ := Aside0.mk (Kd.R_below (by exact HO280.out) hb); have n1_ := Aside0.mk (Kd.R_below (by exact HO283.out) hb); have n2_ := Aside0.mk (Kd.R_below (by exact HO286.out) hb); have n3_ := Aside0.mk (Kd.R_elder' (by exact HO291.out) (Kd.R_base ho0) hb); have n4_ := Aside0.mk (Kd.R_below (by exact HO297.out) hb); have n5_ := Aside0.mk (Kd.R_lower (Kd.R_new' ho0 (Kd.R_lt (by exact HO291.out))) (below_size (by exact HB.out))); have n6_ := Aside0.mk (blk_below (g := gb292) (o := .cells #[.slice Ao12 t278.length co12, .slice Ao15 t281.length co15, .slice Ao16 t284.length co16] 33 (0, 0)) (by exact BK292.out) hb); have n7_ := Aside0.mk (blk_below (g := gb293) (o := .cells #[.int .i64 t287, .int .i64 t288] 35 (0, 0)) (by exact BK293.out) hb); have n8_ := Aside0.mk (below_step (by exact HB.out) hb); clear HO280; clear HO283; clear HO286; clear HO291; clear HO297; clear BK292; clear BK293; clear HB; have HO280 := n0_; have HO283 := n1_; have HO286 := n2_; have HO291 := n3_; have HO297 := n4_; have HO302 := n5_; have BK292 := n6_; have BK293 := n7_; have HB := n8_; clear n0_ n1_ n2_ n3_ n4_ n5_ n6_ n7_ n8_; (try clear hb); (try clear hb2); (try clear hk); (try clear hi); (try clear ho0)))
  (try simp only [Act.put, qa_, qb_, qc_])
  go_cut [52] (fun v52 wc => ∃ (kq : Nat) (x52_7 : Bool), v52 = .bool x52_7 ∧ Aside0 (laws_FnBurnt.j0 kq t289 (wrap64 (5 + (Int.tmod t294 40))) t295 t298 t299 x52_7 t278 t281 t284 t287 t288 = some r) ∧ Aside0 (kq ≤ k) ∧ Aside0 (Kd.R k60 60 wc w.heap.size (fun k_ => some k_ ≠ (v301 : Value).ownBlock) (.slice Ao18 t289.length co18) t289) ∧ Aside0 (Kd.R k62 62 wc w.heap.size (fun _ => True) (.slice Ao20 t295.length co20) t295) ∧ Aside0 (Kd.R k60 60 wc w.heap.size (fun k_ => some k_ ≠ ((.slice Ao18 t289.length co18) : Value).ownBlock) v301 t299) ∧ Aside0 (Kd.R (Kd.int .i64) 3 wc w.heap.size (fun k_ => some k_ ≠ ((.slice Ao15 t281.length co15) : Value).ownBlock ∧ some k_ ≠ ((.slice Ao16 t284.length co16) : Value).ownBlock) (.slice Ao12 t278.length co12) t278) ∧ Aside0 (Kd.R (Kd.int .i64) 3 wc w.heap.size (fun k_ => some k_ ≠ ((.slice Ao12 t278.length co12) : Value).ownBlock ∧ some k_ ≠ ((.slice Ao16 t284.length co16) : Value).ownBlock) (.slice Ao15 t281.length co15) t281) ∧ Aside0 (Kd.R (Kd.int .i64) 3 wc w.heap.size (fun k_ => some k_ ≠ ((.slice Ao12 t278.length co12) : Value).ownBlock ∧ some k_ ≠ ((.slice Ao15 t281.length co15) : Value).ownBlock) (.slice Ao16 t284.length co16) t284) ∧ Aside0 (wc.heap[gb292]? = some (.cells #[(.slice Ao12 t278.length co12), (.slice Ao15 t281.length co15), (.slice Ao16 t284.length co16)] 33 (0, 0))) ∧ Aside0 (wc.heap[gb293]? = some (.cells #[.int .i64 t287, .int .i64 t288] 35 (0, 0))) ∧ Aside0 (Below w.heap.size w wc))
  case first =>
   have H := HC8.out
   clear HC8
   by_cases c22 : t300 = (-1)
   ·rw [if_pos c22] at H
    have c22b0 : (t300 == (-1)) = true := beq_iff_eq.mpr c22
    have c22b1 : (t300 != (-1)) = false := bne_eq_false_iff_eq.mpr c22
    clear c22
    (first | rw [c22b0] | (simp only [i64_w, i32_w]; rw [c22b0]) | skip)
    have H' := Aside0.mk H
    clear H
    obtain ⟨Ao23, co23, eo23⟩ := Kd.R_slice HO302.out
    subst eo23
    go_wp2
    go_meet
    case rel => exact ⟨_, (((t299.length : Int) != (t289.length : Int))), (by first | rfl | (simp; done) | (simp [*]; done)), H', ⟨by first | omega | exact Nat.le_refl _⟩, ⟨by (with_reducible repeat (first | apply Kd.R_alloc | apply Kd.R_drewN | apply Kd.R_drew)); exact Kd.R_mono HO291.out (fun _ hk => hk.2)⟩, ⟨by (with_reducible repeat (first | apply Kd.R_alloc | apply Kd.R_drewN | apply Kd.R_drew)); exact HO297.out⟩, ⟨by (with_reducible repeat (first | apply Kd.R_alloc | apply Kd.R_drewN | apply Kd.R_drew)); exact Kd.R_mono HO302.out (fun _ hk => hk.2)⟩, ⟨by (with_reducible repeat (first | apply Kd.R_alloc | apply Kd.R_drewN | apply Kd.R_drew)); exact HO280.out⟩, ⟨by (with_reducible repeat (first | apply Kd.R_alloc | apply Kd.R_drewN | apply Kd.R_drew)); exact HO283.out⟩, ⟨by (with_reducible repeat (first | apply Kd.R_alloc | apply Kd.R_drewN | apply Kd.R_drew)); exact HO286.out⟩, ⟨by (with_reducible repeat (first | refine blk_drewN ?_ _ | refine blk_drew ?_ | refine blk_alloc ?_ _)); exact BK292.out⟩, ⟨by (with_reducible repeat (first | refine blk_drewN ?_ _ | refine blk_drew ?_ | refine blk_alloc ?_ _)); exact BK293.out⟩, ⟨by repeat (first | (with_reducible first | exact HB.out | apply below_alloc | apply pw_below_drewN | apply below_drew1) | exact HB.out)⟩⟩
   ·rw [if_neg c22] at H
    have c22b0 : (t300 == (-1)) = false := beq_eq_false_iff_ne.mpr c22
    have c22b1 : (t300 != (-1)) = true := bne_iff_ne.mpr c22
    (first | rw [c22b0] | (simp only [i64_w, i32_w]; rw [c22b0]) | skip)
    have H' := Aside0.mk H
    clear H
    go_wp2
    go_meet
    case rel => exact ⟨_, (true), (by first | rfl | (simp; done) | (simp [*]; done)), H', ⟨by first | omega | exact Nat.le_refl _⟩, ⟨by (with_reducible repeat (first | apply Kd.R_alloc | apply Kd.R_drewN | apply Kd.R_drew)); exact Kd.R_mono HO291.out (fun _ hk => hk.2)⟩, ⟨by (with_reducible repeat (first | apply Kd.R_alloc | apply Kd.R_drewN | apply Kd.R_drew)); exact HO297.out⟩, ⟨by (with_reducible repeat (first | apply Kd.R_alloc | apply Kd.R_drewN | apply Kd.R_drew)); exact Kd.R_mono HO302.out (fun _ hk => hk.2)⟩, ⟨by (with_reducible repeat (first | apply Kd.R_alloc | apply Kd.R_drewN | apply Kd.R_drew)); exact HO280.out⟩, ⟨by (with_reducible repeat (first | apply Kd.R_alloc | apply Kd.R_drewN | apply Kd.R_drew)); exact HO283.out⟩, ⟨by (with_reducible repeat (first | apply Kd.R_alloc | apply Kd.R_drewN | apply Kd.R_drew)); exact HO286.out⟩, ⟨by (with_reducible repeat (first | refine blk_drewN ?_ _ | refine blk_drew ?_ | refine blk_alloc ?_ _)); exact BK292.out⟩, ⟨by (with_reducible repeat (first | refine blk_drewN ?_ _ | refine blk_drew ?_ | refine blk_alloc ?_ _)); exact BK293.out⟩, ⟨by repeat (first | (with_reducible first | exact HB.out | apply below_alloc | apply pw_below_drewN | apply below_drew1) | exact HB.out)⟩⟩
  case rest =>
   clear HC8
   try clear c1
   try clear c2
   try clear p2
   try clear c3
   try clear c6
   try clear p6
   try clear c13
   try clear c20
   try clear c22
   try clear c22b0
   try clear c22b1
   try clear hcz14_0
   try clear hcz14_1
   try clear hcz14_2
   try clear hcz17_0
   try clear hcz17_1
   try clear hfz14_0
   try clear hfz14_1
   try clear hfz14_2
   try clear hfz17_0
   try clear hfz17_1
   obtain ⟨kq, x52_7, rfl, HA, HJ7, HO_5, HO_7, HO_9, HO_293000, HO_293001, HO_293002, BK292, BK293, HB⟩ := hcut
   cases kq with
   | zero => exact absurd HA.out (by simp [laws_FnBurnt.j0])
   | succ kj7 =>
    have H := HA.out
    clear HA
    simp only [laws_FnBurnt.j0] at H
    by_cases c24 : x52_7 = true
    ·subst c24
     have H1 : (some false) = some r := by rw [if_pos rfl] at H; exact H
     clear H
     have H := H1
     clear H1
     obtain rfl := Option.some.inj H
     go_wp2
     go_ret
     exact ⟨by first | rfl | (simp [errW_none, errW_some] <;> rfl) | (simp [*, errW_none, errW_some] <;> rfl), by repeat (first | (with_reducible first | exact HB.out | apply below_alloc | apply pw_below_drewN | apply below_drew1) | exact HB.out)⟩
    ·replace c24 := Bool.eq_false_iff.mpr c24
     subst c24
     have H1 : (laws_FnBurnt.l0 kj7 t289 (wrap64 (5 + (Int.tmod t294 40))) t295 t298 t299 0 0 0 0 t278 t281 t284 t287 t288) = some r := by rw [if_neg (show ¬ (false = true) by decide)] at H; exact H
     clear H
     have H := H1
     clear H1
     have H' := Aside0.mk H
     clear H
     go_wp2
     go_loopg [11, 12, 14] kj7 (fun kq v11 v12 v14 w' => ∃ (x11_2 : Int) (x12_2 : Int) (x14_2 : Int), v11 = .int .i64 x11_2 ∧ v12 = .int .i64 x12_2 ∧ v14 = .int .i64 x14_2 ∧ Aside0 (laws_FnBurnt.l0 kq t289 (wrap64 (5 + (Int.tmod t294 40))) t295 t298 t299 x11_2 x12_2 0 x14_2 t278 t281 t284 t287 t288 = some r) ∧ Aside0 (kq ≤ kj7) ∧ Aside0 (Kd.R k60 60 w' w.heap.size (fun k_ => some k_ ≠ (v301 : Value).ownBlock) (.slice Ao18 t289.length co18) t289) ∧ Aside0 (Kd.R k62 62 w' w.heap.size (fun _ => True) (.slice Ao20 t295.length co20) t295) ∧ Aside0 (Kd.R k60 60 w' w.heap.size (fun k_ => some k_ ≠ ((.slice Ao18 t289.length co18) : Value).ownBlock) v301 t299) ∧ Aside0 (Kd.R (Kd.int .i64) 3 w' w.heap.size (fun k_ => some k_ ≠ ((.slice Ao15 t281.length co15) : Value).ownBlock ∧ some k_ ≠ ((.slice Ao16 t284.length co16) : Value).ownBlock) (.slice Ao12 t278.length co12) t278) ∧ Aside0 (Kd.R (Kd.int .i64) 3 w' w.heap.size (fun k_ => some k_ ≠ ((.slice Ao12 t278.length co12) : Value).ownBlock ∧ some k_ ≠ ((.slice Ao16 t284.length co16) : Value).ownBlock) (.slice Ao15 t281.length co15) t281) ∧ Aside0 (Kd.R (Kd.int .i64) 3 w' w.heap.size (fun k_ => some k_ ≠ ((.slice Ao12 t278.length co12) : Value).ownBlock ∧ some k_ ≠ ((.slice Ao15 t281.length co15) : Value).ownBlock) (.slice Ao16 t284.length co16) t284) ∧ Aside0 (w'.heap[gb292]? = some (.cells #[(.slice Ao12 t278.length co12), (.slice Ao15 t281.length co15), (.slice Ao16 t284.length co16)] 33 (0, 0))) ∧ Aside0 (w'.heap[gb293]? = some (.cells #[.int .i64 t287, .int .i64 t288] 35 (0, 0))) ∧ Aside0 (Below w.heap.size w w'))
     case atStart => exact ⟨(0), (0), (0), (by first | rfl | (simp; done) | (simp [*]; done)), (by first | rfl | (simp; done) | (simp [*]; done)), (by first | rfl | (simp; done) | (simp [*]; done)), H', ⟨Nat.le_refl _⟩, ⟨by (with_reducible repeat (first | apply Kd.R_alloc | apply Kd.R_drewN | apply Kd.R_drew)); exact HO_5.out⟩, ⟨by (with_reducible repeat (first | apply Kd.R_alloc | apply Kd.R_drewN | apply Kd.R_drew)); exact HO_7.out⟩, ⟨by (with_reducible repeat (first | apply Kd.R_alloc | apply Kd.R_drewN | apply Kd.R_drew)); exact HO_9.out⟩, ⟨by (with_reducible repeat (first | apply Kd.R_alloc | apply Kd.R_drewN | apply Kd.R_drew)); exact HO_293000.out⟩, ⟨by (with_reducible repeat (first | apply Kd.R_alloc | apply Kd.R_drewN | apply Kd.R_drew)); exact HO_293001.out⟩, ⟨by (with_reducible repeat (first | apply Kd.R_alloc | apply Kd.R_drewN | apply Kd.R_drew)); exact HO_293002.out⟩, ⟨by (with_reducible repeat (first | refine blk_drewN ?_ _ | refine blk_drew ?_ | refine blk_alloc ?_ _)); exact BK292.out⟩, ⟨by (with_reducible repeat (first | refine blk_drewN ?_ _ | refine blk_drew ?_ | refine blk_alloc ?_ _)); exact BK293.out⟩, ⟨by repeat (first | (with_reducible first | exact HB.out | apply below_alloc | apply pw_below_drewN | apply below_drew1) | exact HB.out)⟩⟩
     case round =>
      clear H'
      try clear c1
      try clear c2
      try clear p2
      try clear c3
      try clear c6
      try clear p6
      try clear c13
      try clear c20
      try clear c22
      try clear c22b0
      try clear c22b1
      try clear c24
      try clear hcz14_0
      try clear hcz14_1
      try clear hcz14_2
      try clear hcz17_0
      try clear hcz17_1
      try clear hfz14_0
      try clear hfz14_1
      try clear hfz14_2
      try clear hfz17_0
      try clear hfz17_1
      try clear p2
      try clear p6
      obtain ⟨x11_2, x12_2, x14_2, rfl, rfl, rfl, HA, HK2, HO_5, HO_7, HO_9, HO_293000, HO_293001, HO_293002, BK292, BK293, HB⟩ := hrel
      cases gk with
      | zero => exact absurd HA.out (by simp [laws_FnBurnt.l0])
      | succ k2 =>
       have H := HA.out
       clear HA
       simp only [laws_FnBurnt.l0] at H
       by_cases c25 : x14_2 < (t289.length : Int)
       ·rw [if_pos c25] at H
        have c25b0 : decide (x14_2 < (t289.length : Int)) = true := decide_eq_true c25
        clear c25
        by_cases c26 : 0 ≤ x14_2
        ·rw [if_pos c26] at H
         have c26b0 : decide (0 ≤ x14_2) = true := decide_eq_true c26
         clear c26
         by_cases c27 : x14_2 < (t299.length : Int)
         ·rw [if_pos c27] at H
          have c27b0 : decide (x14_2 < (t299.length : Int)) = true := decide_eq_true c27
          clear c27
          have H' := Aside0.mk H
          clear H
          have p303 : 0 ≤ (x14_2 : Int) := of_decide_eq_true (by first | (with_reducible assumption) | assumption)
          have q303 : x14_2 < (t289.length : Int) := of_decide_eq_true (by first | (with_reducible assumption) | assumption)
          obtain ⟨ad303, e303, hx303_0, hx303_1⟩ := at_T60 (Kd.R_reads' HO_5.out).2.2 x14_2 p303 q303
          cases e303
          replace p303 := eq_true p303
          replace q303 := eq_true q303
          obtain ⟨Ao28, co28, eo28⟩ := Kd.R_slice HO_9.out
          subst eo28
          have p304 : 0 ≤ (x14_2 : Int) := of_decide_eq_true (by first | (with_reducible assumption) | assumption)
          have q304 : x14_2 < (t299.length : Int) := of_decide_eq_true (by first | (with_reducible assumption) | assumption)
          obtain ⟨ad304, e304, hx304_0, hx304_1⟩ := at_T60 (Kd.R_reads' HO_9.out).2.2 x14_2 p304 q304
          cases e304
          replace p304 := eq_true p304
          replace q304 := eq_true q304
          go_wp2
          go_roundg k2
          case measure => have := HJ7.out; have := HK2.out; omega
          case rel => exact ⟨(wrap64 (x11_2 + ((rd_T60 t289 x14_2).f0))), (wrap64 (x12_2 + ((rd_T60 t299 x14_2).f0))), (wrap64 (x14_2 + 1)), (by first | rfl | (simp; done) | (simp [*]; done)), (by first | rfl | (simp; done) | (simp [*]; done)), (by first | rfl | (simp; done) | (simp [*]; done)), H', ⟨by have := HJ7.out; have := HK2.out; omega⟩, ⟨by (with_reducible repeat (first | apply Kd.R_alloc | apply Kd.R_drewN | apply Kd.R_drew)); exact HO_5.out⟩, ⟨by (with_reducible repeat (first | apply Kd.R_alloc | apply Kd.R_drewN | apply Kd.R_drew)); exact HO_7.out⟩, ⟨by (with_reducible repeat (first | apply Kd.R_alloc | apply Kd.R_drewN | apply Kd.R_drew)); exact HO_9.out⟩, ⟨by (with_reducible repeat (first | apply Kd.R_alloc | apply Kd.R_drewN | apply Kd.R_drew)); exact HO_293000.out⟩, ⟨by (with_reducible repeat (first | apply Kd.R_alloc | apply Kd.R_drewN | apply Kd.R_drew)); exact HO_293001.out⟩, ⟨by (with_reducible repeat (first | apply Kd.R_alloc | apply Kd.R_drewN | apply Kd.R_drew)); exact HO_293002.out⟩, ⟨by (with_reducible repeat (first | refine blk_drewN ?_ _ | refine blk_drew ?_ | refine blk_alloc ?_ _)); exact BK292.out⟩, ⟨by (with_reducible repeat (first | refine blk_drewN ?_ _ | refine blk_drew ?_ | refine blk_alloc ?_ _)); exact BK293.out⟩, ⟨by repeat (first | (with_reducible first | exact HB.out | apply below_alloc | apply pw_below_drewN | apply below_drew1) | exact HB.out)⟩⟩
         ·rw [if_neg c27] at H
          exact absurd H (by simp)
        ·rw [if_neg c26] at H
         exact absurd H (by simp)
       ·rw [if_neg c25] at H
        have c25b0 : decide (x14_2 < (t289.length : Int)) = false := decide_eq_false c25
        clear c25
        have H' := Aside0.mk H
        clear H
        go_wp2
        go_loopg [13, 15] k2 (fun kq v13 v15 w' => ∃ (x13_3 : Int) (x15_3 : Int), v13 = .int .i64 x13_3 ∧ v15 = .int .i64 x15_3 ∧ Aside0 (laws_FnBurnt.l1 kq t289 (wrap64 (5 + (Int.tmod t294 40))) t295 t298 x11_2 x12_2 x13_3 x15_3 t278 t281 t284 t287 t288 = some r) ∧ Aside0 (kq ≤ k2) ∧ Aside0 (Kd.R k60 60 w' w.heap.size (fun _ => True) (.slice Ao18 t289.length co18) t289) ∧ Aside0 (Kd.R k62 62 w' w.heap.size (fun _ => True) (.slice Ao20 t295.length co20) t295) ∧ Aside0 (Kd.R (Kd.int .i64) 3 w' w.heap.size (fun k_ => some k_ ≠ ((.slice Ao15 t281.length co15) : Value).ownBlock ∧ some k_ ≠ ((.slice Ao16 t284.length co16) : Value).ownBlock) (.slice Ao12 t278.length co12) t278) ∧ Aside0 (Kd.R (Kd.int .i64) 3 w' w.heap.size (fun k_ => some k_ ≠ ((.slice Ao12 t278.length co12) : Value).ownBlock ∧ some k_ ≠ ((.slice Ao16 t284.length co16) : Value).ownBlock) (.slice Ao15 t281.length co15) t281) ∧ Aside0 (Kd.R (Kd.int .i64) 3 w' w.heap.size (fun k_ => some k_ ≠ ((.slice Ao12 t278.length co12) : Value).ownBlock ∧ some k_ ≠ ((.slice Ao15 t281.length co15) : Value).ownBlock) (.slice Ao16 t284.length co16) t284) ∧ Aside0 (w'.heap[gb292]? = some (.cells #[(.slice Ao12 t278.length co12), (.slice Ao15 t281.length co15), (.slice Ao16 t284.length co16)] 33 (0, 0))) ∧ Aside0 (w'.heap[gb293]? = some (.cells #[.int .i64 t287, .int .i64 t288] 35 (0, 0))) ∧ Aside0 (Below w.heap.size w w'))
        case atStart => exact ⟨(0), (0), (by first | rfl | (simp; done) | (simp [*]; done)), (by first | rfl | (simp; done) | (simp [*]; done)), H', ⟨Nat.le_refl _⟩, ⟨by (with_reducible repeat (first | apply Kd.R_alloc | apply Kd.R_drewN | apply Kd.R_drew)); exact Kd.R_mono HO_5.out (fun _ hk => trivial)⟩, ⟨by (with_reducible repeat (first | apply Kd.R_alloc | apply Kd.R_drewN | apply Kd.R_drew)); exact HO_7.out⟩, ⟨by (with_reducible repeat (first | apply Kd.R_alloc | apply Kd.R_drewN | apply Kd.R_drew)); exact HO_293000.out⟩, ⟨by (with_reducible repeat (first | apply Kd.R_alloc | apply Kd.R_drewN | apply Kd.R_drew)); exact HO_293001.out⟩, ⟨by (with_reducible repeat (first | apply Kd.R_alloc | apply Kd.R_drewN | apply Kd.R_drew)); exact HO_293002.out⟩, ⟨by (with_reducible repeat (first | refine blk_drewN ?_ _ | refine blk_drew ?_ | refine blk_alloc ?_ _)); exact BK292.out⟩, ⟨by (with_reducible repeat (first | refine blk_drewN ?_ _ | refine blk_drew ?_ | refine blk_alloc ?_ _)); exact BK293.out⟩, ⟨by repeat (first | (with_reducible first | exact HB.out | apply below_alloc | apply pw_below_drewN | apply below_drew1) | exact HB.out)⟩⟩
        case round =>
         clear H'
         try clear c1
         try clear c2
         try clear p2
         try clear c3
         try clear p3
         try clear q3
         try clear hx3
         try clear c6
         try clear p6
         try clear c13
         try clear c20
         try clear c22
         try clear c22b0
         try clear c22b1
         try clear c24
         try clear c25
         try clear c25b0
         try clear c26
         try clear c26b0
         try clear c27
         try clear c27b0
         try clear c28
         try clear hcz14_0
         try clear hcz14_1
         try clear hcz14_2
         try clear hcz17_0
         try clear hcz17_1
         try clear hfz14_0
         try clear hfz14_1
         try clear hfz14_2
         try clear hfz17_0
         try clear hfz17_1
         try clear hx303_0
         try clear hx303_1
         try clear hx304_0
         try clear hx304_1
         try clear p2
         try clear p303
         try clear p304
         try clear p6
         try clear q303
         try clear q304
         obtain ⟨x13_3, x15_3, rfl, rfl, HA, HK3, HO_5, HO_7, HO_293000, HO_293001, HO_293002, BK292, BK293, HB⟩ := hrel
         cases gk with
         | zero => exact absurd HA.out (by simp [laws_FnBurnt.l1])
         | succ k3 =>
          have H := HA.out
          clear HA
          simp only [laws_FnBurnt.l1] at H
          by_cases c29 : x15_3 < (t295.length : Int)
          ·rw [if_pos c29] at H
           have c29b0 : decide (x15_3 < (t295.length : Int)) = true := decide_eq_true c29
           clear c29
           by_cases c30 : 0 ≤ x15_3
           ·rw [if_pos c30] at H
            have c30b0 : decide (0 ≤ x15_3) = true := decide_eq_true c30
            clear c30
            by_cases c31 : ((rd_T62 t295 x15_3).f1) > (wrap64 (5 + (Int.tmod t294 40)))
            ·rw [if_pos c31] at H
             have c31b0 : decide ((wrap64 (5 + (Int.tmod t294 40))) < ((rd_T62 t295 x15_3).f1)) = true := decide_eq_true c31
             clear c31
             obtain rfl := Option.some.inj H
             have p305 : 0 ≤ (x15_3 : Int) := of_decide_eq_true (by first | (with_reducible assumption) | assumption)
             have q305 : x15_3 < (t295.length : Int) := of_decide_eq_true (by first | (with_reducible assumption) | assumption)
             obtain ⟨ad305, e305, hx305_0, hx305_1⟩ := at_T62 (Kd.R_reads' HO_7.out).2.2 x15_3 p305 q305
             cases e305
             replace p305 := eq_true p305
             replace q305 := eq_true q305
             have p306 : 0 ≤ (x15_3 : Int) := of_decide_eq_true (by first | (with_reducible assumption) | assumption)
             have q306 : x15_3 < (t295.length : Int) := of_decide_eq_true (by first | (with_reducible assumption) | assumption)
             obtain ⟨ad306, e306, hx306_0, hx306_1⟩ := at_T62 (Kd.R_reads' HO_7.out).2.2 x15_3 p306 q306
             obtain rfl : ad305 = ad306 := (by injection e306)
             replace p306 := eq_true p306
             replace q306 := eq_true q306
             go_wp2
             go_ret
             exact ⟨by first | rfl | (simp [errW_none, errW_some] <;> rfl) | (simp [*, errW_none, errW_some] <;> rfl), by repeat (first | (with_reducible first | exact HB.out | apply below_alloc | apply pw_below_drewN | apply below_drew1) | exact HB.out)⟩
            ·rw [if_neg c31] at H
             have c31b0 : decide ((wrap64 (5 + (Int.tmod t294 40))) < ((rd_T62 t295 x15_3).f1)) = false := decide_eq_false c31
             clear c31
             by_cases c32 : ((rd_T62 t295 x15_3).f1) < 1
             ·rw [if_pos c32] at H
              have c32b0 : decide (((rd_T62 t295 x15_3).f1) < 1) = true := decide_eq_true c32
              clear c32
              obtain rfl := Option.some.inj H
              have p305 : 0 ≤ (x15_3 : Int) := of_decide_eq_true (by first | (with_reducible assumption) | assumption)
              have q305 : x15_3 < (t295.length : Int) := of_decide_eq_true (by first | (with_reducible assumption) | assumption)
              obtain ⟨ad305, e305, hx305_0, hx305_1⟩ := at_T62 (Kd.R_reads' HO_7.out).2.2 x15_3 p305 q305
              cases e305
              replace p305 := eq_true p305
              replace q305 := eq_true q305
              have p306 : 0 ≤ (x15_3 : Int) := of_decide_eq_true (by first | (with_reducible assumption) | assumption)
              have q306 : x15_3 < (t295.length : Int) := of_decide_eq_true (by first | (with_reducible assumption) | assumption)
              obtain ⟨ad306, e306, hx306_0, hx306_1⟩ := at_T62 (Kd.R_reads' HO_7.out).2.2 x15_3 p306 q306
              obtain rfl : ad305 = ad306 := (by injection e306)
              replace p306 := eq_true p306
              replace q306 := eq_true q306
              have p307 : 0 ≤ (x15_3 : Int) := of_decide_eq_true (by first | (with_reducible assumption) | assumption)
              have q307 : x15_3 < (t295.length : Int) := of_decide_eq_true (by first | (with_reducible assumption) | assumption)
              obtain ⟨ad307, e307, hx307_0, hx307_1⟩ := at_T62 (Kd.R_reads' HO_7.out).2.2 x15_3 p307 q307
              obtain rfl : ad305 = ad307 := (by injection e307)
              replace p307 := eq_true p307
              replace q307 := eq_true q307
              go_wp2
              go_ret
              exact ⟨by first | rfl | (simp [errW_none, errW_some] <;> rfl) | (simp [*, errW_none, errW_some] <;> rfl), by repeat (first | (with_reducible first | exact HB.out | apply below_alloc | apply pw_below_drewN | apply below_drew1) | exact HB.out)⟩
             ·rw [if_neg c32] at H
              have c32b0 : decide (((rd_T62 t295 x15_3).f1) < 1) = false := decide_eq_false c32
              clear c32
              have H' := Aside0.mk H
              clear H
              have p305 : 0 ≤ (x15_3 : Int) := of_decide_eq_true (by first | (with_reducible assumption) | assumption)
              have q305 : x15_3 < (t295.length : Int) := of_decide_eq_true (by first | (with_reducible assumption) | assumption)
              obtain ⟨ad305, e305, hx305_0, hx305_1⟩ := at_T62 (Kd.R_reads' HO_7.out).2.2 x15_3 p305 q305
              cases e305
              replace p305 := eq_true p305
              replace q305 := eq_true q305
              have p306 : 0 ≤ (x15_3 : Int) := of_decide_eq_true (by first | (with_reducible assumption) | assumption)
              have q306 : x15_3 < (t295.length : Int) := of_decide_eq_true (by first | (with_reducible assumption) | assumption)
              obtain ⟨ad306, e306, hx306_0, hx306_1⟩ := at_T62 (Kd.R_reads' HO_7.out).2.2 x15_3 p306 q306
              obtain rfl : ad305 = ad306 := (by injection e306)
              replace p306 := eq_true p306
              replace q306 := eq_true q306
              have p307 : 0 ≤ (x15_3 : Int) := of_decide_eq_true (by first | (with_reducible assumption) | assumption)
              have q307 : x15_3 < (t295.length : Int) := of_decide_eq_true (by first | (with_reducible assumption) | assumption)
              obtain ⟨ad307, e307, hx307_0, hx307_1⟩ := at_T62 (Kd.R_reads' HO_7.out).2.2 x15_3 p307 q307
              obtain rfl : ad305 = ad307 := (by injection e307)
              replace p307 := eq_true p307
              replace q307 := eq_true q307
              go_wp2
              go_roundg k3
              case measure => have := HJ7.out; have := HK2.out; have := HK3.out; omega
              case rel => exact ⟨(wrap64 (x13_3 + ((rd_T62 t295 x15_3).f1))), (wrap64 (x15_3 + 1)), (by first | rfl | (simp; done) | (simp [*]; done)), (by first | rfl | (simp; done) | (simp [*]; done)), H', ⟨by have := HJ7.out; have := HK2.out; have := HK3.out; omega⟩, ⟨by (with_reducible repeat (first | apply Kd.R_alloc | apply Kd.R_drewN | apply Kd.R_drew)); exact HO_5.out⟩, ⟨by (with_reducible repeat (first | apply Kd.R_alloc | apply Kd.R_drewN | apply Kd.R_drew)); exact HO_7.out⟩, ⟨by (with_reducible repeat (first | apply Kd.R_alloc | apply Kd.R_drewN | apply Kd.R_drew)); exact HO_293000.out⟩, ⟨by (with_reducible repeat (first | apply Kd.R_alloc | apply Kd.R_drewN | apply Kd.R_drew)); exact HO_293001.out⟩, ⟨by (with_reducible repeat (first | apply Kd.R_alloc | apply Kd.R_drewN | apply Kd.R_drew)); exact HO_293002.out⟩, ⟨by (with_reducible repeat (first | refine blk_drewN ?_ _ | refine blk_drew ?_ | refine blk_alloc ?_ _)); exact BK292.out⟩, ⟨by (with_reducible repeat (first | refine blk_drewN ?_ _ | refine blk_drew ?_ | refine blk_alloc ?_ _)); exact BK293.out⟩, ⟨by repeat (first | (with_reducible first | exact HB.out | apply below_alloc | apply pw_below_drewN | apply below_drew1) | exact HB.out)⟩⟩
           ·rw [if_neg c30] at H
            exact absurd H (by simp)
          ·rw [if_neg c29] at H
           have c29b0 : decide (x15_3 < (t295.length : Int)) = false := decide_eq_false c29
           clear c29
           have HC33 := Aside0.mk H
           clear H
           go_upto_region 21 with (fail)
           go_cut [121] (fun v121 wc => ∃ (kq : Nat) (x121_32 : Bool), v121 = .bool x121_32 ∧ Aside0 (laws_FnBurnt.j3 kq t289 t295 x121_32 t278 t281 t284 t287 t288 = some r) ∧ Aside0 (kq ≤ k3) ∧ Aside0 (Kd.R k60 60 wc w.heap.size (fun _ => True) (.slice Ao18 t289.length co18) t289) ∧ Aside0 (Kd.R k62 62 wc w.heap.size (fun _ => True) (.slice Ao20 t295.length co20) t295) ∧ Aside0 (Kd.R (Kd.int .i64) 3 wc w.heap.size (fun k_ => some k_ ≠ ((.slice Ao15 t281.length co15) : Value).ownBlock ∧ some k_ ≠ ((.slice Ao16 t284.length co16) : Value).ownBlock) (.slice Ao12 t278.length co12) t278) ∧ Aside0 (Kd.R (Kd.int .i64) 3 wc w.heap.size (fun k_ => some k_ ≠ ((.slice Ao12 t278.length co12) : Value).ownBlock ∧ some k_ ≠ ((.slice Ao16 t284.length co16) : Value).ownBlock) (.slice Ao15 t281.length co15) t281) ∧ Aside0 (Kd.R (Kd.int .i64) 3 wc w.heap.size (fun k_ => some k_ ≠ ((.slice Ao12 t278.length co12) : Value).ownBlock ∧ some k_ ≠ ((.slice Ao15 t281.length co15) : Value).ownBlock) (.slice Ao16 t284.length co16) t284) ∧ Aside0 (wc.heap[gb292]? = some (.cells #[(.slice Ao12 t278.length co12), (.slice Ao15 t281.length co15), (.slice Ao16 t284.length co16)] 33 (0, 0))) ∧ Aside0 (wc.heap[gb293]? = some (.cells #[.int .i64 t287, .int .i64 t288] 35 (0, 0))) ∧ Aside0 (Below w.heap.size w wc))
           case first =>
            have H := HC33.out
            clear HC33
            by_cases c34 : (wrap64 (x11_2 - x12_2)) = x13_3
            ·rw [if_pos c34] at H
             have c34b0 : ((wrap64 (x11_2 - x12_2)) == x13_3) = true := beq_iff_eq.mpr c34
             have c34b1 : ((wrap64 (x11_2 - x12_2)) != x13_3) = false := bne_eq_false_iff_eq.mpr c34
             clear c34
             (first | rw [c34b0] | (simp only [i64_w, i32_w]; rw [c34b0]) | skip)
             by_cases c35 : x12_2 = 0
             ·rw [if_pos c35] at H
              have c35b0 : (x12_2 == 0) = true := beq_iff_eq.mpr c35
              have c35b1 : (x12_2 != 0) = false := bne_eq_false_iff_eq.mpr c35
              clear c35
              replace H := Option.bind_eq_some_iff.mp H
              obtain ⟨t308, A360, H⟩ := H
              replace H : (laws_FnBurnt.j3 k3 t289 t295 (t298 != (t308 == (t295.length : Int))) t278 t281 t284 t287 t288) = some r := H
              have A36 := Aside0.mk A360
              clear A360
              have H' := Aside0.mk H
              clear H
              have hnb37 := NB292_293.out
              have hnc37 := NB293_292.out
              have hcz38_0 : wr.cell? ⟨gb292, 0, none⟩ = some (.slice Ao12 t278.length co12) := (blk_cell BK292.out 0).trans rfl
              have hcz38_1 : wr.cell? ⟨gb292, 1, none⟩ = some (.slice Ao15 t281.length co15) := (blk_cell BK292.out 1).trans rfl
              have hcz38_2 : wr.cell? ⟨gb292, 2, none⟩ = some (.slice Ao16 t284.length co16) := (blk_cell BK292.out 2).trans rfl
              have hfz38_0 := blk_frozen BK292.out 0
              have hfz38_1 := blk_frozen BK292.out 1
              have hfz38_2 := blk_frozen BK292.out 2
              have hcz39_0 : wr.cell? ⟨gb293, 0, none⟩ = some (.int .i64 t287) := (blk_cell BK293.out 0).trans rfl
              have hcz39_1 : wr.cell? ⟨gb293, 1, none⟩ = some (.int .i64 t288) := (blk_cell BK293.out 1).trans rfl
              have hfz39_0 := blk_frozen BK293.out 0
              have hfz39_1 := blk_frozen BK293.out 1
              go_wp2_with (first | (go_at_call 15; (with_reducible refine (impl_Leaves.calls k3 _ _ t278 _ _ t281 _ _ t284 t287 t288 _ _ t289 _ _ t295 t308 _ ?side1 ?side2 ?side3 ?side4 ?side5 ?side6 ?side7 ?side8 ?side9 ?side10 A36.out).mono ?_); (case side1 => repeat (first | exact (Kd.R_reads' HO_293000.out).2.2 | (with_reducible refine Kd.C_alloc ?_ _) | (with_reducible refine Kd.C_drewN ?_ _) | (with_reducible refine Kd.C_drew ?_))); (case side2 => exact (Kd.R_reads' HO_293000.out).2.1); (case side3 => repeat (first | exact (Kd.R_reads' HO_293001.out).2.2 | (with_reducible refine Kd.C_alloc ?_ _) | (with_reducible refine Kd.C_drewN ?_ _) | (with_reducible refine Kd.C_drew ?_))); (case side4 => exact (Kd.R_reads' HO_293001.out).2.1); (case side5 => repeat (first | exact (Kd.R_reads' HO_293002.out).2.2 | (with_reducible refine Kd.C_alloc ?_ _) | (with_reducible refine Kd.C_drewN ?_ _) | (with_reducible refine Kd.C_drew ?_))); (case side6 => exact (Kd.R_reads' HO_293002.out).2.1); (case side7 => repeat (first | exact (Kd.R_reads' HO_5.out).2.2 | (with_reducible refine Kd.C_alloc ?_ _) | (with_reducible refine Kd.C_drewN ?_ _) | (with_reducible refine Kd.C_drew ?_))); (case side8 => exact (Kd.R_reads' HO_5.out).2.1); (case side9 => repeat (first | exact (Kd.R_reads' HO_7.out).2.2 | (with_reducible refine Kd.C_alloc ?_ _) | (with_reducible refine Kd.C_drewN ?_ _) | (with_reducible refine Kd.C_drew ?_))); (case side10 => exact (Kd.R_reads' HO_7.out).2.1); rintro e w40 ⟨rfl, hb⟩; have n0_ := Aside0.mk (Kd.R_below (by exact HO_5.out) hb); have n1_ := Aside0.mk (Kd.R_below (by exact HO_7.out) hb); have n2_ := Aside0.mk (Kd.R_below (by exact HO_293000.out) hb); have n3_ := Aside0.mk (Kd.R_below (by exact HO_293001.out) hb); have n4_ := Aside0.mk (Kd.R_below (by exact HO_293002.out) hb); have n5_ := Aside0.mk (blk_below (g := gb292) (o := .cells #[.slice Ao12 t278.length co12, .slice Ao15 t281.length co15, .slice Ao16 t284.length co16] 33 (0, 0)) (by exact BK292.out) hb); have n6_ := Aside0.mk (blk_below (g := gb293) (o := .cells #[.int .i64 t287, .int .i64 t288] 35 (0, 0)) (by exact BK293.out) hb); have n7_ := Aside0.mk (below_step (by exact HB.out) hb); clear HO_5; clear HO_7; clear HO_293000; clear HO_293001; clear HO_293002; clear BK292; clear BK293; clear HB; have HO_5 := n0_; have HO_7 := n1_; have HO_293000 := n2_; have HO_293001 := n3_; have HO_293002 := n4_; have BK292 := n5_; have BK293 := n6_; have HB := n7_; clear n0_ n1_ n2_ n3_ n4_ n5_ n6_ n7_; (try clear hb); (try clear hb2); (try clear hk); (try clear hi)))
              go_meet
              case rel => exact ⟨_, ((t298 != (t308 == (t295.length : Int)))), (by first | rfl | (simp; done) | (simp [*]; done)), H', ⟨by have := HJ7.out; have := HK2.out; have := HK3.out; first | omega | exact Nat.le_refl _⟩, ⟨by (with_reducible repeat (first | apply Kd.R_alloc | apply Kd.R_drewN | apply Kd.R_drew)); exact HO_5.out⟩, ⟨by (with_reducible repeat (first | apply Kd.R_alloc | apply Kd.R_drewN | apply Kd.R_drew)); exact HO_7.out⟩, ⟨by (with_reducible repeat (first | apply Kd.R_alloc | apply Kd.R_drewN | apply Kd.R_drew)); exact HO_293000.out⟩, ⟨by (with_reducible repeat (first | apply Kd.R_alloc | apply Kd.R_drewN | apply Kd.R_drew)); exact HO_293001.out⟩, ⟨by (with_reducible repeat (first | apply Kd.R_alloc | apply Kd.R_drewN | apply Kd.R_drew)); exact HO_293002.out⟩, ⟨by (with_reducible repeat (first | refine blk_drewN ?_ _ | refine blk_drew ?_ | refine blk_alloc ?_ _)); exact BK292.out⟩, ⟨by (with_reducible repeat (first | refine blk_drewN ?_ _ | refine blk_drew ?_ | refine blk_alloc ?_ _)); exact BK293.out⟩, ⟨by repeat (first | (with_reducible first | exact HB.out | apply below_alloc | apply pw_below_drewN | apply below_drew1) | exact HB.out)⟩⟩
             ·rw [if_neg c35] at H
              have c35b0 : (x12_2 == 0) = false := beq_eq_false_iff_ne.mpr c35
              have c35b1 : (x12_2 != 0) = true := bne_iff_ne.mpr c35
              have H' := Aside0.mk H
              clear H
              go_wp2
              go_meet
              case rel => exact ⟨_, ((t298 != false)), (by first | rfl | (simp; done) | (simp [*]; done)), H', ⟨by have := HJ7.out; have := HK2.out; have := HK3.out; first | omega | exact Nat.le_refl _⟩, ⟨by (with_reducible repeat (first | apply Kd.R_alloc | apply Kd.R_drewN | apply Kd.R_drew)); exact HO_5.out⟩, ⟨by (with_reducible repeat (first | apply Kd.R_alloc | apply Kd.R_drewN | apply Kd.R_drew)); exact HO_7.out⟩, ⟨by (with_reducible repeat (first | apply Kd.R_alloc | apply Kd.R_drewN | apply Kd.R_drew)); exact HO_293000.out⟩, ⟨by (with_reducible repeat (first | apply Kd.R_alloc | apply Kd.R_drewN | apply Kd.R_drew)); exact HO_293001.out⟩, ⟨by (with_reducible repeat (first | apply Kd.R_alloc | apply Kd.R_drewN | apply Kd.R_drew)); exact HO_293002.out⟩, ⟨by (with_reducible repeat (first | refine blk_drewN ?_ _ | refine blk_drew ?_ | refine blk_alloc ?_ _)); exact BK292.out⟩, ⟨by (with_reducible repeat (first | refine blk_drewN ?_ _ | refine blk_drew ?_ | refine blk_alloc ?_ _)); exact BK293.out⟩, ⟨by repeat (first | (with_reducible first | exact HB.out | apply below_alloc | apply pw_below_drewN | apply below_drew1) | exact HB.out)⟩⟩
            ·rw [if_neg c34] at H
             have c34b0 : ((wrap64 (x11_2 - x12_2)) == x13_3) = false := beq_eq_false_iff_ne.mpr c34
             have c34b1 : ((wrap64 (x11_2 - x12_2)) != x13_3) = true := bne_iff_ne.mpr c34
             (first | rw [c34b0] | (simp only [i64_w, i32_w]; rw [c34b0]) | skip)
             have H' := Aside0.mk H
             clear H
             go_wp2
             go_meet
             case rel => exact ⟨_, (true), (by first | rfl | (simp; done) | (simp [*]; done)), H', ⟨by have := HJ7.out; have := HK2.out; have := HK3.out; first | omega | exact Nat.le_refl _⟩, ⟨by (with_reducible repeat (first | apply Kd.R_alloc | apply Kd.R_drewN | apply Kd.R_drew)); exact HO_5.out⟩, ⟨by (with_reducible repeat (first | apply Kd.R_alloc | apply Kd.R_drewN | apply Kd.R_drew)); exact HO_7.out⟩, ⟨by (with_reducible repeat (first | apply Kd.R_alloc | apply Kd.R_drewN | apply Kd.R_drew)); exact HO_293000.out⟩, ⟨by (with_reducible repeat (first | apply Kd.R_alloc | apply Kd.R_drewN | apply Kd.R_drew)); exact HO_293001.out⟩, ⟨by (with_reducible repeat (first | apply Kd.R_alloc | apply Kd.R_drewN | apply Kd.R_drew)); exact HO_293002.out⟩, ⟨by (with_reducible repeat (first | refine blk_drewN ?_ _ | refine blk_drew ?_ | refine blk_alloc ?_ _)); exact BK292.out⟩, ⟨by (with_reducible repeat (first | refine blk_drewN ?_ _ | refine blk_drew ?_ | refine blk_alloc ?_ _)); exact BK293.out⟩, ⟨by repeat (first | (with_reducible first | exact HB.out | apply below_alloc | apply pw_below_drewN | apply below_drew1) | exact HB.out)⟩⟩
           case rest =>
            clear HC33
            try clear c1
            try clear c2
            try clear p2
            try clear c3
            try clear p3
            try clear q3
            try clear hx3
            try clear c6
            try clear p6
            try clear c13
            try clear c20
            try clear c22
            try clear c22b0
            try clear c22b1
            try clear c24
            try clear c25
            try clear c25b0
            try clear c26
            try clear c26b0
            try clear c27
            try clear c27b0
            try clear c28
            try clear c29
            try clear c29b0
            try clear c30
            try clear c30b0
            try clear p30
            try clear q30
            try clear hx30
            try clear c31
            try clear c31b0
            try clear c32
            try clear c32b0
            try clear c34
            try clear c34b0
            try clear c34b1
            try clear c35
            try clear c35b0
            try clear c35b1
            try clear c37
            try clear hcz14_0
            try clear hcz14_1
            try clear hcz14_2
            try clear hcz17_0
            try clear hcz17_1
            try clear hcz38_0
            try clear hcz38_1
            try clear hcz38_2
            try clear hcz39_0
            try clear hcz39_1
            try clear hfz14_0
            try clear hfz14_1
            try clear hfz14_2
            try clear hfz17_0
            try clear hfz17_1
            try clear hfz38_0
            try clear hfz38_1
            try clear hfz38_2
            try clear hfz39_0
            try clear hfz39_1
            try clear hx303_0
            try clear hx303_1
            try clear hx304_0
            try clear hx304_1
            try clear hx305_0
            try clear hx305_1
            try clear hx306_0
            try clear hx306_1
            try clear hx307_0
            try clear hx307_1
            try clear p2
            try clear p3
            try clear p303
            try clear p304
            try clear p305
            try clear p306
            try clear p307
            try clear p6
            try clear q3
            try clear q303
            try clear q304
            try clear q305
            try clear q306
            try clear q307
            obtain ⟨kq, x121_32, rfl, HA, HJ32, HO_5, HO_7, HO_293000, HO_293001, HO_293002, BK292, BK293, HB⟩ := hcut
            cases kq with
            | zero => exact absurd HA.out (by simp [laws_FnBurnt.j3])
            | succ kj32 =>
             have H := HA.out
             clear HA
             simp only [laws_FnBurnt.j3] at H
             by_cases c41 : x121_32 = true
             ·subst c41
              have H1 : (some false) = some r := by rw [if_pos rfl] at H; exact H
              clear H
              have H := H1
              clear H1
              obtain rfl := Option.some.inj H
              go_wp2
              go_ret
              exact ⟨by first | rfl | (simp [errW_none, errW_some] <;> rfl) | (simp [*, errW_none, errW_some] <;> rfl), by repeat (first | (with_reducible first | exact HB.out | apply below_alloc | apply pw_below_drewN | apply below_drew1) | exact HB.out)⟩
             ·replace c41 := Bool.eq_false_iff.mpr c41
              subst c41
              have H1 : (if (t295.length : Int) > 0 then ((impl_Leaves.f kj32 t278 t281 t284 t287 t288 t289 t295).bind fun t309 => (if t309 = (t295.length : Int) then ((impl_Burnt.f kj32 t289 (([(⟨(t289.length : Int), 1⟩ : S62)] : List (S62)))).bind fun bt313 => (if bt313.2 = 0 then (some ((bt313.1.length : Int) == (t289.length : Int))) else (some false))) else (some false))) else ((impl_Burnt.f kj32 t289 (([(⟨(t289.length : Int), 1⟩ : S62)] : List (S62)))).bind fun bt320 => (if bt320.2 = 0 then (some ((bt320.1.length : Int) == (t289.length : Int))) else (some false)))) = some r := by rw [if_neg (show ¬ (false = true) by decide)] at H; exact H
              clear H
              have H := H1
              clear H1
              by_cases c42 : (t295.length : Int) > 0
              ·rw [if_pos c42] at H
               have c42b0 : decide (0 < (t295.length : Int)) = true := decide_eq_true c42
               have c42b1 : decide (0 < t295.length) = true := decide_eq_true (by omega)
               clear c42
               replace H := Option.bind_eq_some_iff.mp H
               obtain ⟨t309, A430, H⟩ := H
               replace H : (if t309 = (t295.length : Int) then ((impl_Burnt.f kj32 t289 (([(⟨(t289.length : Int), 1⟩ : S62)] : List (S62)))).bind fun bt313 => (if bt313.2 = 0 then (some ((bt313.1.length : Int) == (t289.length : Int))) else (some false))) else (some false)) = some r := H
               have A43 := Aside0.mk A430
               clear A430
               by_cases c44 : t309 = (t295.length : Int)
               ·rw [if_pos c44] at H
                have c44b0 : (t309 == (t295.length : Int)) = true := beq_iff_eq.mpr c44
                have c44b1 : (t309 != (t295.length : Int)) = false := bne_eq_false_iff_eq.mpr c44
                clear c44
                obtain ⟨y310, hy310⟩ : ∃ y_ : List (S62), y_ = (([(⟨(t289.length : Int), 1⟩ : S62)] : List (S62))) := ⟨_, rfl⟩
                replace H : ((impl_Burnt.f kj32 t289 y310).bind fun bt313 => (if bt313.2 = 0 then (some ((bt313.1.length : Int) == (t289.length : Int))) else (some false))) = some r := by first | (rw [hy310]; with_reducible exact H) | (have H2_ := (Option.bind_some _ _).symm.trans H; rw [hy310]; with_reducible exact H2_) | (have H2_ := (Option.bind_some _ _).symm.trans H; with_reducible exact H2_) | with_reducible exact H | (rw [hy310]; exact H) | exact H
                have Ny310 := Aside0.mk hy310
                clear hy310
                replace H := Option.bind_eq_some_iff.mp H
                obtain ⟨⟨t313, t314⟩, A450, H⟩ := H
                replace H : (if t314 = 0 then (some ((t313.length : Int) == (t289.length : Int))) else (some false)) = some r := H
                have A45 := Aside0.mk A450
                clear A450
                by_cases c46 : t314 = 0
                ·rw [if_pos c46] at H
                 have c46b0 : (t314 == 0) = true := beq_iff_eq.mpr c46
                 have c46b1 : (t314 != 0) = false := bne_eq_false_iff_eq.mpr c46
                 clear c46
                 obtain rfl := Option.some.inj H
                 have hnb47 := NB292_293.out
                 have hnc47 := NB293_292.out
                 have hcz48_0 : wc.cell? ⟨gb292, 0, none⟩ = some (.slice Ao12 t278.length co12) := (blk_cell BK292.out 0).trans rfl
                 have hcz48_1 : wc.cell? ⟨gb292, 1, none⟩ = some (.slice Ao15 t281.length co15) := (blk_cell BK292.out 1).trans rfl
                 have hcz48_2 : wc.cell? ⟨gb292, 2, none⟩ = some (.slice Ao16 t284.length co16) := (blk_cell BK292.out 2).trans rfl
                 have hfz48_0 := blk_frozen BK292.out 0
                 have hfz48_1 := blk_frozen BK292.out 1
                 have hfz48_2 := blk_frozen BK292.out 2
                 have hcz49_0 : wc.cell? ⟨gb293, 0, none⟩ = some (.int .i64 t287) := (blk_cell BK293.out 0).trans rfl
                 have hcz49_1 : wc.cell? ⟨gb293, 1, none⟩ = some (.int .i64 t288) := (blk_cell BK293.out 1).trans rfl
                 have hfz49_0 := blk_frozen BK293.out 0
                 have hfz49_1 := blk_frozen BK293.out 1
                 go_wp2_with (first | (go_at_call 15; (with_reducible refine (impl_Leaves.calls kj32 _ _ t278 _ _ t281 _ _ t284 t287 t288 _ _ t289 _ _ t295 t309 _ ?side1 ?side2 ?side3 ?side4 ?side5 ?side6 ?side7 ?side8 ?side9 ?side10 A43.out).mono ?_); (case side1 => repeat (first | exact (Kd.R_reads' HO_293000.out).2.2 | (with_reducible refine Kd.C_alloc ?_ _) | (with_reducible refine Kd.C_drewN ?_ _) | (with_reducible refine Kd.C_drew ?_))); (case side2 => exact (Kd.R_reads' HO_293000.out).2.1); (case side3 => repeat (first | exact (Kd.R_reads' HO_293001.out).2.2 | (with_reducible refine Kd.C_alloc ?_ _) | (with_reducible refine Kd.C_drewN ?_ _) | (with_reducible refine Kd.C_drew ?_))); (case side4 => exact (Kd.R_reads' HO_293001.out).2.1); (case side5 => repeat (first | exact (Kd.R_reads' HO_293002.out).2.2 | (with_reducible refine Kd.C_alloc ?_ _) | (with_reducible refine Kd.C_drewN ?_ _) | (with_reducible refine Kd.C_drew ?_))); (case side6 => exact (Kd.R_reads' HO_293002.out).2.1); (case side7 => repeat (first | exact (Kd.R_reads' HO_5.out).2.2 | (with_reducible refine Kd.C_alloc ?_ _) | (with_reducible refine Kd.C_drewN ?_ _) | (with_reducible refine Kd.C_drew ?_))); (case side8 => exact (Kd.R_reads' HO_5.out).2.1); (case side9 => repeat (first | exact (Kd.R_reads' HO_7.out).2.2 | (with_reducible refine Kd.C_alloc ?_ _) | (with_reducible refine Kd.C_drewN ?_ _) | (with_reducible refine Kd.C_drew ?_))); (case side10 => exact (Kd.R_reads' HO_7.out).2.1); rintro e w50 ⟨rfl, hb⟩; have n0_ := Aside0.mk (Kd.R_below (by exact HO_5.out) hb); have n1_ := Aside0.mk (Kd.R_below (by exact HO_7.out) hb); have n2_ := Aside0.mk (Kd.R_below (by exact HO_293000.out) hb); have n3_ := Aside0.mk (Kd.R_below (by exact HO_293001.out) hb); have n4_ := Aside0.mk (Kd.R_below (by exact HO_293002.out) hb); have n5_ := Aside0.mk (blk_below (g := gb292) (o := .cells #[.slice Ao12 t278.length co12, .slice Ao15 t281.length co15, .slice Ao16 t284.length co16] 33 (0, 0)) (by exact BK292.out) hb); have n6_ := Aside0.mk (blk_below (g := gb293) (o := .cells #[.int .i64 t287, .int .i64 t288] 35 (0, 0)) (by exact BK293.out) hb); have n7_ := Aside0.mk (below_step (by exact HB.out) hb); clear HO_5; clear HO_7; clear HO_293000; clear HO_293001; clear HO_293002; clear BK292; clear BK293; clear HB; have HO_5 := n0_; have HO_7 := n1_; have HO_293000 := n2_; have HO_293001 := n3_; have HO_293002 := n4_; have BK292 := n5_; have BK293 := n6_; have HB := n7_; clear n0_ n1_ n2_ n3_ n4_ n5_ n6_ n7_; (try clear hb); (try clear hb2); (try clear hk); (try clear hi)) | ((with_reducible refine gate_dst (N := 140) rfl ?_); (try (refine gate_guard (by rfl) ?_; dsimp only)); refine Kd.R_lit k62 _ 62 ?hg (N := 140) ?hd (xs := ([(⟨(t289.length : Int), 1⟩ : S62)] : List (S62))) (inner := [.int .i64 (t289.length : Int), .int .i64 1]) (ok := fun _ => True) (okp := fun _ => True) ?hr ?hp (fun _ hk => hk) trivial (Below.refl _ _) (Nat.le_refl _) (by simp) ?_; (case hd => rfl); (case hg => rfl); (case hr => first | (go_simp; done) | (go_simp; rfl)); (case hp => exact (Reps.c2 (show Kd.M k62 _ _ _ (⟨(t289.length : Int), 1⟩ : S62) [.int .i64 (t289.length : Int), .int .i64 1] from (k62_mkM _ _ _ (⟨(t289.length : Int), 1⟩ : S62) )) (Reps.none _ _))); intro v311 w51 ho52 hb hg_ hnew_; clear hg_ hnew_; (first | rw [← Ny310.out] at ho52 | (simp only [Int.reduceToNat] at ho52; rw [← Ny310.out] at ho52)); have n0_ := Aside0.mk (Kd.R_below (by exact HO_5.out) hb); have n1_ := Aside0.mk (Kd.R_elder' (by exact HO_7.out) (Kd.R_base ho52) hb); have n2_ := Aside0.mk (Kd.R_below (by exact HO_293000.out) hb); have n3_ := Aside0.mk (Kd.R_below (by exact HO_293001.out) hb); have n4_ := Aside0.mk (Kd.R_below (by exact HO_293002.out) hb); have n5_ := Aside0.mk (Kd.R_lower (Kd.R_new' ho52 (Kd.R_lt (by exact HO_7.out))) (below_size (by exact HB.out))); have n6_ := Aside0.mk (blk_below (g := gb292) (o := .cells #[.slice Ao12 t278.length co12, .slice Ao15 t281.length co15, .slice Ao16 t284.length co16] 33 (0, 0)) (by exact BK292.out) hb); have n7_ := Aside0.mk (below_step (by exact HB.out) hb); clear HO_5; clear HO_7; clear HO_293000; clear HO_293001; clear HO_293002; clear BK292; clear HB; have HO_5 := n0_; have HO_7 := n1_; have HO_293000 := n2_; have HO_293001 := n3_; have HO_293002 := n4_; have HO312 := n5_; have BK292 := n6_; have HB := n7_; clear n0_ n1_ n2_ n3_ n4_ n5_ n6_ n7_; clear hb ho52; obtain ⟨Ao53, co53, eo53⟩ := Kd.R_slice HO312.out; subst eo53) | ((with_reducible refine gate_callee (f := 26) rfl ?_); refine goesL_ (some 141) rfl rfl Try.func26 (by kernel_rfl) rfl #[.slice Ao18 t289.length co18, .slice Ao53 y310.length co53] rfl (by (try simp only [List.map_toArray, List.map_cons, List.map_nil]); first | done | rfl | (simp only [List.length_drop, List.length_take]; rfl)) ?_; (with_reducible refine (impl_Burnt.calls kj32 _ _ t289 _ _ y310 t313 t314 _ ?side1 ?side2 ?side3 ?side4 A45.out).mono ?_); (case side1 => repeat (first | exact (Kd.R_reads' HO_5.out).2.2 | (with_reducible refine Kd.C_alloc ?_ _) | (with_reducible refine Kd.C_drewN ?_ _) | (with_reducible refine Kd.C_drew ?_))); (case side2 => exact (Kd.R_reads' HO_5.out).2.1); (case side3 => repeat (first | exact (Kd.R_reads' HO312.out).2.2 | (with_reducible refine Kd.C_alloc ?_ _) | (with_reducible refine Kd.C_drewN ?_ _) | (with_reducible refine Kd.C_drew ?_))); (case side4 => exact (Kd.R_reads' HO312.out).2.1); rintro e w54 ⟨v315, rfl, ho0, hb⟩; refine ⟨_, rfl, ?_⟩; have n0_ := Aside0.mk (Kd.R_elder' (by exact HO_5.out) (Kd.R_base ho0) hb); have n1_ := Aside0.mk (Kd.R_below (by exact HO_7.out) hb); have n2_ := Aside0.mk (Kd.R_below (by exact HO_293000.out) hb); have n3_ := Aside0.mk (Kd.R_below (by exact HO_293001.out) hb); have n4_ := Aside0.mk (Kd.R_below (by exact HO_293002.out) hb); have n5_ := Aside0.mk (Kd.R_below (by exact HO312.out) hb); have n6_ := Aside0.mk (Kd.R_lower (Kd.R_new' ho0 (Kd.R_lt (by exact HO_5.out))) (below_size (by exact HB.out))); have n7_ := Aside0.mk (blk_below (g := gb292) (o := .cells #[.slice Ao12 t278.length co12, .slice Ao15 t281.length co15, .slice Ao16 t284.length co16] 33 (0, 0)) (by exact BK292.out) hb); have n8_ := Aside0.mk (below_step (by exact HB.out) hb); clear HO_5; clear HO_7; clear HO_293000; clear HO_293001; clear HO_293002; clear HO312; clear BK292; clear HB; have HO_5 := n0_; have HO_7 := n1_; have HO_293000 := n2_; have HO_293001 := n3_; have HO_293002 := n4_; have HO312 := n5_; have HO316 := n6_; have BK292 := n7_; have HB := n8_; clear n0_ n1_ n2_ n3_ n4_ n5_ n6_ n7_ n8_; (try clear hb); (try clear hb2); (try clear hk); (try clear hi); (try clear ho0); obtain ⟨Ao55, co55, eo55⟩ := Kd.R_slice HO316.out; subst eo55))
                 go_ret
                 exact ⟨by first | rfl | (simp [errW_none, errW_some] <;> rfl) | (simp [*, errW_none, errW_some] <;> rfl), by repeat (first | (with_reducible first | exact HB.out | apply below_alloc | apply pw_below_drewN | apply below_drew1) | exact HB.out)⟩
                ·rw [if_neg c46] at H
                 have c46b0 : (t314 == 0) = false := beq_eq_false_iff_ne.mpr c46
                 have c46b1 : (t314 != 0) = true := bne_iff_ne.mpr c46
                 obtain rfl := Option.some.inj H
                 have hnb56 := NB292_293.out
                 have hnc56 := NB293_292.out
                 have hcz57_0 : wc.cell? ⟨gb292, 0, none⟩ = some (.slice Ao12 t278.length co12) := (blk_cell BK292.out 0).trans rfl
                 have hcz57_1 : wc.cell? ⟨gb292, 1, none⟩ = some (.slice Ao15 t281.length co15) := (blk_cell BK292.out 1).trans rfl
                 have hcz57_2 : wc.cell? ⟨gb292, 2, none⟩ = some (.slice Ao16 t284.length co16) := (blk_cell BK292.out 2).trans rfl
                 have hfz57_0 := blk_frozen BK292.out 0
                 have hfz57_1 := blk_frozen BK292.out 1
                 have hfz57_2 := blk_frozen BK292.out 2
                 have hcz58_0 : wc.cell? ⟨gb293, 0, none⟩ = some (.int .i64 t287) := (blk_cell BK293.out 0).trans rfl
                 have hcz58_1 : wc.cell? ⟨gb293, 1, none⟩ = some (.int .i64 t288) := (blk_cell BK293.out 1).trans rfl
                 have hfz58_0 := blk_frozen BK293.out 0
                 have hfz58_1 := blk_frozen BK293.out 1
                 go_wp2_with (first | (go_at_call 15; (with_reducible refine (impl_Leaves.calls kj32 _ _ t278 _ _ t281 _ _ t284 t287 t288 _ _ t289 _ _ t295 t309 _ ?side1 ?side2 ?side3 ?side4 ?side5 ?side6 ?side7 ?side8 ?side9 ?side10 A43.out).mono ?_); (case side1 => repeat (first | exact (Kd.R_reads' HO_293000.out).2.2 | (with_reducible refine Kd.C_alloc ?_ _) | (with_reducible refine Kd.C_drewN ?_ _) | (with_reducible refine Kd.C_drew ?_))); (case side2 => exact (Kd.R_reads' HO_293000.out).2.1); (case side3 => repeat (first | exact (Kd.R_reads' HO_293001.out).2.2 | (with_reducible refine Kd.C_alloc ?_ _) | (with_reducible refine Kd.C_drewN ?_ _) | (with_reducible refine Kd.C_drew ?_))); (case side4 => exact (Kd.R_reads' HO_293001.out).2.1); (case side5 => repeat (first | exact (Kd.R_reads' HO_293002.out).2.2 | (with_reducible refine Kd.C_alloc ?_ _) | (with_reducible refine Kd.C_drewN ?_ _) | (with_reducible refine Kd.C_drew ?_))); (case side6 => exact (Kd.R_reads' HO_293002.out).2.1); (case side7 => repeat (first | exact (Kd.R_reads' HO_5.out).2.2 | (with_reducible refine Kd.C_alloc ?_ _) | (with_reducible refine Kd.C_drewN ?_ _) | (with_reducible refine Kd.C_drew ?_))); (case side8 => exact (Kd.R_reads' HO_5.out).2.1); (case side9 => repeat (first | exact (Kd.R_reads' HO_7.out).2.2 | (with_reducible refine Kd.C_alloc ?_ _) | (with_reducible refine Kd.C_drewN ?_ _) | (with_reducible refine Kd.C_drew ?_))); (case side10 => exact (Kd.R_reads' HO_7.out).2.1); rintro e w59 ⟨rfl, hb⟩; have n0_ := Aside0.mk (Kd.R_below (by exact HO_5.out) hb); have n1_ := Aside0.mk (Kd.R_below (by exact HO_7.out) hb); have n2_ := Aside0.mk (Kd.R_below (by exact HO_293000.out) hb); have n3_ := Aside0.mk (Kd.R_below (by exact HO_293001.out) hb); have n4_ := Aside0.mk (Kd.R_below (by exact HO_293002.out) hb); have n5_ := Aside0.mk (blk_below (g := gb292) (o := .cells #[.slice Ao12 t278.length co12, .slice Ao15 t281.length co15, .slice Ao16 t284.length co16] 33 (0, 0)) (by exact BK292.out) hb); have n6_ := Aside0.mk (blk_below (g := gb293) (o := .cells #[.int .i64 t287, .int .i64 t288] 35 (0, 0)) (by exact BK293.out) hb); have n7_ := Aside0.mk (below_step (by exact HB.out) hb); clear HO_5; clear HO_7; clear HO_293000; clear HO_293001; clear HO_293002; clear BK292; clear BK293; clear HB; have HO_5 := n0_; have HO_7 := n1_; have HO_293000 := n2_; have HO_293001 := n3_; have HO_293002 := n4_; have BK292 := n5_; have BK293 := n6_; have HB := n7_; clear n0_ n1_ n2_ n3_ n4_ n5_ n6_ n7_; (try clear hb); (try clear hb2); (try clear hk); (try clear hi)) | ((with_reducible refine gate_dst (N := 140) rfl ?_); (try (refine gate_guard (by rfl) ?_; dsimp only)); refine Kd.R_lit k62 _ 62 ?hg (N := 140) ?hd (xs := ([(⟨(t289.length : Int), 1⟩ : S62)] : List (S62))) (inner := [.int .i64 (t289.length : Int), .int .i64 1]) (ok := fun _ => True) (okp := fun _ => True) ?hr ?hp (fun _ hk => hk) trivial (Below.refl _ _) (Nat.le_refl _) (by simp) ?_; (case hd => rfl); (case hg => rfl); (case hr => first | (go_simp; done) | (go_simp; rfl)); (case hp => exact (Reps.c2 (show Kd.M k62 _ _ _ (⟨(t289.length : Int), 1⟩ : S62) [.int .i64 (t289.length : Int), .int .i64 1] from (k62_mkM _ _ _ (⟨(t289.length : Int), 1⟩ : S62) )) (Reps.none _ _))); intro v311 w60 ho61 hb hg_ hnew_; clear hg_ hnew_; (first | rw [← Ny310.out] at ho61 | (simp only [Int.reduceToNat] at ho61; rw [← Ny310.out] at ho61)); have n0_ := Aside0.mk (Kd.R_below (by exact HO_5.out) hb); have n1_ := Aside0.mk (Kd.R_elder' (by exact HO_7.out) (Kd.R_base ho61) hb); have n2_ := Aside0.mk (Kd.R_below (by exact HO_293000.out) hb); have n3_ := Aside0.mk (Kd.R_below (by exact HO_293001.out) hb); have n4_ := Aside0.mk (Kd.R_below (by exact HO_293002.out) hb); have n5_ := Aside0.mk (Kd.R_lower (Kd.R_new' ho61 (Kd.R_lt (by exact HO_7.out))) (below_size (by exact HB.out))); have n6_ := Aside0.mk (blk_below (g := gb292) (o := .cells #[.slice Ao12 t278.length co12, .slice Ao15 t281.length co15, .slice Ao16 t284.length co16] 33 (0, 0)) (by exact BK292.out) hb); have n7_ := Aside0.mk (below_step (by exact HB.out) hb); clear HO_5; clear HO_7; clear HO_293000; clear HO_293001; clear HO_293002; clear BK292; clear HB; have HO_5 := n0_; have HO_7 := n1_; have HO_293000 := n2_; have HO_293001 := n3_; have HO_293002 := n4_; have HO312 := n5_; have BK292 := n6_; have HB := n7_; clear n0_ n1_ n2_ n3_ n4_ n5_ n6_ n7_; clear hb ho61; obtain ⟨Ao62, co62, eo62⟩ := Kd.R_slice HO312.out; subst eo62) | ((with_reducible refine gate_callee (f := 26) rfl ?_); refine goesL_ (some 141) rfl rfl Try.func26 (by kernel_rfl) rfl #[.slice Ao18 t289.length co18, .slice Ao62 y310.length co62] rfl (by (try simp only [List.map_toArray, List.map_cons, List.map_nil]); first | done | rfl | (simp only [List.length_drop, List.length_take]; rfl)) ?_; (with_reducible refine (impl_Burnt.calls kj32 _ _ t289 _ _ y310 t313 t314 _ ?side1 ?side2 ?side3 ?side4 A45.out).mono ?_); (case side1 => repeat (first | exact (Kd.R_reads' HO_5.out).2.2 | (with_reducible refine Kd.C_alloc ?_ _) | (with_reducible refine Kd.C_drewN ?_ _) | (with_reducible refine Kd.C_drew ?_))); (case side2 => exact (Kd.R_reads' HO_5.out).2.1); (case side3 => repeat (first | exact (Kd.R_reads' HO312.out).2.2 | (with_reducible refine Kd.C_alloc ?_ _) | (with_reducible refine Kd.C_drewN ?_ _) | (with_reducible refine Kd.C_drew ?_))); (case side4 => exact (Kd.R_reads' HO312.out).2.1); rintro e w63 ⟨v315, rfl, ho0, hb⟩; refine ⟨_, rfl, ?_⟩; have n0_ := Aside0.mk (Kd.R_elder' (by exact HO_5.out) (Kd.R_base ho0) hb); have n1_ := Aside0.mk (Kd.R_below (by exact HO_7.out) hb); have n2_ := Aside0.mk (Kd.R_below (by exact HO_293000.out) hb); have n3_ := Aside0.mk (Kd.R_below (by exact HO_293001.out) hb); have n4_ := Aside0.mk (Kd.R_below (by exact HO_293002.out) hb); have n5_ := Aside0.mk (Kd.R_below (by exact HO312.out) hb); have n6_ := Aside0.mk (Kd.R_lower (Kd.R_new' ho0 (Kd.R_lt (by exact HO_5.out))) (below_size (by exact HB.out))); have n7_ := Aside0.mk (blk_below (g := gb292) (o := .cells #[.slice Ao12 t278.length co12, .slice Ao15 t281.length co15, .slice Ao16 t284.length co16] 33 (0, 0)) (by exact BK292.out) hb); have n8_ := Aside0.mk (below_step (by exact HB.out) hb); clear HO_5; clear HO_7; clear HO_293000; clear HO_293001; clear HO_293002; clear HO312; clear BK292; clear HB; have HO_5 := n0_; have HO_7 := n1_; have HO_293000 := n2_; have HO_293001 := n3_; have HO_293002 := n4_; have HO312 := n5_; have HO316 := n6_; have BK292 := n7_; have HB := n8_; clear n0_ n1_ n2_ n3_ n4_ n5_ n6_ n7_ n8_; (try clear hb); (try clear hb2); (try clear hk); (try clear hi); (try clear ho0)))
                 go_ret
                 exact ⟨by first | rfl | (simp [errW_none, errW_some] <;> rfl) | (simp [*, errW_none, errW_some] <;> rfl), by repeat (first | (with_reducible first | exact HB.out | apply below_alloc | apply pw_below_drewN | apply below_drew1) | exact HB.out)⟩
               ·rw [if_neg c44] at H
                have c44b0 : (t309 == (t295.length : Int)) = false := beq_eq_false_iff_ne.mpr c44
                have c44b1 : (t309 != (t295.length : Int)) = true := bne_iff_ne.mpr c44
                obtain rfl := Option.some.inj H
                have hnb64 := NB292_293.out
                have hnc64 := NB293_292.out
                have hcz65_0 : wc.cell? ⟨gb292, 0, none⟩ = some (.slice Ao12 t278.length co12) := (blk_cell BK292.out 0).trans rfl
                have hcz65_1 : wc.cell? ⟨gb292, 1, none⟩ = some (.slice Ao15 t281.length co15) := (blk_cell BK292.out 1).trans rfl
                have hcz65_2 : wc.cell? ⟨gb292, 2, none⟩ = some (.slice Ao16 t284.length co16) := (blk_cell BK292.out 2).trans rfl
                have hfz65_0 := blk_frozen BK292.out 0
                have hfz65_1 := blk_frozen BK292.out 1
                have hfz65_2 := blk_frozen BK292.out 2
                have hcz66_0 : wc.cell? ⟨gb293, 0, none⟩ = some (.int .i64 t287) := (blk_cell BK293.out 0).trans rfl
                have hcz66_1 : wc.cell? ⟨gb293, 1, none⟩ = some (.int .i64 t288) := (blk_cell BK293.out 1).trans rfl
                have hfz66_0 := blk_frozen BK293.out 0
                have hfz66_1 := blk_frozen BK293.out 1
                go_wp2_with (first | (go_at_call 15; (with_reducible refine (impl_Leaves.calls kj32 _ _ t278 _ _ t281 _ _ t284 t287 t288 _ _ t289 _ _ t295 t309 _ ?side1 ?side2 ?side3 ?side4 ?side5 ?side6 ?side7 ?side8 ?side9 ?side10 A43.out).mono ?_); (case side1 => repeat (first | exact (Kd.R_reads' HO_293000.out).2.2 | (with_reducible refine Kd.C_alloc ?_ _) | (with_reducible refine Kd.C_drewN ?_ _) | (with_reducible refine Kd.C_drew ?_))); (case side2 => exact (Kd.R_reads' HO_293000.out).2.1); (case side3 => repeat (first | exact (Kd.R_reads' HO_293001.out).2.2 | (with_reducible refine Kd.C_alloc ?_ _) | (with_reducible refine Kd.C_drewN ?_ _) | (with_reducible refine Kd.C_drew ?_))); (case side4 => exact (Kd.R_reads' HO_293001.out).2.1); (case side5 => repeat (first | exact (Kd.R_reads' HO_293002.out).2.2 | (with_reducible refine Kd.C_alloc ?_ _) | (with_reducible refine Kd.C_drewN ?_ _) | (with_reducible refine Kd.C_drew ?_))); (case side6 => exact (Kd.R_reads' HO_293002.out).2.1); (case side7 => repeat (first | exact (Kd.R_reads' HO_5.out).2.2 | (with_reducible refine Kd.C_alloc ?_ _) | (with_reducible refine Kd.C_drewN ?_ _) | (with_reducible refine Kd.C_drew ?_))); (case side8 => exact (Kd.R_reads' HO_5.out).2.1); (case side9 => repeat (first | exact (Kd.R_reads' HO_7.out).2.2 | (with_reducible refine Kd.C_alloc ?_ _) | (with_reducible refine Kd.C_drewN ?_ _) | (with_reducible refine Kd.C_drew ?_))); (case side10 => exact (Kd.R_reads' HO_7.out).2.1); rintro e w67 ⟨rfl, hb⟩; have n0_ := Aside0.mk (Kd.R_below (by exact HO_5.out) hb); have n1_ := Aside0.mk (Kd.R_below (by exact HO_7.out) hb); have n2_ := Aside0.mk (Kd.R_below (by exact HO_293000.out) hb); have n3_ := Aside0.mk (Kd.R_below (by exact HO_293001.out) hb); have n4_ := Aside0.mk (Kd.R_below (by exact HO_293002.out) hb); have n5_ := Aside0.mk (blk_below (g := gb292) (o := .cells #[.slice Ao12 t278.length co12, .slice Ao15 t281.length co15, .slice Ao16 t284.length co16] 33 (0, 0)) (by exact BK292.out) hb); have n6_ := Aside0.mk (blk_below (g := gb293) (o := .cells #[.int .i64 t287, .int .i64 t288] 35 (0, 0)) (by exact BK293.out) hb); have n7_ := Aside0.mk (below_step (by exact HB.out) hb); clear HO_5; clear HO_7; clear HO_293000; clear HO_293001; clear HO_293002; clear BK292; clear BK293; clear HB; have HO_5 := n0_; have HO_7 := n1_; have HO_293000 := n2_; have HO_293001 := n3_; have HO_293002 := n4_; have BK292 := n5_; have BK293 := n6_; have HB := n7_; clear n0_ n1_ n2_ n3_ n4_ n5_ n6_ n7_; (try clear hb); (try clear hb2); (try clear hk); (try clear hi)))
                go_ret
                exact ⟨by first | rfl | (simp [errW_none, errW_some] <;> rfl) | (simp [*, errW_none, errW_some] <;> rfl), by repeat (first | (with_reducible first | exact HB.out | apply below_alloc | apply pw_below_drewN | apply below_drew1) | exact HB.out)⟩
              ·rw [if_neg c42] at H
               have c42b0 : decide (0 < (t295.length : Int)) = false := decide_eq_false c42
               have c42b1 : decide (0 < t295.length) = false := decide_eq_false (by omega)
               clear c42
               obtain ⟨y317, hy317⟩ : ∃ y_ : List (S62), y_ = (([(⟨(t289.length : Int), 1⟩ : S62)] : List (S62))) := ⟨_, rfl⟩
               replace H : ((impl_Burnt.f kj32 t289 y317).bind fun bt320 => (if bt320.2 = 0 then (some ((bt320.1.length : Int) == (t289.length : Int))) else (some false))) = some r := by first | (rw [hy317]; with_reducible exact H) | (have H2_ := (Option.bind_some _ _).symm.trans H; rw [hy317]; with_reducible exact H2_) | (have H2_ := (Option.bind_some _ _).symm.trans H; with_reducible exact H2_) | with_reducible exact H | (rw [hy317]; exact H) | exact H
               have Ny317 := Aside0.mk hy317
               clear hy317
               replace H := Option.bind_eq_some_iff.mp H
               obtain ⟨⟨t320, t321⟩, A680, H⟩ := H
               replace H : (if t321 = 0 then (some ((t320.length : Int) == (t289.length : Int))) else (some false)) = some r := H
               have A68 := Aside0.mk A680
               clear A680
               by_cases c69 : t321 = 0
               ·rw [if_pos c69] at H
                have c69b0 : (t321 == 0) = true := beq_iff_eq.mpr c69
                have c69b1 : (t321 != 0) = false := bne_eq_false_iff_eq.mpr c69
                clear c69
                obtain rfl := Option.some.inj H
                go_wp2_with (first | ((with_reducible refine gate_dst (N := 140) rfl ?_); (try (refine gate_guard (by rfl) ?_; dsimp only)); refine Kd.R_lit k62 _ 62 ?hg (N := 140) ?hd (xs := ([(⟨(t289.length : Int), 1⟩ : S62)] : List (S62))) (inner := [.int .i64 (t289.length : Int), .int .i64 1]) (ok := fun _ => True) (okp := fun _ => True) ?hr ?hp (fun _ hk => hk) trivial (Below.refl _ _) (Nat.le_refl _) (by simp) ?_; (case hd => rfl); (case hg => rfl); (case hr => first | (go_simp; done) | (go_simp; rfl)); (case hp => exact (Reps.c2 (show Kd.M k62 _ _ _ (⟨(t289.length : Int), 1⟩ : S62) [.int .i64 (t289.length : Int), .int .i64 1] from (k62_mkM _ _ _ (⟨(t289.length : Int), 1⟩ : S62) )) (Reps.none _ _))); intro v318 w70 ho71 hb hg_ hnew_; clear hg_ hnew_; (first | rw [← Ny317.out] at ho71 | (simp only [Int.reduceToNat] at ho71; rw [← Ny317.out] at ho71)); have n0_ := Aside0.mk (Kd.R_below (by exact HO_5.out) hb); have n1_ := Aside0.mk (Kd.R_elder' (by exact HO_7.out) (Kd.R_base ho71) hb); have n2_ := Aside0.mk (Kd.R_below (by exact HO_293000.out) hb); have n3_ := Aside0.mk (Kd.R_below (by exact HO_293001.out) hb); have n4_ := Aside0.mk (Kd.R_below (by exact HO_293002.out) hb); have n5_ := Aside0.mk (Kd.R_lower (Kd.R_new' ho71 (Kd.R_lt (by exact HO_7.out))) (below_size (by exact HB.out))); have n6_ := Aside0.mk (blk_below (g := gb292) (o := .cells #[.slice Ao12 t278.length co12, .slice Ao15 t281.length co15, .slice Ao16 t284.length co16] 33 (0, 0)) (by exact BK292.out) hb); have n7_ := Aside0.mk (below_step (by exact HB.out) hb); clear HO_5; clear HO_7; clear HO_293000; clear HO_293001; clear HO_293002; clear BK292; clear HB; have HO_5 := n0_; have HO_7 := n1_; have HO_293000 := n2_; have HO_293001 := n3_; have HO_293002 := n4_; have HO319 := n5_; have BK292 := n6_; have HB := n7_; clear n0_ n1_ n2_ n3_ n4_ n5_ n6_ n7_; clear hb ho71; obtain ⟨Ao72, co72, eo72⟩ := Kd.R_slice HO319.out; subst eo72) | ((with_reducible refine gate_callee (f := 26) rfl ?_); refine goesL_ (some 141) rfl rfl Try.func26 (by kernel_rfl) rfl #[.slice Ao18 t289.length co18, .slice Ao72 y317.length co72] rfl (by (try simp only [List.map_toArray, List.map_cons, List.map_nil]); first | done | rfl | (simp only [List.length_drop, List.length_take]; rfl)) ?_; (with_reducible refine (impl_Burnt.calls kj32 _ _ t289 _ _ y317 t320 t321 _ ?side1 ?side2 ?side3 ?side4 A68.out).mono ?_); (case side1 => repeat (first | exact (Kd.R_reads' HO_5.out).2.2 | (with_reducible refine Kd.C_alloc ?_ _) | (with_reducible refine Kd.C_drewN ?_ _) | (with_reducible refine Kd.C_drew ?_))); (case side2 => exact (Kd.R_reads' HO_5.out).2.1); (case side3 => repeat (first | exact (Kd.R_reads' HO319.out).2.2 | (with_reducible refine Kd.C_alloc ?_ _) | (with_reducible refine Kd.C_drewN ?_ _) | (with_reducible refine Kd.C_drew ?_))); (case side4 => exact (Kd.R_reads' HO319.out).2.1); rintro e w73 ⟨v322, rfl, ho0, hb⟩; refine ⟨_, rfl, ?_⟩; have n0_ := Aside0.mk (Kd.R_elder' (by exact HO_5.out) (Kd.R_base ho0) hb); have n1_ := Aside0.mk (Kd.R_below (by exact HO_7.out) hb); have n2_ := Aside0.mk (Kd.R_below (by exact HO_293000.out) hb); have n3_ := Aside0.mk (Kd.R_below (by exact HO_293001.out) hb); have n4_ := Aside0.mk (Kd.R_below (by exact HO_293002.out) hb); have n5_ := Aside0.mk (Kd.R_below (by exact HO319.out) hb); have n6_ := Aside0.mk (Kd.R_lower (Kd.R_new' ho0 (Kd.R_lt (by exact HO_5.out))) (below_size (by exact HB.out))); have n7_ := Aside0.mk (blk_below (g := gb292) (o := .cells #[.slice Ao12 t278.length co12, .slice Ao15 t281.length co15, .slice Ao16 t284.length co16] 33 (0, 0)) (by exact BK292.out) hb); have n8_ := Aside0.mk (below_step (by exact HB.out) hb); clear HO_5; clear HO_7; clear HO_293000; clear HO_293001; clear HO_293002; clear HO319; clear BK292; clear HB; have HO_5 := n0_; have HO_7 := n1_; have HO_293000 := n2_; have HO_293001 := n3_; have HO_293002 := n4_; have HO319 := n5_; have HO323 := n6_; have BK292 := n7_; have HB := n8_; clear n0_ n1_ n2_ n3_ n4_ n5_ n6_ n7_ n8_; (try clear hb); (try clear hb2); (try clear hk); (try clear hi); (try clear ho0); obtain ⟨Ao74, co74, eo74⟩ := Kd.R_slice HO323.out; subst eo74))
                go_ret
                exact ⟨by first | rfl | (simp [errW_none, errW_some] <;> rfl) | (simp [*, errW_none, errW_some] <;> rfl), by repeat (first | (with_reducible first | exact HB.out | apply below_alloc | apply pw_below_drewN | apply below_drew1) | exact HB.out)⟩
               ·rw [if_neg c69] at H
                have c69b0 : (t321 == 0) = false := beq_eq_false_iff_ne.mpr c69
                have c69b1 : (t321 != 0) = true := bne_iff_ne.mpr c69
                obtain rfl := Option.some.inj H
                go_wp2_with (first | ((with_reducible refine gate_dst (N := 140) rfl ?_); (try (refine gate_guard (by rfl) ?_; dsimp only)); refine Kd.R_lit k62 _ 62 ?hg (N := 140) ?hd (xs := ([(⟨(t289.length : Int), 1⟩ : S62)] : List (S62))) (inner := [.int .i64 (t289.length : Int), .int .i64 1]) (ok := fun _ => True) (okp := fun _ => True) ?hr ?hp (fun _ hk => hk) trivial (Below.refl _ _) (Nat.le_refl _) (by simp) ?_; (case hd => rfl); (case hg => rfl); (case hr => first | (go_simp; done) | (go_simp; rfl)); (case hp => exact (Reps.c2 (show Kd.M k62 _ _ _ (⟨(t289.length : Int), 1⟩ : S62) [.int .i64 (t289.length : Int), .int .i64 1] from (k62_mkM _ _ _ (⟨(t289.length : Int), 1⟩ : S62) )) (Reps.none _ _))); intro v318 w75 ho76 hb hg_ hnew_; clear hg_ hnew_; (first | rw [← Ny317.out] at ho76 | (simp only [Int.reduceToNat] at ho76; rw [← Ny317.out] at ho76)); have n0_ := Aside0.mk (Kd.R_below (by exact HO_5.out) hb); have n1_ := Aside0.mk (Kd.R_elder' (by exact HO_7.out) (Kd.R_base ho76) hb); have n2_ := Aside0.mk (Kd.R_below (by exact HO_293000.out) hb); have n3_ := Aside0.mk (Kd.R_below (by exact HO_293001.out) hb); have n4_ := Aside0.mk (Kd.R_below (by exact HO_293002.out) hb); have n5_ := Aside0.mk (Kd.R_lower (Kd.R_new' ho76 (Kd.R_lt (by exact HO_7.out))) (below_size (by exact HB.out))); have n6_ := Aside0.mk (blk_below (g := gb292) (o := .cells #[.slice Ao12 t278.length co12, .slice Ao15 t281.length co15, .slice Ao16 t284.length co16] 33 (0, 0)) (by exact BK292.out) hb); have n7_ := Aside0.mk (below_step (by exact HB.out) hb); clear HO_5; clear HO_7; clear HO_293000; clear HO_293001; clear HO_293002; clear BK292; clear HB; have HO_5 := n0_; have HO_7 := n1_; have HO_293000 := n2_; have HO_293001 := n3_; have HO_293002 := n4_; have HO319 := n5_; have BK292 := n6_; have HB := n7_; clear n0_ n1_ n2_ n3_ n4_ n5_ n6_ n7_; clear hb ho76; obtain ⟨Ao77, co77, eo77⟩ := Kd.R_slice HO319.out; subst eo77) | ((with_reducible refine gate_callee (f := 26) rfl ?_); refine goesL_ (some 141) rfl rfl Try.func26 (by kernel_rfl) rfl #[.slice Ao18 t289.length co18, .slice Ao77 y317.length co77] rfl (by (try simp only [List.map_toArray, List.map_cons, List.map_nil]); first | done | rfl | (simp only [List.length_drop, List.length_take]; rfl)) ?_; (with_reducible refine (impl_Burnt.calls kj32 _ _ t289 _ _ y317 t320 t321 _ ?side1 ?side2 ?side3 ?side4 A68.out).mono ?_); (case side1 => repeat (first | exact (Kd.R_reads' HO_5.out).2.2 | (with_reducible refine Kd.C_alloc ?_ _) | (with_reducible refine Kd.C_drewN ?_ _) | (with_reducible refine Kd.C_drew ?_))); (case side2 => exact (Kd.R_reads' HO_5.out).2.1); (case side3 => repeat (first | exact (Kd.R_reads' HO319.out).2.2 | (with_reducible refine Kd.C_alloc ?_ _) | (with_reducible refine Kd.C_drewN ?_ _) | (with_reducible refine Kd.C_drew ?_))); (case side4 => exact (Kd.R_reads' HO319.out).2.1); rintro e w78 ⟨v322, rfl, ho0, hb⟩; refine ⟨_, rfl, ?_⟩; have n0_ := Aside0.mk (Kd.R_elder' (by exact HO_5.out) (Kd.R_base ho0) hb); have n1_ := Aside0.mk (Kd.R_below (by exact HO_7.out) hb); have n2_ := Aside0.mk (Kd.R_below (by exact HO_293000.out) hb); have n3_ := Aside0.mk (Kd.R_below (by exact HO_293001.out) hb); have n4_ := Aside0.mk (Kd.R_below (by exact HO_293002.out) hb); have n5_ := Aside0.mk (Kd.R_below (by exact HO319.out) hb); have n6_ := Aside0.mk (Kd.R_lower (Kd.R_new' ho0 (Kd.R_lt (by exact HO_5.out))) (below_size (by exact HB.out))); have n7_ := Aside0.mk (blk_below (g := gb292) (o := .cells #[.slice Ao12 t278.length co12, .slice Ao15 t281.length co15, .slice Ao16 t284.length co16] 33 (0, 0)) (by exact BK292.out) hb); have n8_ := Aside0.mk (below_step (by exact HB.out) hb); clear HO_5; clear HO_7; clear HO_293000; clear HO_293001; clear HO_293002; clear HO319; clear BK292; clear HB; have HO_5 := n0_; have HO_7 := n1_; have HO_293000 := n2_; have HO_293001 := n3_; have HO_293002 := n4_; have HO319 := n5_; have HO323 := n6_; have BK292 := n7_; have HB := n8_; clear n0_ n1_ n2_ n3_ n4_ n5_ n6_ n7_ n8_; (try clear hb); (try clear hb2); (try clear hk); (try clear hi); (try clear ho0)))
                go_ret
                exact ⟨by first | rfl | (simp [errW_none, errW_some] <;> rfl) | (simp [*, errW_none, errW_some] <;> rfl), by repeat (first | (with_reducible first | exact HB.out | apply below_alloc | apply pw_below_drewN | apply below_drew1) | exact HB.out)⟩

/-- THE ONE PURE STATEMENT of laws_FnBurnt: yours. -/
def laws_FnBurnt.Pure : Prop := ∀ (l0 : List Int), l0.length ≤ maxLen → l0.length * 1 ≤ 140737488351232 → (∀ x ∈ l0, (Lit.int .u8 x).wf = true) → ∃ k, laws_FnBurnt.f k l0 = some true
theorem laws_FnBurnt.walk (P : laws_FnBurnt.Pure) (a0 : Option Addr) (len0 cap0 : Nat) (z0 : List Int) (w : World) (w0 : (a0 = none ∧ len0 = 0 ∧ cap0 = 0 ∧ z0 = []) ∨ ∃ x, a0 = some x ∧ len0 ≤ cap0 ∧ cap0 ≤ maxLen ∧ z0.length = cap0 ∧ (∀ i, i < z0.length → w.cell? (x.add i) = some (.int .u8 (z0.getD i 0))) ∧ ∀ n ∈ z0, (Lit.int .u8 n).wf = true) (y0 : len0 * 1 ≤ 140737488351232) :
  Calls Try.prog 6 #[.slice a0 len0 cap0] w fun e w' => e = .returned (.bool true) ∧ Below w.heap.size w w' := by
 obtain ⟨l0, rfl, hr0, hm0, hw0, hc0⟩ := ReadsInt.ofRowC w0
 obtain ⟨k, h⟩ := P l0 hm0 y0 hw0
 refine (laws_FnBurnt.calls k _ _ l0 true w (Kd.C_of_reads (d := (0 : Int)) (h1 := fun _ => rfl) hr0) hc0 h).mono ?_
 rintro e w' ⟨rfl, hd⟩
 exact ⟨rfl, hd⟩

end Go.Proofs.Yteedbciobdcmaaa.QFnBurnt
