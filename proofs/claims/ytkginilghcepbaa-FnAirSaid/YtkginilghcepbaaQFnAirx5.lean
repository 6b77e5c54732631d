/- Lean functions that tell what the Go functions used by one law answer, and for each a proof that the Go code comes to just these answers; no condition. Printed by this session's own program over the kit's printer. -/
import Derived.Test.YtkginilghcepbaaWSq
import Derived.Test.YtkginilghcepbaaQFnAirx0
import Derived.Test.YtkginilghcepbaaQFnAirx1
import Derived.Test.YtkginilghcepbaaQFnAirx3
import Derived.Test.YtkginilghcepbaaQFnAirx4
namespace Go.Proofs.Ytkginilghcepbaa.QFnAir
open Go.RowKit Go.Proofs.YtkginilghcepbaaW.PrintWords Go.Proofs.YtkginilghcepbaaW.PrintLast Go.Proofs.YtkginilghcepbaaW.PrintMore
attribute [local go_sem] max2_int min2_int max_two min_two max_three min_three max_four min_four   -- for this text's walks alone
attribute [local go_sem high] go_eql go_neq go_lss go_leq go_gtr go_geq go_store   -- for this text's walks alone
set_option linter.unusedVariables false
set_option linter.unusedSimpArgs false

/-! ### laws_FnAir: function 9 -/
mutual
def laws_FnAir.j0 : Nat → Int → Int → Int → Bool → Int → List Int → List Int → Option (Bool)
 | 0, _, _, _, _, _, _, _ => none
 | k + 1, x4, x5, x7, L3, b5, b4, b6 => if L3 = true then (some false) else (laws_FnAir.l0 k x4 x5 x7 0 b5 b4 b6)
def laws_FnAir.l0 : Nat → Int → Int → Int → Int → Int → List Int → List Int → Option (Bool)
 | 0, _, _, _, _, _, _, _ => none
 | k + 1, x4, x5, x7, h5, b5, b4, b6 => if h5 ≤ 40 then (laws_FnAir.j2 k x4 x5 x7 h5 (decide (h5 ≤ x7)) b5 b4 b6) else (laws_FnAir.j2 k x4 x5 x7 h5 false b5 b4 b6)
def laws_FnAir.j2 : Nat → Int → Int → Int → Int → Bool → Int → List Int → List Int → Option (Bool)
 | 0, _, _, _, _, _, _, _, _ => none
 | k + 1, x4, x5, x7, h5, L4, b5, b4, b6 => if L4 = true then ((impl_Warm.f k b5 b4 b6 h5).bind fun d7 => (if d7.2 = true then (if d7.1 < x5 then (laws_FnAir.j3 k x4 x5 x7 h5 d7.1 true b5 b4 b6) else (if h5 < x4 then (laws_FnAir.j3 k x4 x5 x7 h5 d7.1 (d7.1 == x5) b5 b4 b6) else (laws_FnAir.j3 k x4 x5 x7 h5 d7.1 false b5 b4 b6))) else (laws_FnAir.j3 k x4 x5 x7 h5 d7.1 true b5 b4 b6))) else ((impl_Warm.f k b5 b4 b6 (wrap64 (x7 + 1))).bind fun o6 => (some (!o6.2)))
def laws_FnAir.j3 : Nat → Int → Int → Int → Int → Int → Bool → Int → List Int → List Int → Option (Bool)
 | 0, _, _, _, _, _, _, _, _, _ => none
 | k + 1, x4, x5, x7, h5, L5, I3, b5, b4, b6 => if I3 = true then (some false) else ((impl_Warm.f k b5 b4 b6 (wrap64 (h5 + 1))).bind fun n0 => (if n0.2 = true then ((laws_within.f k b4 (wrap64 (n0.1 - L5))).bind fun m6 => (laws_FnAir.j4 k x4 x5 x7 h5 (!m6) b5 b4 b6)) else (laws_FnAir.j4 k x4 x5 x7 h5 false b5 b4 b6)))
def laws_FnAir.j4 : Nat → Int → Int → Int → Int → Bool → Int → List Int → List Int → Option (Bool)
 | 0, _, _, _, _, _, _, _, _ => none
 | k + 1, x4, x5, x7, h5, I4, b5, b4, b6 => if I4 = true then (some false) else (laws_FnAir.l0 k x4 x5 x7 (wrap64 (h5 + 1)) b5 b4 b6)
end
def laws_FnAir.f (k : Nat) (l0 : List Int) : Option (Bool) := (laws_big.f l0).bind fun l9 => (if l9 = true then (some true) else ((spec_DrawAirOk.f k l0).bind fun a2 => ((impl_Coldest.f k a2.1 a2.2.1 a2.2.2).bind fun b3 => ((spec_AirOk.f k a2.1 a2.2.1 a2.2.2).bind fun m0 => (if m0 = true then (if 0 ≤ (wrap64 ((a2.2.2.length : Int) - 1)) then (if (wrap64 ((a2.2.2.length : Int) - 1)) < (a2.2.2.length : Int) then ((impl_Warm.f k a2.1 a2.2.1 a2.2.2 b3.1).bind fun d3 => (if b3.2.2 = true then (if d3.2 = true then (if d3.1 = b3.2.1 then (if b3.1 < 0 then (laws_FnAir.j0 k b3.1 b3.2.1 (rd a2.2.2 (wrap64 ((a2.2.2.length : Int) - 1))) true a2.1 a2.2.1 a2.2.2) else (laws_FnAir.j0 k b3.1 b3.2.1 (rd a2.2.2 (wrap64 ((a2.2.2.length : Int) - 1))) (decide (b3.1 > (rd a2.2.2 (wrap64 ((a2.2.2.length : Int) - 1))))) a2.1 a2.2.1 a2.2.2)) else (laws_FnAir.j0 k b3.1 b3.2.1 (rd a2.2.2 (wrap64 ((a2.2.2.length : Int) - 1))) true a2.1 a2.2.1 a2.2.2)) else (laws_FnAir.j0 k b3.1 b3.2.1 (rd a2.2.2 (wrap64 ((a2.2.2.length : Int) - 1))) true a2.1 a2.2.1 a2.2.2)) else (laws_FnAir.j0 k b3.1 b3.2.1 (rd a2.2.2 (wrap64 ((a2.2.2.length : Int) - 1))) true a2.1 a2.2.1 a2.2.2))) else (none)) else (none)) else (if b3.2.2 = true then (some false) else (if b3.1 = 0 then (if b3.2.1 = 0 then ((impl_AirOk.f k a2.1 a2.2.1 a2.2.2).bind fun m1 => (some (!m1))) else (some false)) else (some false))))))))
theorem laws_FnAir.mono_l : ∀ k, (∀ y0 y1 y2 y3 y4 y5 y6, LeO (laws_FnAir.j0 k y0 y1 y2 y3 y4 y5 y6) (laws_FnAir.j0 (k + 1) y0 y1 y2 y3 y4 y5 y6)) ∧ (∀ y0 y1 y2 y3 y4 y5 y6, LeO (laws_FnAir.l0 k y0 y1 y2 y3 y4 y5 y6) (laws_FnAir.l0 (k + 1) y0 y1 y2 y3 y4 y5 y6)) ∧ (∀ y0 y1 y2 y3 y4 y5 y6 y7, LeO (laws_FnAir.j2 k y0 y1 y2 y3 y4 y5 y6 y7) (laws_FnAir.j2 (k + 1) y0 y1 y2 y3 y4 y5 y6 y7)) ∧ (∀ y0 y1 y2 y3 y4 y5 y6 y7 y8, LeO (laws_FnAir.j3 k y0 y1 y2 y3 y4 y5 y6 y7 y8) (laws_FnAir.j3 (k + 1) y0 y1 y2 y3 y4 y5 y6 y7 y8)) ∧ (∀ y0 y1 y2 y3 y4 y5 y6 y7, LeO (laws_FnAir.j4 k y0 y1 y2 y3 y4 y5 y6 y7) (laws_FnAir.j4 (k + 1) y0 y1 y2 y3 y4 y5 y6 y7))
 | 0 => ⟨fun _ _ _ _ _ _ _ r h => by simp [laws_FnAir.j0] at h, fun _ _ _ _ _ _ _ r h => by simp [laws_FnAir.l0] at h, fun _ _ _ _ _ _ _ _ r h => by simp [laws_FnAir.j2] at h, fun _ _ _ _ _ _ _ _ _ r h => by simp [laws_FnAir.j3] at h, fun _ _ _ _ _ _ _ _ r h => by simp [laws_FnAir.j4] at h⟩
 | k + 1 => by
  obtain ⟨l3, l4, l5, l6, l7⟩ := laws_FnAir.mono_l k
  refine ⟨?_, ?_, ?_, ?_, ?_⟩
  ·intro y0 y1 y2 y3 y4 y5 y6
   unfold laws_FnAir.j0
   repeat' first
   | (with_reducible exact l3 _ _ _ _ _ _ _)
   | (with_reducible exact l4 _ _ _ _ _ _ _)
   | (with_reducible exact l5 _ _ _ _ _ _ _ _)
   | (with_reducible exact l6 _ _ _ _ _ _ _ _ _)
   | (with_reducible exact l7 _ _ _ _ _ _ _ _)
   | (with_reducible exact impl_AirOk.mono _ _ _ _)
   | (with_reducible exact impl_Coldest.mono _ _ _ _)
   | (with_reducible exact impl_Warm.mono _ _ _ _ _)
   | (with_reducible exact laws_within.mono _ _ _)
   | (with_reducible exact spec_AirOk.mono _ _ _ _)
   | (with_reducible exact spec_DrawAirOk.mono _ _)
   | (with_reducible exact LeO.refl _)
   | (with_reducible exact LeO.none _)
   | (with_reducible refine LeO.ite ?_ ?_)
   | (with_reducible refine LeO.bind ?_ (fun _ => ?_))
   | exact l3 _ _ _ _ _ _ _
   | exact l4 _ _ _ _ _ _ _
   | exact l5 _ _ _ _ _ _ _ _
   | exact l6 _ _ _ _ _ _ _ _ _
   | exact l7 _ _ _ _ _ _ _ _
   | exact impl_AirOk.mono _ _ _ _
   | exact impl_Coldest.mono _ _ _ _
   | exact impl_Warm.mono _ _ _ _ _
   | exact laws_within.mono _ _ _
   | exact spec_AirOk.mono _ _ _ _
   | exact spec_DrawAirOk.mono _ _
   | exact LeO.none _
   | refine LeO.ite ?_ ?_
   | refine LeO.bind ?_ (fun _ => ?_)
  ·intro y0 y1 y2 y3 y4 y5 y6
   unfold laws_FnAir.l0
   repeat' first
   | (with_reducible exact l3 _ _ _ _ _ _ _)
   | (with_reducible exact l4 _ _ _ _ _ _ _)
   | (with_reducible exact l5 _ _ _ _ _ _ _ _)
   | (with_reducible exact l6 _ _ _ _ _ _ _ _ _)
   | (with_reducible exact l7 _ _ _ _ _ _ _ _)
   | (with_reducible exact impl_AirOk.mono _ _ _ _)
   | (with_reducible exact impl_Coldest.mono _ _ _ _)
   | (with_reducible exact impl_Warm.mono _ _ _ _ _)
   | (with_reducible exact laws_within.mono _ _ _)
   | (with_reducible exact spec_AirOk.mono _ _ _ _)
   | (with_reducible exact spec_DrawAirOk.mono _ _)
   | (with_reducible exact LeO.refl _)
   | (with_reducible exact LeO.none _)
   | (with_reducible refine LeO.ite ?_ ?_)
   | (with_reducible refine LeO.bind ?_ (fun _ => ?_))
   | exact l3 _ _ _ _ _ _ _
   | exact l4 _ _ _ _ _ _ _
   | exact l5 _ _ _ _ _ _ _ _
   | exact l6 _ _ _ _ _ _ _ _ _
   | exact l7 _ _ _ _ _ _ _ _
   | exact impl_AirOk.mono _ _ _ _
   | exact impl_Coldest.mono _ _ _ _
   | exact impl_Warm.mono _ _ _ _ _
   | exact laws_within.mono _ _ _
   | exact spec_AirOk.mono _ _ _ _
   | exact spec_DrawAirOk.mono _ _
   | exact LeO.none _
   | refine LeO.ite ?_ ?_
   | refine LeO.bind ?_ (fun _ => ?_)
  ·intro y0 y1 y2 y3 y4 y5 y6 y7
   unfold laws_FnAir.j2
   repeat' first
   | (with_reducible exact l3 _ _ _ _ _ _ _)
   | (with_reducible exact l4 _ _ _ _ _ _ _)
   | (with_reducible exact l5 _ _ _ _ _ _ _ _)
   | (with_reducible exact l6 _ _ _ _ _ _ _ _ _)
   | (with_reducible exact l7 _ _ _ _ _ _ _ _)
   | (with_reducible exact impl_AirOk.mono _ _ _ _)
   | (with_reducible exact impl_Coldest.mono _ _ _ _)
   | (with_reducible exact impl_Warm.mono _ _ _ _ _)
   | (with_reducible exact laws_within.mono _ _ _)
   | (with_reducible exact spec_AirOk.mono _ _ _ _)
   | (with_reducible exact spec_DrawAirOk.mono _ _)
   | (with_reducible exact LeO.refl _)
   | (with_reducible exact LeO.none _)
   | (with_reducible refine LeO.ite ?_ ?_)
   | (with_reducible refine LeO.bind ?_ (fun _ => ?_))
   | exact l3 _ _ _ _ _ _ _
   | exact l4 _ _ _ _ _ _ _
   | exact l5 _ _ _ _ _ _ _ _
   | exact l6 _ _ _ _ _ _ _ _ _
   | exact l7 _ _ _ _ _ _ _ _
   | exact impl_AirOk.mono _ _ _ _
   | exact impl_Coldest.mono _ _ _ _
   | exact impl_Warm.mono _ _ _ _ _
   | exact laws_within.mono _ _ _
   | exact spec_AirOk.mono _ _ _ _
   | exact spec_DrawAirOk.mono _ _
   | exact LeO.none _
   | refine LeO.ite ?_ ?_
   | refine LeO.bind ?_ (fun _ => ?_)
  ·intro y0 y1 y2 y3 y4 y5 y6 y7 y8
   unfold laws_FnAir.j3
   repeat' first
   | (with_reducible exact l3 _ _ _ _ _ _ _)
   | (with_reducible exact l4 _ _ _ _ _ _ _)
   | (with_reducible exact l5 _ _ _ _ _ _ _ _)
   | (with_reducible exact l6 _ _ _ _ _ _ _ _ _)
   | (with_reducible exact l7 _ _ _ _ _ _ _ _)
   | (with_reducible exact impl_AirOk.mono _ _ _ _)
   | (with_reducible exact impl_Coldest.mono _ _ _ _)
   | (with_reducible exact impl_Warm.mono _ _ _ _ _)
   | (with_reducible exact laws_within.mono _ _ _)
   | (with_reducible exact spec_AirOk.mono _ _ _ _)
   | (with_reducible exact spec_DrawAirOk.mono _ _)
   | (with_reducible exact LeO.refl _)
   | (with_reducible exact LeO.none _)
   | (with_reducible refine LeO.ite ?_ ?_)
   | (with_reducible refine LeO.bind ?_ (fun _ => ?_))
   | exact l3 _ _ _ _ _ _ _
   | exact l4 _ _ _ _ _ _ _
   | exact l5 _ _ _ _ _ _ _ _
   | exact l6 _ _ _ _ _ _ _ _ _
   | exact l7 _ _ _ _ _ _ _ _
   | exact impl_AirOk.mono _ _ _ _
   | exact impl_Coldest.mono _ _ _ _
   | exact impl_Warm.mono _ _ _ _ _
   | exact laws_within.mono _ _ _
   | exact spec_AirOk.mono _ _ _ _
   | exact spec_DrawAirOk.mono _ _
   | exact LeO.none _
   | refine LeO.ite ?_ ?_
   | refine LeO.bind ?_ (fun _ => ?_)
  ·intro y0 y1 y2 y3 y4 y5 y6 y7
   unfold laws_FnAir.j4
   repeat' first
   | (with_reducible exact l3 _ _ _ _ _ _ _)
   | (with_reducible exact l4 _ _ _ _ _ _ _)
   | (with_reducible exact l5 _ _ _ _ _ _ _ _)
   | (with_reducible exact l6 _ _ _ _ _ _ _ _ _)
   | (with_reducible exact l7 _ _ _ _ _ _ _ _)
   | (with_reducible exact impl_AirOk.mono _ _ _ _)
   | (with_reducible exact impl_Coldest.mono _ _ _ _)
   | (with_reducible exact impl_Warm.mono _ _ _ _ _)
   | (with_reducible exact laws_within.mono _ _ _)
   | (with_reducible exact spec_AirOk.mono _ _ _ _)
   | (with_reducible exact spec_DrawAirOk.mono _ _)
   | (with_reducible exact LeO.refl _)
   | (with_reducible exact LeO.none _)
   | (with_reducible refine LeO.ite ?_ ?_)
   | (with_reducible refine LeO.bind ?_ (fun _ => ?_))
   | exact l3 _ _ _ _ _ _ _
   | exact l4 _ _ _ _ _ _ _
   | exact l5 _ _ _ _ _ _ _ _
   | exact l6 _ _ _ _ _ _ _ _ _
   | exact l7 _ _ _ _ _ _ _ _
   | exact impl_AirOk.mono _ _ _ _
   | exact impl_Coldest.mono _ _ _ _
   | exact impl_Warm.mono _ _ _ _ _
   | exact laws_within.mono _ _ _
   | exact spec_AirOk.mono _ _ _ _
   | exact spec_DrawAirOk.mono _ _
   | exact LeO.none _
   | refine LeO.ite ?_ ?_
   | refine LeO.bind ?_ (fun _ => ?_)
theorem laws_FnAir.mono : ∀ a0 k, LeO (laws_FnAir.f k a0) (laws_FnAir.f (k + 1) a0) := by
 intro a0 k
 obtain ⟨l3, l4, l5, l6, l7⟩ := laws_FnAir.mono_l k
 unfold laws_FnAir.f
 repeat' first
   | (with_reducible exact l3 _ _ _ _ _ _ _)
   | (with_reducible exact l4 _ _ _ _ _ _ _)
   | (with_reducible exact l5 _ _ _ _ _ _ _ _)
   | (with_reducible exact l6 _ _ _ _ _ _ _ _ _)
   | (with_reducible exact l7 _ _ _ _ _ _ _ _)
   | (with_reducible exact impl_AirOk.mono _ _ _ _)
   | (with_reducible exact impl_Coldest.mono _ _ _ _)
   | (with_reducible exact impl_Warm.mono _ _ _ _ _)
   | (with_reducible exact laws_within.mono _ _ _)
   | (with_reducible exact spec_AirOk.mono _ _ _ _)
   | (with_reducible exact spec_DrawAirOk.mono _ _)
   | (with_reducible exact LeO.refl _)
   | (with_reducible exact LeO.none _)
   | (with_reducible refine LeO.ite ?_ ?_)
   | (with_reducible refine LeO.bind ?_ (fun _ => ?_))
   | exact l3 _ _ _ _ _ _ _
   | exact l4 _ _ _ _ _ _ _
   | exact l5 _ _ _ _ _ _ _ _
   | exact l6 _ _ _ _ _ _ _ _ _
   | exact l7 _ _ _ _ _ _ _ _
   | exact impl_AirOk.mono _ _ _ _
   | exact impl_Coldest.mono _ _ _ _
   | exact impl_Warm.mono _ _ _ _ _
   | exact laws_within.mono _ _ _
   | exact spec_AirOk.mono _ _ _ _
   | exact spec_DrawAirOk.mono _ _
   | exact LeO.none _
   | refine LeO.ite ?_ ?_
   | refine LeO.bind ?_ (fun _ => ?_)
set_option maxHeartbeats 8000000 in
set_option maxRecDepth 100000 in
theorem laws_FnAir.calls (k : Nat) (A0 : Option Addr) (c0 : Nat) (l0 : List Int) (r : Bool) (w : World) (hr0 : Kd.C (Kd.int .u8) w A0 l0.length l0) (hc0 : l0.length ≤ c0) (h : laws_FnAir.f k l0 = some r) :
  Calls Try.prog 9 #[.slice A0 l0.length c0] w fun e w' => e = .returned (.bool r) ∧ Below w.heap.size w w' := by
 have L6 := Try.underlying79
 have m2 := mk_ hr0; have m3 := mk_ hc0; clear hr0 hc0; have HB := mk_ (Below.refl w.heap.size w)
 have H : ((laws_big.f l0).bind fun l9 => (if l9 = true then (some true) else ((spec_DrawAirOk.f k l0).bind fun a2 => ((impl_Coldest.f k a2.1 a2.2.1 a2.2.2).bind fun b3 => ((spec_AirOk.f k a2.1 a2.2.1 a2.2.2).bind fun m0 => (if m0 = true then (if 0 ≤ (wrap64 ((a2.2.2.length : Int) - 1)) then (if (wrap64 ((a2.2.2.length : Int) - 1)) < (a2.2.2.length : Int) then ((impl_Warm.f k a2.1 a2.2.1 a2.2.2 b3.1).bind fun d3 => (if b3.2.2 = true then (if d3.2 = true then (if d3.1 = b3.2.1 then (if b3.1 < 0 then (laws_FnAir.j0 k b3.1 b3.2.1 (rd a2.2.2 (wrap64 ((a2.2.2.length : Int) - 1))) true a2.1 a2.2.1 a2.2.2) else (laws_FnAir.j0 k b3.1 b3.2.1 (rd a2.2.2 (wrap64 ((a2.2.2.length : Int) - 1))) (decide (b3.1 > (rd a2.2.2 (wrap64 ((a2.2.2.length : Int) - 1))))) a2.1 a2.2.1 a2.2.2)) else (laws_FnAir.j0 k b3.1 b3.2.1 (rd a2.2.2 (wrap64 ((a2.2.2.length : Int) - 1))) true a2.1 a2.2.1 a2.2.2)) else (laws_FnAir.j0 k b3.1 b3.2.1 (rd a2.2.2 (wrap64 ((a2.2.2.length : Int) - 1))) true a2.1 a2.2.1 a2.2.2)) else (laws_FnAir.j0 k b3.1 b3.2.1 (rd a2.2.2 (wrap64 ((a2.2.2.length : Int) - 1))) true a2.1 a2.2.1 a2.2.2))) else (none)) else (none)) else (if b3.2.2 = true then (some false) else (if b3.1 = 0 then (if b3.2.1 = 0 then ((impl_AirOk.f k a2.1 a2.2.1 a2.2.2).bind fun m1 => (some (!m1))) else (some false)) else (some false))))))))) = some r := h
 clear h; replace H := Option.bind_eq_some_iff.mp H; obtain ⟨l9, J8, H⟩ := H; (try dsimp only at H); have A2 := mk_ J8; clear J8; by_cases c3 : l9 = true
 ·subst c3; rw [if_pos rfl] at H
  obtain rfl := Option.some.inj H
  go_enter Try.func9, Try.ntmps9
  go_wp2_with (first | ((with_reducible refine gc_ 23 rfl ?_); refine gl_ (some 18) rfl Try.func23 #[.slice A0 l0.length c0] ?_; (with_reducible refine (laws_big.calls _ _ l0 true _ ?b1 ?b2 A2.out).mono ?_); (case b1 => exact cw_ m2.out); (case b2 => exact m3.out); rintro e w' ⟨rfl, ⟨nd, rfl⟩⟩; refine ⟨_, rfl, ?_⟩))
  go_ret
  exact ⟨re_, hw_ HB⟩
 ·replace c3 := Bool.eq_false_iff.mpr c3; subst c3; rw [if_neg (show ¬ (false = true) by decide)] at H; replace H := Option.bind_eq_some_iff.mp H; obtain ⟨⟨b0, a7, a3⟩, J9, H⟩ := H; (try dsimp only at H); have A4 := mk_ J9; clear J9; replace H := Option.bind_eq_some_iff.mp H; obtain ⟨⟨b9, c1, m7⟩, L0, H⟩ := H; (try dsimp only at H); have A5 := mk_ L0; clear L0; replace H := Option.bind_eq_some_iff.mp H; obtain ⟨m0, L1, H⟩ := H; (try dsimp only at H); have A6 := mk_ L1; clear L1; by_cases c7 : m0 = true
  ·subst c7; rw [if_pos rfl] at H
   obtain ⟨d4, d0⟩ : ∃ j_ : Int, (wrap64 ((a3.length : Int) - 1)) = j_ := ⟨_, rfl⟩
   replace H : (if 0 ≤ (d4) then (if (d4) < (a3.length : Int) then ((impl_Warm.f k b0 a7 a3 b9).bind fun d3 => (if m7 = true then (if d3.2 = true then (if d3.1 = c1 then (if b9 < 0 then (laws_FnAir.j0 k b9 c1 (rd a3 (d4)) true b0 a7 a3) else (laws_FnAir.j0 k b9 c1 (rd a3 (d4)) (decide (b9 > (rd a3 (d4)))) b0 a7 a3)) else (laws_FnAir.j0 k b9 c1 (rd a3 (d4)) true b0 a7 a3)) else (laws_FnAir.j0 k b9 c1 (rd a3 (d4)) true b0 a7 a3)) else (laws_FnAir.j0 k b9 c1 (rd a3 (d4)) true b0 a7 a3))) else (none)) else (none)) = some r := by first | (rw [d0] at H; exact H) | (simp only [d0] at H ⊢; exact H)
   (try rw [d0] at A2)
   (try rw [d0] at A4)
   (try rw [d0] at A5)
   (try rw [d0] at A6)
   have hji8w : (IntKind.i64.wrap ((a3.length : Int) - 1)) = d4 := (i64_w _).trans d0
   by_cases c9 : 0 ≤ (d4)
   ·rw [if_pos c9] at H; have m4 : decide (0 ≤ (d4)) = true := decide_eq_true c9; clear c9; by_cases m8 : (d4) < (a3.length : Int)
    ·rw [if_pos m8] at H; have L2 : decide ((d4) < (a3.length : Int)) = true := decide_eq_true m8; clear m8; replace H := Option.bind_eq_some_iff.mp H; obtain ⟨⟨l8, o7⟩, o8, H⟩ := H; (try dsimp only at H); have L7 := mk_ o8; clear o8; have n2 := mk_ H; clear H
     go_enter Try.func9, Try.ntmps9
     go_upto_region 9 with (first | ((with_reducible refine gc_ 23 rfl ?_); refine gl_ (some 18) rfl Try.func23 #[.slice A0 l0.length c0] ?_; (with_reducible refine (laws_big.calls _ _ l0 false _ ?b1 ?b2 A2.out).mono ?_); (case b1 => exact cw_ m2.out); (case b2 => exact m3.out); rintro e w' ⟨rfl, ⟨nd, rfl⟩⟩; refine ⟨_, rfl, ?_⟩) | ((with_reducible refine gc_ 37 rfl ?_); refine gl_ (some 20) rfl Try.func37 #[.slice A0 l0.length c0] ?_; (with_reducible refine (spec_DrawAirOk.calls k _ _ l0 b0 a7 a3 _ ?b1 ?b2 A4.out).mono ?_); (case b1 => exact cw_ m2.out); (case b2 => exact m3.out); rintro e M3 ⟨v231, v234, rfl, l1, l2, hb⟩; refine ⟨_, rfl, ?_⟩; have a6 := mk_ (Kd.R_lower l1 (below_size (hw_ HB))); have a5 := mk_ (Kd.R_lower l2 (below_size (hw_ HB))); replace HB := hk_ HB hb; (try clear hb); (try clear g3); (try clear hk); (try clear hi); (try clear l1); (try clear l2)) | ((with_reducible refine gd_ 3 rfl ?_); refine box_event ?hg (N := 3) ?hd (cs := #[.int .i64 0, .slice none 0 0, .slice none 0 0]) (t := 79) ?hr ?_; (case hd => rfl); (case hg => rfl); (case hr => exact hr_); intro a4 hg M4 hbox hb; replace a6 := rb_ a6 hb; replace a5 := rb_ a5 hb; have a1 := mk_ (hbox); have d1 := gb_ hg HB; replace HB := bp_ HB hb; have d2 := d1; clear hb hbox hg; have q6 := bc0_ a1; have q7 := bc1_ a1; have q8 := bc2_ a1; have q9 := bf_ a1 0; have s0 := bf_ a1 1; have s1 := bf_ a1 2; obtain ⟨c5, c2, I5⟩ := Kd.R_slice a6.out; subst I5; obtain ⟨h6, c6, I6⟩ := Kd.R_slice a5.out; subst I6) | ((with_reducible refine gc_ 38 rfl ?_); refine gl_ (some 23) rfl Try.func38 #[.agg #[.int .i64 b0, .slice c5 a7.length c2, .slice h6 a3.length c6]] ?_; (with_reducible refine (impl_Coldest.calls k b0 _ _ a7 _ _ a3 b9 c1 m7 _ ?b1 ?b2 ?b7 ?b8 A5.out).mono ?_); (case b1 => refine (Kd.R_reads' (e := 3) (base := w.heap.size) (ok := fun k_ => some k_ ≠ (.slice h6 a3.length c6 : Value).ownBlock) (n := a7.length) (c := c2) ?_).2.2; exact (by (with_reducible repeat (first | apply Kd.R_alloc | apply Kd.R_drewN | apply Kd.R_drew)); exact (Kd.R_mono (Kd.R_far (p := ⟨a4, 2, none⟩) (Kd.R_far (p := ⟨a4, 1, none⟩) (Kd.R_far (p := ⟨a4, 0, none⟩) (Kd.R_types a6.out a1.out (by decide)) (fun _ hk => hk.2) (.int .i64 b0)) (fun _ hk => hk.2) (.slice c5 a7.length c2)) (fun _ hk => hk.2) (.slice h6 a3.length c6)) (fun _ h_ => h_.1)))); (case b2 => exact (Kd.R_reads' a6.out).2.1); (case b7 => refine (Kd.R_reads' (e := 3) (base := w.heap.size) (ok := fun k_ => some k_ ≠ (.slice c5 a7.length c2 : Value).ownBlock) (n := a3.length) (c := c6) ?_).2.2; exact (by (with_reducible repeat (first | apply Kd.R_alloc | apply Kd.R_drewN | apply Kd.R_drew)); exact (Kd.R_mono (Kd.R_far (p := ⟨a4, 2, none⟩) (Kd.R_far (p := ⟨a4, 1, none⟩) (Kd.R_far (p := ⟨a4, 0, none⟩) (Kd.R_types a5.out a1.out (by decide)) (fun _ hk => hk.2) (.int .i64 b0)) (fun _ hk => hk.2) (.slice c5 a7.length c2)) (fun _ hk => hk.2) (.slice h6 a3.length c6)) (fun _ h_ => h_.1)))); (case b8 => exact (Kd.R_reads' a5.out).2.1); rintro e M5 ⟨rfl, hb⟩; refine ⟨_, rfl, ?_⟩; replace a6 := mk_ (Kd.R_below (by (with_reducible repeat (first | apply Kd.R_alloc | apply Kd.R_drewN | apply Kd.R_drew)); exact (Kd.R_mono (Kd.R_far (p := ⟨a4, 2, none⟩) (Kd.R_far (p := ⟨a4, 1, none⟩) (Kd.R_far (p := ⟨a4, 0, none⟩) (Kd.R_types a6.out a1.out (by decide)) (fun _ hk => hk.2) (.int .i64 b0)) (fun _ hk => hk.2) (.slice c5 a7.length c2)) (fun _ hk => hk.2) (.slice h6 a3.length c6)) (fun _ h_ => h_.1))) hb); replace a5 := mk_ (Kd.R_below (by (with_reducible repeat (first | apply Kd.R_alloc | apply Kd.R_drewN | apply Kd.R_drew)); exact (Kd.R_mono (Kd.R_far (p := ⟨a4, 2, none⟩) (Kd.R_far (p := ⟨a4, 1, none⟩) (Kd.R_far (p := ⟨a4, 0, none⟩) (Kd.R_types a5.out a1.out (by decide)) (fun _ hk => hk.2) (.int .i64 b0)) (fun _ hk => hk.2) (.slice c5 a7.length c2)) (fun _ hk => hk.2) (.slice h6 a3.length c6)) (fun _ h_ => h_.1))) hb); replace a1 := mk_ (blk_below (g := a4) (o := .cells #[.int .i64 b0, .slice c5 a7.length c2, .slice h6 a3.length c6] 79 (0, 0)) (by (with_reducible repeat (first | refine blk_drewN ?_ _ | refine blk_drew ?_ | refine blk_alloc ?_ _)); refine blk_put (cs := #[.int .i64 b0, .slice c5 a7.length c2, .slice none 0 0]) ?_ 2 _ rfl; (with_reducible repeat (first | refine blk_drewN ?_ _ | refine blk_drew ?_ | refine blk_alloc ?_ _)); refine blk_put (cs := #[.int .i64 b0, .slice none 0 0, .slice none 0 0]) ?_ 1 _ rfl; (with_reducible repeat (first | refine blk_drewN ?_ _ | refine blk_drew ?_ | refine blk_alloc ?_ _)); refine blk_put (cs := #[.int .i64 0, .slice none 0 0, .slice none 0 0]) ?_ 0 _ rfl; (with_reducible repeat (first | refine blk_drewN ?_ _ | refine blk_drew ?_ | refine blk_alloc ?_ _)); exact a1.out) hb); replace HB := mk_ (below_step (by repeat (first | (with_reducible first | exact HB.out | apply below_alloc | apply pw_below_drewN | apply below_drew1 | refine below_set ?_ d2.out) | exact HB.out)) hb); (try clear hb); (try clear g3); (try clear hk); (try clear hi); have s2 := bc0_ a1; have s3 := bc1_ a1; have s4 := bc2_ a1; have s5 := bf_ a1 0; have s6 := bf_ a1 1; have s7 := bf_ a1 2) | ((with_reducible refine gc_ 39 rfl ?_); refine gl_ (some 28) rfl Try.func39 #[.agg #[.int .i64 b0, .slice c5 a7.length c2, .slice h6 a3.length c6]] ?_; (with_reducible refine (spec_AirOk.calls k b0 _ _ a7 _ _ a3 true _ ?b1 ?b2 ?b7 ?b8 A6.out).mono ?_); (case b1 => exact cw_ (rr_ a6)); (case b2 => exact (Kd.R_reads' a6.out).2.1); (case b7 => exact cw_ (rr_ a5)); (case b8 => exact (Kd.R_reads' a5.out).2.1); rintro e M6 ⟨rfl, hb⟩; refine ⟨_, rfl, ?_⟩; replace a6 := rb_ a6 hb; replace a5 := rb_ a5 hb; replace a1 := bl_ a1 hb; replace HB := bp_ HB hb; (try clear hb); (try clear g3); (try clear hk); (try clear hi); have s8 := bc0_ a1; have s9 := bc1_ a1; have t0 := bc2_ a1; have t1 := bf_ a1 0; have t2 := bf_ a1 1; have t3 := bf_ a1 2; have n3 : 0 ≤ ((d4) : Int) := od_; have n4 : (d4) < (a3.length : Int) := od_; obtain ⟨c4, I7, t4⟩ := Kd.at_int (rr_ a5) (d4) n3 n4; cases I7; replace n3 := eq_true n3; replace n4 := eq_true n4) | ((with_reducible refine gc_ 41 rfl ?_); refine gl_ (some 56) rfl Try.func41 #[.agg #[.int .i64 b0, .slice c5 a7.length c2, .slice (some c4) a3.length c6], .int .i64 b9] ?_; (with_reducible refine (impl_Warm.calls k b0 _ _ a7 _ _ a3 b9 l8 o7 _ ?b1 ?b2 ?b7 ?b8 L7.out).mono ?_); (case b1 => exact cw_ (rr_ a6)); (case b2 => exact (Kd.R_reads' a6.out).2.1); (case b7 => exact cw_ (rr_ a5)); (case b8 => exact (Kd.R_reads' a5.out).2.1); rintro e M7 ⟨rfl, hb⟩; refine ⟨_, rfl, ?_⟩; replace a6 := rb_ a6 hb; replace a5 := rb_ a5 hb; replace a1 := bl_ a1 hb; replace HB := bp_ HB hb; (try clear hb); (try clear g3); (try clear hk); (try clear hi)))
     (try simp only [Act.put, List.setIfInBounds_toArray, List.set_cons_zero, List.set_cons_succ])
     go_cut [78] (fun v78 wc => ∃ (kq : Nat) (g4 : Bool), v78 = .bool g4 ∧ Aside0 (laws_FnAir.j0 kq b9 c1 (rd a3 (d4)) g4 b0 a7 a3 = some r) ∧ Aside0 (kq ≤ k) ∧ Aside0 (Kd.R (Kd.int .i64) 3 wc w.heap.size (fun k_ => some k_ ≠ ((.slice (some c4) a3.length c6) : Value).ownBlock) (.slice c5 a7.length c2) a7) ∧ Aside0 (Kd.R (Kd.int .i64) 3 wc w.heap.size (fun k_ => some k_ ≠ ((.slice c5 a7.length c2) : Value).ownBlock) (.slice (some c4) a3.length c6) a3) ∧ Aside0 (wc.heap[a4]? = some (.cells #[.int .i64 b0, (.slice c5 a7.length c2), (.slice (some c4) a3.length c6)] 79 (0, 0))) ∧ Aside0 (Below w.heap.size w wc))
     case first =>
      have H := n2.out; clear n2; by_cases t5 : m7 = true
      ·subst t5; rw [if_pos rfl] at H
       by_cases t6 : o7 = true
       ·subst t6; rw [if_pos rfl] at H
        by_cases n5 : l8 = c1
        ·rw [if_pos n5] at H; have h7 : (l8 == c1) = true := beq_iff_eq.mpr n5; have o9 : (l8 != c1) = false := bne_eq_false_iff_eq.mpr n5; clear n5
         (first | rw [h7] | (simp only [i64_w, i32_w]; rw [h7]) | skip)
         by_cases o1 : b9 < 0
         ·rw [if_pos o1] at H; have p0 : decide (b9 < 0) = true := decide_eq_true o1; clear o1
          have H' := mk_ H
          clear H; go_wp2; go_meet
          case rel => exact ⟨_, (true), rf_, H', ⟨by first | omega | exact Nat.le_refl _⟩, kw_ a6, kw_ a5, bw_ a1, ⟨hw_ HB⟩⟩
         ·rw [if_neg o1] at H; have p0 : decide (b9 < 0) = false := decide_eq_false o1; clear o1
          have H' := mk_ H
          clear H; go_wp2; go_meet
          case rel => exact ⟨_, (decide (b9 > (rd a3 (d4)))), (by first | rfl | (simp; done) | (simp only [← d0] <;> (first | rfl | simp)) | (simp [*]; done)), H', ⟨by first | omega | exact Nat.le_refl _⟩, kw_ a6, kw_ a5, bw_ a1, ⟨hw_ HB⟩⟩
        ·rw [if_neg n5] at H; have h7 : (l8 == c1) = false := beq_eq_false_iff_ne.mpr n5; have o9 : (l8 != c1) = true := bne_iff_ne.mpr n5
         (first | rw [h7] | (simp only [i64_w, i32_w]; rw [h7]) | skip)
         have H' := mk_ H
         clear H; go_wp2; go_meet
         case rel => exact ⟨_, (true), rf_, H', ⟨by first | omega | exact Nat.le_refl _⟩, kw_ a6, kw_ a5, bw_ a1, ⟨hw_ HB⟩⟩
       ·replace t6 := Bool.eq_false_iff.mpr t6; subst t6; rw [if_neg (show ¬ (false = true) by decide)] at H
        have H' := mk_ H
        clear H; go_wp2; go_meet
        case rel => exact ⟨_, (true), rf_, H', ⟨by first | omega | exact Nat.le_refl _⟩, kw_ a6, kw_ a5, bw_ a1, ⟨hw_ HB⟩⟩
      ·replace t5 := Bool.eq_false_iff.mpr t5; subst t5; rw [if_neg (show ¬ (false = true) by decide)] at H
       have H' := mk_ H
       clear H; go_wp2; go_meet
       case rel => exact ⟨_, (true), rf_, H', ⟨by first | omega | exact Nat.le_refl _⟩, kw_ a6, kw_ a5, bw_ a1, ⟨hw_ HB⟩⟩
     case rest =>
      clear n2; (try clear c3); (try clear c7); (try clear c9); (try clear m4); (try clear m8)
      obtain ⟨kq, g4, rfl, HA, d8, a8, a9, a1, HB⟩ := hcut
      cases kq with
      | zero => exact absurd HA.out (by simp [laws_FnAir.j0])
      | succ kj11 =>
       have H := HA.out; clear HA
       simp only [laws_FnAir.j0] at H
       by_cases n1 : g4 = true
       ·subst n1; rw [if_pos rfl] at H
        obtain rfl := Option.some.inj H; go_wp2
        go_ret
        exact ⟨by first | rfl | (simp [errW_none, errW_some] <;> rfl) | (simp only [← d0]; first | rfl | (simp [errW_none, errW_some] <;> rfl)) | (simp [*, errW_none, errW_some] <;> rfl), hw_ HB⟩
       ·replace n1 := Bool.eq_false_iff.mpr n1; subst n1; rw [if_neg (show ¬ (false = true) by decide)] at H
        have H' := mk_ H
        clear H; go_wp2
        go_loopg [10] kj11 (fun kq v10 w' => ∃ (c8 : Int), v10 = .int .i64 c8 ∧ Aside0 (laws_FnAir.l0 kq b9 c1 (rd a3 (d4)) c8 b0 a7 a3 = some r) ∧ Aside0 (kq ≤ kj11) ∧ Aside0 (Kd.R (Kd.int .i64) 3 w' w.heap.size (fun k_ => some k_ ≠ ((.slice (some c4) a3.length c6) : Value).ownBlock) (.slice c5 a7.length c2) a7) ∧ Aside0 (Kd.R (Kd.int .i64) 3 w' w.heap.size (fun k_ => some k_ ≠ ((.slice c5 a7.length c2) : Value).ownBlock) (.slice (some c4) a3.length c6) a3) ∧ Aside0 (w'.heap[a4]? = some (.cells #[.int .i64 b0, (.slice c5 a7.length c2), (.slice (some c4) a3.length c6)] 79 (0, 0))) ∧ Aside0 (Below w.heap.size w w'))
        case atStart => exact ⟨(0), rf_, H', ⟨Nat.le_refl _⟩, kw_ a8, kw_ a9, bw_ a1, ⟨hw_ HB⟩⟩
        case round =>
         clear H'; (try clear c3); (try clear c7); (try clear c9); (try clear m4); (try clear m8); (try clear n1)
         obtain ⟨c8, rfl, HA, m5, a8, a9, a1, HB⟩ := hrel
         cases gk with
         | zero => exact absurd HA.out (by simp [laws_FnAir.l0])
         | succ k2 =>
          have H := HA.out; clear HA
          simp only [laws_FnAir.l0] at H
          have n6 := mk_ H; clear H
          go_upto_region 12 with (fail)
          go_cut [85] (fun v85 wc => ∃ (kq : Nat) (g5 : Bool), v85 = .bool g5 ∧ Aside0 (laws_FnAir.j2 kq b9 c1 (rd a3 (d4)) c8 g5 b0 a7 a3 = some r) ∧ Aside0 (kq ≤ k2) ∧ Aside0 (Kd.R (Kd.int .i64) 3 wc w.heap.size (fun k_ => some k_ ≠ ((.slice (some c4) a3.length c6) : Value).ownBlock) (.slice c5 a7.length c2) a7) ∧ Aside0 (Kd.R (Kd.int .i64) 3 wc w.heap.size (fun k_ => some k_ ≠ ((.slice c5 a7.length c2) : Value).ownBlock) (.slice (some c4) a3.length c6) a3) ∧ Aside0 (wc.heap[a4]? = some (.cells #[.int .i64 b0, (.slice c5 a7.length c2), (.slice (some c4) a3.length c6)] 79 (0, 0))) ∧ Aside0 (Below w.heap.size w wc))
          case first =>
           have H := n6.out; clear n6; by_cases o2 : c8 ≤ 40
           ·rw [if_pos o2] at H; have h8 : decide (c8 ≤ 40) = true := decide_eq_true o2; clear o2
            (first | rw [h8] | (simp only [i64_w, i32_w]; rw [h8]) | skip)
            have H' := mk_ H
            clear H; go_wp2; go_meet
            case rel => exact ⟨_, (decide (c8 ≤ (rd a3 (d4)))), (by first | rfl | (simp; done) | (simp only [← d0] <;> (first | rfl | simp)) | (simp [*]; done)), H', ⟨by have := d8.out; have := m5.out; first | omega | exact Nat.le_refl _⟩, kw_ a8, kw_ a9, bw_ a1, ⟨hw_ HB⟩⟩
           ·rw [if_neg o2] at H; have h8 : decide (c8 ≤ 40) = false := decide_eq_false o2; clear o2
            (first | rw [h8] | (simp only [i64_w, i32_w]; rw [h8]) | skip)
            have H' := mk_ H
            clear H; go_wp2; go_meet
            case rel => exact ⟨_, (false), rf_, H', ⟨by have := d8.out; have := m5.out; first | omega | exact Nat.le_refl _⟩, kw_ a8, kw_ a9, bw_ a1, ⟨hw_ HB⟩⟩
          case rest =>
           clear n6; (try clear c3); (try clear c7); (try clear c9); (try clear m4); (try clear m8); (try clear n1)
           obtain ⟨kq, g5, rfl, HA, h9, a8, a9, a1, HB⟩ := hcut
           cases kq with
           | zero => exact absurd HA.out (by simp [laws_FnAir.j2])
           | succ kj27 =>
            have H := HA.out; clear HA
            simp only [laws_FnAir.j2] at H
            by_cases o3 : g5 = true
            ·subst o3; rw [if_pos rfl] at H
             replace H := Option.bind_eq_some_iff.mp H; obtain ⟨⟨j9, p1⟩, p2, H⟩ := H
             (try dsimp only at H); have L8 := mk_ p2; clear p2
             have n7 := mk_ H; clear H; have t7 := bc0_ a1; have t8 := bc1_ a1; have t9 := bc2_ a1; have y9 := bf_ a1 0; have A1 := bf_ a1 1; have A3 := bf_ a1 2
             go_upto_region 15 with (first | ((with_reducible refine gc_ 41 rfl ?_); refine gl_ (some 91) rfl Try.func41 #[.agg #[.int .i64 b0, .slice c5 a7.length c2, .slice (some c4) a3.length c6], .int .i64 c8] ?_; (with_reducible refine (impl_Warm.calls kj27 b0 _ _ a7 _ _ a3 c8 j9 p1 _ ?b1 ?b2 ?b7 ?b8 L8.out).mono ?_); (case b1 => exact cw_ (rr_ a8)); (case b2 => exact (Kd.R_reads' a8.out).2.1); (case b7 => exact cw_ (rr_ a9)); (case b8 => exact (Kd.R_reads' a9.out).2.1); rintro e M8 ⟨rfl, hb⟩; refine ⟨_, rfl, ?_⟩; replace a8 := rb_ a8 hb; replace a9 := rb_ a9 hb; replace a1 := bl_ a1 hb; replace HB := bp_ HB hb; (try clear hb); (try clear g3); (try clear hk); (try clear hi)))
             (try simp only [Act.put, List.setIfInBounds_toArray, List.set_cons_zero, List.set_cons_succ])
             go_cut [110] (fun v110 wc => ∃ (kq : Nat) (d5 : Bool), v110 = .bool d5 ∧ Aside0 (laws_FnAir.j3 kq b9 c1 (rd a3 (d4)) c8 j9 d5 b0 a7 a3 = some r) ∧ Aside0 (kq ≤ kj27) ∧ Aside0 (Kd.R (Kd.int .i64) 3 wc w.heap.size (fun k_ => some k_ ≠ ((.slice (some c4) a3.length c6) : Value).ownBlock) (.slice c5 a7.length c2) a7) ∧ Aside0 (Kd.R (Kd.int .i64) 3 wc w.heap.size (fun k_ => some k_ ≠ ((.slice c5 a7.length c2) : Value).ownBlock) (.slice (some c4) a3.length c6) a3) ∧ Aside0 (wc.heap[a4]? = some (.cells #[.int .i64 b0, (.slice c5 a7.length c2), (.slice (some c4) a3.length c6)] 79 (0, 0))) ∧ Aside0 (Below w.heap.size w wc))
             case first =>
              have H := n7.out; clear n7; by_cases A7 : p1 = true
              ·subst A7; rw [if_pos rfl] at H
               by_cases o4 : j9 < c1
               ·rw [if_pos o4] at H; have j1 : decide (j9 < c1) = true := decide_eq_true o4; clear o4
                (first | rw [j1] | (simp only [i64_w, i32_w]; rw [j1]) | skip)
                have H' := mk_ H
                clear H; go_wp2; go_meet
                case rel => exact ⟨_, (true), rf_, H', ⟨by have := d8.out; have := m5.out; have := h9.out; first | omega | exact Nat.le_refl _⟩, kw_ a8, kw_ a9, bw_ a1, ⟨hw_ HB⟩⟩
               ·rw [if_neg o4] at H; have j1 : decide (j9 < c1) = false := decide_eq_false o4; clear o4
                (first | rw [j1] | (simp only [i64_w, i32_w]; rw [j1]) | skip)
                by_cases o5 : c8 < b9
                ·rw [if_pos o5] at H; have p3 : decide (c8 < b9) = true := decide_eq_true o5; clear o5
                 have H' := mk_ H
                 clear H; go_wp2; go_meet
                 case rel => exact ⟨_, ((j9 == c1)), rf_, H', ⟨by have := d8.out; have := m5.out; have := h9.out; first | omega | exact Nat.le_refl _⟩, kw_ a8, kw_ a9, bw_ a1, ⟨hw_ HB⟩⟩
                ·rw [if_neg o5] at H; have p3 : decide (c8 < b9) = false := decide_eq_false o5; clear o5
                 have H' := mk_ H
                 clear H; go_wp2; go_meet
                 case rel => exact ⟨_, (false), rf_, H', ⟨by have := d8.out; have := m5.out; have := h9.out; first | omega | exact Nat.le_refl _⟩, kw_ a8, kw_ a9, bw_ a1, ⟨hw_ HB⟩⟩
              ·replace A7 := Bool.eq_false_iff.mpr A7; subst A7; rw [if_neg (show ¬ (false = true) by decide)] at H
               have H' := mk_ H
               clear H; go_wp2; go_meet
               case rel => exact ⟨_, (true), rf_, H', ⟨by have := d8.out; have := m5.out; have := h9.out; first | omega | exact Nat.le_refl _⟩, kw_ a8, kw_ a9, bw_ a1, ⟨hw_ HB⟩⟩
             case rest =>
              clear n7; (try clear c3); (try clear c7); (try clear c9); (try clear m4); (try clear m8); (try clear n1); (try clear o3)
              obtain ⟨kq, d5, rfl, HA, m9, a8, a9, a1, HB⟩ := hcut
              cases kq with
              | zero => exact absurd HA.out (by simp [laws_FnAir.j3])
              | succ kj31 =>
               have H := HA.out; clear HA
               simp only [laws_FnAir.j3] at H
               by_cases p4 : d5 = true
               ·subst p4; rw [if_pos rfl] at H
                obtain rfl := Option.some.inj H; go_wp2
                go_ret
                exact ⟨by first | rfl | (simp [errW_none, errW_some] <;> rfl) | (simp only [← d0]; first | rfl | (simp [errW_none, errW_some] <;> rfl)) | (simp [*, errW_none, errW_some] <;> rfl), hw_ HB⟩
               ·replace p4 := Bool.eq_false_iff.mpr p4; subst p4; rw [if_neg (show ¬ (false = true) by decide)] at H; replace H := Option.bind_eq_some_iff.mp H; obtain ⟨⟨p5, p6⟩, p7, H⟩ := H; (try dsimp only at H); have L9 := mk_ p7; clear p7; have n8 := mk_ H; clear H; have A8 := bc0_ a1; have A9 := bc1_ a1; have B0 := bc2_ a1; have B1 := bf_ a1 0; have B2 := bf_ a1 1; have B3 := bf_ a1 2
                go_upto_region 18 with (first | ((with_reducible refine gc_ 41 rfl ?_); refine gl_ (some 115) rfl Try.func41 #[.agg #[.int .i64 b0, .slice c5 a7.length c2, .slice (some c4) a3.length c6], .int .i64 (wrap64 (c8 + 1))] ?_; (with_reducible refine (impl_Warm.calls kj31 b0 _ _ a7 _ _ a3 (wrap64 (c8 + 1)) p5 p6 _ ?b1 ?b2 ?b7 ?b8 L9.out).mono ?_); (case b1 => exact cw_ (rr_ a8)); (case b2 => exact (Kd.R_reads' a8.out).2.1); (case b7 => exact cw_ (rr_ a9)); (case b8 => exact (Kd.R_reads' a9.out).2.1); rintro e M9 ⟨rfl, hb⟩; refine ⟨_, rfl, ?_⟩; replace a8 := rb_ a8 hb; replace a9 := rb_ a9 hb; replace a1 := bl_ a1 hb; replace HB := bp_ HB hb; (try clear hb); (try clear g3); (try clear hk); (try clear hi)))
                (try simp only [Act.put, List.setIfInBounds_toArray, List.set_cons_zero, List.set_cons_succ])
                go_cut [127] (fun v127 wc => ∃ (kq : Nat) (d6 : Bool), v127 = .bool d6 ∧ Aside0 (laws_FnAir.j4 kq b9 c1 (rd a3 (d4)) c8 d6 b0 a7 a3 = some r) ∧ Aside0 (kq ≤ kj31) ∧ Aside0 (Kd.R (Kd.int .i64) 3 wc w.heap.size (fun k_ => some k_ ≠ ((.slice (some c4) a3.length c6) : Value).ownBlock) (.slice c5 a7.length c2) a7) ∧ Aside0 (Kd.R (Kd.int .i64) 3 wc w.heap.size (fun k_ => some k_ ≠ ((.slice c5 a7.length c2) : Value).ownBlock) (.slice (some c4) a3.length c6) a3) ∧ Aside0 (wc.heap[a4]? = some (.cells #[.int .i64 b0, (.slice c5 a7.length c2), (.slice (some c4) a3.length c6)] 79 (0, 0))) ∧ Aside0 (Below w.heap.size w wc))
                case first =>
                 have H := n8.out; clear n8; by_cases B4 : p6 = true
                 ·subst B4; rw [if_pos rfl] at H
                  replace H := Option.bind_eq_some_iff.mp H; obtain ⟨m6, p8, H⟩ := H
                  (try dsimp only at H); have M0 := mk_ p8; clear p8
                  have H' := mk_ H
                  clear H; have B5 := bc0_ a1; have B6 := bc1_ a1; have B7 := bc2_ a1; have B8 := bf_ a1 0; have B9 := bf_ a1 1; have C0 := bf_ a1 2
                  go_wp2_with (first | (go_at_call 42; (with_reducible refine (laws_within.calls kj31 _ _ a7 (wrap64 (p5 - j9)) m6 _ ?b1 ?b2 M0.out).mono ?_); (case b1 => exact cw_ (rr_ a8)); (case b2 => exact (Kd.R_reads' a8.out).2.1); rintro e w' ⟨rfl, ⟨nd, rfl⟩⟩))
                  go_meet
                  case rel => exact ⟨_, (!m6), rf_, H', ⟨by have := d8.out; have := m5.out; have := h9.out; have := m9.out; first | omega | exact Nat.le_refl _⟩, kw_ a8, kw_ a9, bw_ a1, ⟨hw_ HB⟩⟩
                 ·replace B4 := Bool.eq_false_iff.mpr B4; subst B4; rw [if_neg (show ¬ (false = true) by decide)] at H
                  have H' := mk_ H
                  clear H; go_wp2; go_meet
                  case rel => exact ⟨_, (false), rf_, H', ⟨by have := d8.out; have := m5.out; have := h9.out; have := m9.out; first | omega | exact Nat.le_refl _⟩, kw_ a8, kw_ a9, bw_ a1, ⟨hw_ HB⟩⟩
                case rest =>
                 clear n8; (try clear c3); (try clear c7); (try clear c9); (try clear m4); (try clear m8); (try clear n1); (try clear o3); (try clear p4)
                 obtain ⟨kq, d6, rfl, HA, p9, a8, a9, a1, HB⟩ := hcut
                 cases kq with
                 | zero => exact absurd HA.out (by simp [laws_FnAir.j4])
                 | succ kj39 =>
                  have H := HA.out; clear HA
                  simp only [laws_FnAir.j4] at H
                  by_cases C1 : d6 = true
                  ·subst C1; rw [if_pos rfl] at H
                   obtain rfl := Option.some.inj H; go_wp2
                   go_ret
                   exact ⟨by first | rfl | (simp [errW_none, errW_some] <;> rfl) | (simp only [← d0]; first | rfl | (simp [errW_none, errW_some] <;> rfl)) | (simp [*, errW_none, errW_some] <;> rfl), hw_ HB⟩
                  ·replace C1 := Bool.eq_false_iff.mpr C1; subst C1; rw [if_neg (show ¬ (false = true) by decide)] at H
                   have H' := mk_ H
                   clear H; go_wp2
                   go_roundg kj39
                   case measure => have := d8.out; have := m5.out; have := h9.out; have := m9.out; have := p9.out; omega
                   case rel => exact ⟨(wrap64 (c8 + 1)), rf_, H', ⟨by have := d8.out; have := m5.out; have := h9.out; have := m9.out; have := p9.out; omega⟩, kw_ a8, kw_ a9, bw_ a1, ⟨hw_ HB⟩⟩
            ·replace o3 := Bool.eq_false_iff.mpr o3; subst o3; rw [if_neg (show ¬ (false = true) by decide)] at H; replace H := Option.bind_eq_some_iff.mp H; obtain ⟨⟨I8, I9⟩, q0, H⟩ := H; (try dsimp only at H); have M1 := mk_ q0; clear q0; obtain rfl := Option.some.inj H; have C2 := bc0_ a1; have C3 := bc1_ a1; have C4 := bc2_ a1; have C5 := bf_ a1 0; have C6 := bf_ a1 1; have C7 := bf_ a1 2
             go_wp2_with (first | ((with_reducible refine gate_callee (f := 41) rfl ?_); refine goesL_ (some 132) rfl rfl Try.func41 (by kernel_rfl) rfl #[.agg #[.int .i64 b0, .slice c5 a7.length c2, .slice (some c4) a3.length c6], .int .i64 (wrap64 ((rd a3 (d4)) + 1))] rfl (by (try simp only [List.map_toArray, List.map_cons, List.map_nil]); first | done | (simp only [d0]; rfl) | rfl | (simp only [List.length_drop, List.length_take]; rfl)) ?_; (with_reducible refine (impl_Warm.calls kj27 b0 _ _ a7 _ _ a3 (wrap64 ((rd a3 (d4)) + 1)) I8 I9 _ ?b1 ?b2 ?b7 ?b8 M1.out).mono ?_); (case b1 => exact cw_ (rr_ a8)); (case b2 => exact (Kd.R_reads' a8.out).2.1); (case b7 => exact cw_ (rr_ a9)); (case b8 => exact (Kd.R_reads' a9.out).2.1); rintro e N0 ⟨rfl, hb⟩; refine ⟨_, rfl, ?_⟩; replace a8 := rb_ a8 hb; replace a9 := rb_ a9 hb; replace a1 := bl_ a1 hb; replace HB := bp_ HB hb; (try clear hb); (try clear g3); (try clear hk); (try clear hi)))
             go_ret
             exact ⟨by first | rfl | (simp [errW_none, errW_some] <;> rfl) | (simp only [← d0]; first | rfl | (simp [errW_none, errW_some] <;> rfl)) | (simp [*, errW_none, errW_some] <;> rfl), hw_ HB⟩
    ·rw [if_neg m8] at H
     exact absurd H (by simp)
   ·rw [if_neg c9] at H
    exact absurd H (by simp)
  ·replace c7 := Bool.eq_false_iff.mpr c7; subst c7; rw [if_neg (show ¬ (false = true) by decide)] at H; by_cases C8 : m7 = true
   ·subst C8; rw [if_pos rfl] at H
    obtain rfl := Option.some.inj H
    go_enter Try.func9, Try.ntmps9
    go_wp2_with (first | ((with_reducible refine gc_ 23 rfl ?_); refine gl_ (some 18) rfl Try.func23 #[.slice A0 l0.length c0] ?_; (with_reducible refine (laws_big.calls _ _ l0 false _ ?b1 ?b2 A2.out).mono ?_); (case b1 => exact cw_ m2.out); (case b2 => exact m3.out); rintro e w' ⟨rfl, ⟨nd, rfl⟩⟩; refine ⟨_, rfl, ?_⟩) | ((with_reducible refine gc_ 37 rfl ?_); refine gl_ (some 20) rfl Try.func37 #[.slice A0 l0.length c0] ?_; (with_reducible refine (spec_DrawAirOk.calls k _ _ l0 b0 a7 a3 _ ?b1 ?b2 A4.out).mono ?_); (case b1 => exact cw_ m2.out); (case b2 => exact m3.out); rintro e N1 ⟨v231, v234, rfl, l1, l2, hb⟩; refine ⟨_, rfl, ?_⟩; have a6 := mk_ (Kd.R_lower l1 (below_size (hw_ HB))); have a5 := mk_ (Kd.R_lower l2 (below_size (hw_ HB))); replace HB := hk_ HB hb; (try clear hb); (try clear g3); (try clear hk); (try clear hi); (try clear l1); (try clear l2)) | ((with_reducible refine gd_ 3 rfl ?_); refine box_event ?hg (N := 3) ?hd (cs := #[.int .i64 0, .slice none 0 0, .slice none 0 0]) (t := 79) ?hr ?_; (case hd => rfl); (case hg => rfl); (case hr => exact hr_); intro a4 hg N2 hbox hb; replace a6 := rb_ a6 hb; replace a5 := rb_ a5 hb; have a1 := mk_ (hbox); have d1 := gb_ hg HB; replace HB := bp_ HB hb; have d2 := d1; clear hb hbox hg; have C9 := bc0_ a1; have D0 := bc1_ a1; have D1 := bc2_ a1; have D2 := bf_ a1 0; have D3 := bf_ a1 1; have D4 := bf_ a1 2; obtain ⟨g6, d9, J0⟩ := Kd.R_slice a6.out; subst J0; obtain ⟨j5, g7, J1⟩ := Kd.R_slice a5.out; subst J1) | ((with_reducible refine gc_ 38 rfl ?_); refine gl_ (some 23) rfl Try.func38 #[.agg #[.int .i64 b0, .slice g6 a7.length d9, .slice j5 a3.length g7]] ?_; (with_reducible refine (impl_Coldest.calls k b0 _ _ a7 _ _ a3 b9 c1 true _ ?b1 ?b2 ?b7 ?b8 A5.out).mono ?_); (case b1 => refine (Kd.R_reads' (e := 3) (base := w.heap.size) (ok := fun k_ => some k_ ≠ (.slice j5 a3.length g7 : Value).ownBlock) (n := a7.length) (c := d9) ?_).2.2; exact (by (with_reducible repeat (first | apply Kd.R_alloc | apply Kd.R_drewN | apply Kd.R_drew)); exact (Kd.R_mono (Kd.R_far (p := ⟨a4, 2, none⟩) (Kd.R_far (p := ⟨a4, 1, none⟩) (Kd.R_far (p := ⟨a4, 0, none⟩) (Kd.R_types a6.out a1.out (by decide)) (fun _ hk => hk.2) (.int .i64 b0)) (fun _ hk => hk.2) (.slice g6 a7.length d9)) (fun _ hk => hk.2) (.slice j5 a3.length g7)) (fun _ h_ => h_.1)))); (case b2 => exact (Kd.R_reads' a6.out).2.1); (case b7 => refine (Kd.R_reads' (e := 3) (base := w.heap.size) (ok := fun k_ => some k_ ≠ (.slice g6 a7.length d9 : Value).ownBlock) (n := a3.length) (c := g7) ?_).2.2; exact (by (with_reducible repeat (first | apply Kd.R_alloc | apply Kd.R_drewN | apply Kd.R_drew)); exact (Kd.R_mono (Kd.R_far (p := ⟨a4, 2, none⟩) (Kd.R_far (p := ⟨a4, 1, none⟩) (Kd.R_far (p := ⟨a4, 0, none⟩) (Kd.R_types a5.out a1.out (by decide)) (fun _ hk => hk.2) (.int .i64 b0)) (fun _ hk => hk.2) (.slice g6 a7.length d9)) (fun _ hk => hk.2) (.slice j5 a3.length g7)) (fun _ h_ => h_.1)))); (case b8 => exact (Kd.R_reads' a5.out).2.1); rintro e N3 ⟨rfl, hb⟩; refine ⟨_, rfl, ?_⟩; replace a6 := mk_ (Kd.R_below (by (with_reducible repeat (first | apply Kd.R_alloc | apply Kd.R_drewN | apply Kd.R_drew)); exact (Kd.R_mono (Kd.R_far (p := ⟨a4, 2, none⟩) (Kd.R_far (p := ⟨a4, 1, none⟩) (Kd.R_far (p := ⟨a4, 0, none⟩) (Kd.R_types a6.out a1.out (by decide)) (fun _ hk => hk.2) (.int .i64 b0)) (fun _ hk => hk.2) (.slice g6 a7.length d9)) (fun _ hk => hk.2) (.slice j5 a3.length g7)) (fun _ h_ => h_.1))) hb); replace a5 := mk_ (Kd.R_below (by (with_reducible repeat (first | apply Kd.R_alloc | apply Kd.R_drewN | apply Kd.R_drew)); exact (Kd.R_mono (Kd.R_far (p := ⟨a4, 2, none⟩) (Kd.R_far (p := ⟨a4, 1, none⟩) (Kd.R_far (p := ⟨a4, 0, none⟩) (Kd.R_types a5.out a1.out (by decide)) (fun _ hk => hk.2) (.int .i64 b0)) (fun _ hk => hk.2) (.slice g6 a7.length d9)) (fun _ hk => hk.2) (.slice j5 a3.length g7)) (fun _ h_ => h_.1))) hb); replace a1 := mk_ (blk_below (g := a4) (o := .cells #[.int .i64 b0, .slice g6 a7.length d9, .slice j5 a3.length g7] 79 (0, 0)) (by (with_reducible repeat (first | refine blk_drewN ?_ _ | refine blk_drew ?_ | refine blk_alloc ?_ _)); refine blk_put (cs := #[.int .i64 b0, .slice g6 a7.length d9, .slice none 0 0]) ?_ 2 _ rfl; (with_reducible repeat (first | refine blk_drewN ?_ _ | refine blk_drew ?_ | refine blk_alloc ?_ _)); refine blk_put (cs := #[.int .i64 b0, .slice none 0 0, .slice none 0 0]) ?_ 1 _ rfl; (with_reducible repeat (first | refine blk_drewN ?_ _ | refine blk_drew ?_ | refine blk_alloc ?_ _)); refine blk_put (cs := #[.int .i64 0, .slice none 0 0, .slice none 0 0]) ?_ 0 _ rfl; (with_reducible repeat (first | refine blk_drewN ?_ _ | refine blk_drew ?_ | refine blk_alloc ?_ _)); exact a1.out) hb); replace HB := mk_ (below_step (by repeat (first | (with_reducible first | exact HB.out | apply below_alloc | apply pw_below_drewN | apply below_drew1 | refine below_set ?_ d2.out) | exact HB.out)) hb); (try clear hb); (try clear g3); (try clear hk); (try clear hi); have D5 := bc0_ a1; have D6 := bc1_ a1; have D7 := bc2_ a1; have D8 := bf_ a1 0; have D9 := bf_ a1 1; have E0 := bf_ a1 2) | ((with_reducible refine gc_ 39 rfl ?_); refine gl_ (some 28) rfl Try.func39 #[.agg #[.int .i64 b0, .slice g6 a7.length d9, .slice j5 a3.length g7]] ?_; (with_reducible refine (spec_AirOk.calls k b0 _ _ a7 _ _ a3 false _ ?b1 ?b2 ?b7 ?b8 A6.out).mono ?_); (case b1 => exact cw_ (rr_ a6)); (case b2 => exact (Kd.R_reads' a6.out).2.1); (case b7 => exact cw_ (rr_ a5)); (case b8 => exact (Kd.R_reads' a5.out).2.1); rintro e N4 ⟨rfl, hb⟩; refine ⟨_, rfl, ?_⟩; replace a6 := rb_ a6 hb; replace a5 := rb_ a5 hb; replace a1 := bl_ a1 hb; replace HB := bp_ HB hb; (try clear hb); (try clear g3); (try clear hk); (try clear hi)))
    go_ret
    exact ⟨re_, hw_ HB⟩
   ·replace C8 := Bool.eq_false_iff.mpr C8; subst C8; rw [if_neg (show ¬ (false = true) by decide)] at H; by_cases n9 : b9 = 0
    ·rw [if_pos n9] at H; have q1 : (b9 == 0) = true := beq_iff_eq.mpr n9; have q2 : (b9 != 0) = false := bne_eq_false_iff_eq.mpr n9; clear n9; by_cases o0 : c1 = 0
     ·rw [if_pos o0] at H; have q3 : (c1 == 0) = true := beq_iff_eq.mpr o0; have q4 : (c1 != 0) = false := bne_eq_false_iff_eq.mpr o0; clear o0; replace H := Option.bind_eq_some_iff.mp H; obtain ⟨m1, q5, H⟩ := H; (try dsimp only at H); have M2 := mk_ q5; clear q5; obtain rfl := Option.some.inj H
      go_enter Try.func9, Try.ntmps9
      go_wp2_with (first | ((with_reducible refine gc_ 23 rfl ?_); refine gl_ (some 18) rfl Try.func23 #[.slice A0 l0.length c0] ?_; (with_reducible refine (laws_big.calls _ _ l0 false _ ?b1 ?b2 A2.out).mono ?_); (case b1 => exact cw_ m2.out); (case b2 => exact m3.out); rintro e w' ⟨rfl, ⟨nd, rfl⟩⟩; refine ⟨_, rfl, ?_⟩) | ((with_reducible refine gc_ 37 rfl ?_); refine gl_ (some 20) rfl Try.func37 #[.slice A0 l0.length c0] ?_; (with_reducible refine (spec_DrawAirOk.calls k _ _ l0 b0 a7 a3 _ ?b1 ?b2 A4.out).mono ?_); (case b1 => exact cw_ m2.out); (case b2 => exact m3.out); rintro e N5 ⟨v231, v234, rfl, l1, l2, hb⟩; refine ⟨_, rfl, ?_⟩; have a6 := mk_ (Kd.R_lower l1 (below_size (hw_ HB))); have a5 := mk_ (Kd.R_lower l2 (below_size (hw_ HB))); replace HB := hk_ HB hb; (try clear hb); (try clear g3); (try clear hk); (try clear hi); (try clear l1); (try clear l2)) | ((with_reducible refine gd_ 3 rfl ?_); refine box_event ?hg (N := 3) ?hd (cs := #[.int .i64 0, .slice none 0 0, .slice none 0 0]) (t := 79) ?hr ?_; (case hd => rfl); (case hg => rfl); (case hr => exact hr_); intro a4 hg N6 hbox hb; replace a6 := rb_ a6 hb; replace a5 := rb_ a5 hb; have a1 := mk_ (hbox); have d1 := gb_ hg HB; replace HB := bp_ HB hb; have d2 := d1; clear hb hbox hg; have E1 := bc0_ a1; have E2 := bc1_ a1; have E3 := bc2_ a1; have E4 := bf_ a1 0; have E5 := bf_ a1 1; have E6 := bf_ a1 2; obtain ⟨g8, g0, J2⟩ := Kd.R_slice a6.out; subst J2; obtain ⟨j6, g9, J3⟩ := Kd.R_slice a5.out; subst J3) | ((with_reducible refine gc_ 38 rfl ?_); refine gl_ (some 23) rfl Try.func38 #[.agg #[.int .i64 b0, .slice g8 a7.length g0, .slice j6 a3.length g9]] ?_; (with_reducible refine (impl_Coldest.calls k b0 _ _ a7 _ _ a3 b9 c1 false _ ?b1 ?b2 ?b7 ?b8 A5.out).mono ?_); (case b1 => refine (Kd.R_reads' (e := 3) (base := w.heap.size) (ok := fun k_ => some k_ ≠ (.slice j6 a3.length g9 : Value).ownBlock) (n := a7.length) (c := g0) ?_).2.2; exact (by (with_reducible repeat (first | apply Kd.R_alloc | apply Kd.R_drewN | apply Kd.R_drew)); exact (Kd.R_mono (Kd.R_far (p := ⟨a4, 2, none⟩) (Kd.R_far (p := ⟨a4, 1, none⟩) (Kd.R_far (p := ⟨a4, 0, none⟩) (Kd.R_types a6.out a1.out (by decide)) (fun _ hk => hk.2) (.int .i64 b0)) (fun _ hk => hk.2) (.slice g8 a7.length g0)) (fun _ hk => hk.2) (.slice j6 a3.length g9)) (fun _ h_ => h_.1)))); (case b2 => exact (Kd.R_reads' a6.out).2.1); (case b7 => refine (Kd.R_reads' (e := 3) (base := w.heap.size) (ok := fun k_ => some k_ ≠ (.slice g8 a7.length g0 : Value).ownBlock) (n := a3.length) (c := g9) ?_).2.2; exact (by (with_reducible repeat (first | apply Kd.R_alloc | apply Kd.R_drewN | apply Kd.R_drew)); exact (Kd.R_mono (Kd.R_far (p := ⟨a4, 2, none⟩) (Kd.R_far (p := ⟨a4, 1, none⟩) (Kd.R_far (p := ⟨a4, 0, none⟩) (Kd.R_types a5.out a1.out (by decide)) (fun _ hk => hk.2) (.int .i64 b0)) (fun _ hk => hk.2) (.slice g8 a7.length g0)) (fun _ hk => hk.2) (.slice j6 a3.length g9)) (fun _ h_ => h_.1)))); (case b8 => exact (Kd.R_reads' a5.out).2.1); rintro e N7 ⟨rfl, hb⟩; refine ⟨_, rfl, ?_⟩; replace a6 := mk_ (Kd.R_below (by (with_reducible repeat (first | apply Kd.R_alloc | apply Kd.R_drewN | apply Kd.R_drew)); exact (Kd.R_mono (Kd.R_far (p := ⟨a4, 2, none⟩) (Kd.R_far (p := ⟨a4, 1, none⟩) (Kd.R_far (p := ⟨a4, 0, none⟩) (Kd.R_types a6.out a1.out (by decide)) (fun _ hk => hk.2) (.int .i64 b0)) (fun _ hk => hk.2) (.slice g8 a7.length g0)) (fun _ hk => hk.2) (.slice j6 a3.length g9)) (fun _ h_ => h_.1))) hb); replace a5 := mk_ (Kd.R_below (by (with_reducible repeat (first | apply Kd.R_alloc | apply Kd.R_drewN | apply Kd.R_drew)); exact (Kd.R_mono (Kd.R_far (p := ⟨a4, 2, none⟩) (Kd.R_far (p := ⟨a4, 1, none⟩) (Kd.R_far (p := ⟨a4, 0, none⟩) (Kd.R_types a5.out a1.out (by decide)) (fun _ hk => hk.2) (.int .i64 b0)) (fun _ hk => hk.2) (.slice g8 a7.length g0)) (fun _ hk => hk.2) (.slice j6 a3.length g9)) (fun _ h_ => h_.1))) hb); replace a1 := mk_ (blk_below (g := a4) (o := .cells #[.int .i64 b0, .slice g8 a7.length g0, .slice j6 a3.length g9] 79 (0, 0)) (by (with_reducible repeat (first | refine blk_drewN ?_ _ | refine blk_drew ?_ | refine blk_alloc ?_ _)); refine blk_put (cs := #[.int .i64 b0, .slice g8 a7.length g0, .slice none 0 0]) ?_ 2 _ rfl; (with_reducible repeat (first | refine blk_drewN ?_ _ | refine blk_drew ?_ | refine blk_alloc ?_ _)); refine blk_put (cs := #[.int .i64 b0, .slice none 0 0, .slice none 0 0]) ?_ 1 _ rfl; (with_reducible repeat (first | refine blk_drewN ?_ _ | refine blk_drew ?_ | refine blk_alloc ?_ _)); refine blk_put (cs := #[.int .i64 0, .slice none 0 0, .slice none 0 0]) ?_ 0 _ rfl; (with_reducible repeat (first | refine blk_drewN ?_ _ | refine blk_drew ?_ | refine blk_alloc ?_ _)); exact a1.out) hb); replace HB := mk_ (below_step (by repeat (first | (with_reducible first | exact HB.out | apply below_alloc | apply pw_below_drewN | apply below_drew1 | refine below_set ?_ d2.out) | exact HB.out)) hb); (try clear hb); (try clear g3); (try clear hk); (try clear hi); have E7 := bc0_ a1; have E8 := bc1_ a1; have E9 := bc2_ a1; have F0 := bf_ a1 0; have F1 := bf_ a1 1; have F2 := bf_ a1 2) | ((with_reducible refine gc_ 39 rfl ?_); refine gl_ (some 28) rfl Try.func39 #[.agg #[.int .i64 b0, .slice g8 a7.length g0, .slice j6 a3.length g9]] ?_; (with_reducible refine (spec_AirOk.calls k b0 _ _ a7 _ _ a3 false _ ?b1 ?b2 ?b7 ?b8 A6.out).mono ?_); (case b1 => exact cw_ (rr_ a6)); (case b2 => exact (Kd.R_reads' a6.out).2.1); (case b7 => exact cw_ (rr_ a5)); (case b8 => exact (Kd.R_reads' a5.out).2.1); rintro e N8 ⟨rfl, hb⟩; refine ⟨_, rfl, ?_⟩; replace a6 := rb_ a6 hb; replace a5 := rb_ a5 hb; replace a1 := bl_ a1 hb; replace HB := bp_ HB hb; (try clear hb); (try clear g3); (try clear hk); (try clear hi); have F3 := bc0_ a1; have F4 := bc1_ a1; have F5 := bc2_ a1; have F6 := bf_ a1 0; have F7 := bf_ a1 1; have F8 := bf_ a1 2) | (go_at_call 40; (with_reducible refine (impl_AirOk.calls k b0 _ _ a7 _ _ a3 m1 _ ?b1 ?b2 ?b7 ?b8 M2.out).mono ?_); (case b1 => exact cw_ (rr_ a6)); (case b2 => exact (Kd.R_reads' a6.out).2.1); (case b7 => exact cw_ (rr_ a5)); (case b8 => exact (Kd.R_reads' a5.out).2.1); rintro e N9 ⟨rfl, hb⟩; replace a6 := rb_ a6 hb; replace a5 := rb_ a5 hb; replace a1 := bl_ a1 hb; replace HB := bp_ HB hb; (try clear hb); (try clear g3); (try clear hk); (try clear hi)))
      go_ret
      exact ⟨re_, hw_ HB⟩
     ·rw [if_neg o0] at H; have q3 : (c1 == 0) = false := beq_eq_false_iff_ne.mpr o0; have q4 : (c1 != 0) = true := bne_iff_ne.mpr o0; obtain rfl := Option.some.inj H
      go_enter Try.func9, Try.ntmps9
      go_wp2_with (first | ((with_reducible refine gc_ 23 rfl ?_); refine gl_ (some 18) rfl Try.func23 #[.slice A0 l0.length c0] ?_; (with_reducible refine (laws_big.calls _ _ l0 false _ ?b1 ?b2 A2.out).mono ?_); (case b1 => exact cw_ m2.out); (case b2 => exact m3.out); rintro e w' ⟨rfl, ⟨nd, rfl⟩⟩; refine ⟨_, rfl, ?_⟩) | ((with_reducible refine gc_ 37 rfl ?_); refine gl_ (some 20) rfl Try.func37 #[.slice A0 l0.length c0] ?_; (with_reducible refine (spec_DrawAirOk.calls k _ _ l0 b0 a7 a3 _ ?b1 ?b2 A4.out).mono ?_); (case b1 => exact cw_ m2.out); (case b2 => exact m3.out); rintro e O0 ⟨v231, v234, rfl, l1, l2, hb⟩; refine ⟨_, rfl, ?_⟩; have a6 := mk_ (Kd.R_lower l1 (below_size (hw_ HB))); have a5 := mk_ (Kd.R_lower l2 (below_size (hw_ HB))); replace HB := hk_ HB hb; (try clear hb); (try clear g3); (try clear hk); (try clear hi); (try clear l1); (try clear l2)) | ((with_reducible refine gd_ 3 rfl ?_); refine box_event ?hg (N := 3) ?hd (cs := #[.int .i64 0, .slice none 0 0, .slice none 0 0]) (t := 79) ?hr ?_; (case hd => rfl); (case hg => rfl); (case hr => exact hr_); intro a4 hg O1 hbox hb; replace a6 := rb_ a6 hb; replace a5 := rb_ a5 hb; have a1 := mk_ (hbox); have d1 := gb_ hg HB; replace HB := bp_ HB hb; have d2 := d1; clear hb hbox hg; have F9 := bc0_ a1; have G0 := bc1_ a1; have G1 := bc2_ a1; have G2 := bf_ a1 0; have G3 := bf_ a1 1; have G4 := bf_ a1 2; obtain ⟨h0, g1, J4⟩ := Kd.R_slice a6.out; subst J4; obtain ⟨j7, h2, J5⟩ := Kd.R_slice a5.out; subst J5) | ((with_reducible refine gc_ 38 rfl ?_); refine gl_ (some 23) rfl Try.func38 #[.agg #[.int .i64 b0, .slice h0 a7.length g1, .slice j7 a3.length h2]] ?_; (with_reducible refine (impl_Coldest.calls k b0 _ _ a7 _ _ a3 b9 c1 false _ ?b1 ?b2 ?b7 ?b8 A5.out).mono ?_); (case b1 => refine (Kd.R_reads' (e := 3) (base := w.heap.size) (ok := fun k_ => some k_ ≠ (.slice j7 a3.length h2 : Value).ownBlock) (n := a7.length) (c := g1) ?_).2.2; exact (by (with_reducible repeat (first | apply Kd.R_alloc | apply Kd.R_drewN | apply Kd.R_drew)); exact (Kd.R_mono (Kd.R_far (p := ⟨a4, 2, none⟩) (Kd.R_far (p := ⟨a4, 1, none⟩) (Kd.R_far (p := ⟨a4, 0, none⟩) (Kd.R_types a6.out a1.out (by decide)) (fun _ hk => hk.2) (.int .i64 b0)) (fun _ hk => hk.2) (.slice h0 a7.length g1)) (fun _ hk => hk.2) (.slice j7 a3.length h2)) (fun _ h_ => h_.1)))); (case b2 => exact (Kd.R_reads' a6.out).2.1); (case b7 => refine (Kd.R_reads' (e := 3) (base := w.heap.size) (ok := fun k_ => some k_ ≠ (.slice h0 a7.length g1 : Value).ownBlock) (n := a3.length) (c := h2) ?_).2.2; exact (by (with_reducible repeat (first | apply Kd.R_alloc | apply Kd.R_drewN | apply Kd.R_drew)); exact (Kd.R_mono (Kd.R_far (p := ⟨a4, 2, none⟩) (Kd.R_far (p := ⟨a4, 1, none⟩) (Kd.R_far (p := ⟨a4, 0, none⟩) (Kd.R_types a5.out a1.out (by decide)) (fun _ hk => hk.2) (.int .i64 b0)) (fun _ hk => hk.2) (.slice h0 a7.length g1)) (fun _ hk => hk.2) (.slice j7 a3.length h2)) (fun _ h_ => h_.1)))); (case b8 => exact (Kd.R_reads' a5.out).2.1); rintro e O2 ⟨rfl, hb⟩; refine ⟨_, rfl, ?_⟩; replace a6 := mk_ (Kd.R_below (by (with_reducible repeat (first | apply Kd.R_alloc | apply Kd.R_drewN | apply Kd.R_drew)); exact (Kd.R_mono (Kd.R_far (p := ⟨a4, 2, none⟩) (Kd.R_far (p := ⟨a4, 1, none⟩) (Kd.R_far (p := ⟨a4, 0, none⟩) (Kd.R_types a6.out a1.out (by decide)) (fun _ hk => hk.2) (.int .i64 b0)) (fun _ hk => hk.2) (.slice h0 a7.length g1)) (fun _ hk => hk.2) (.slice j7 a3.length h2)) (fun _ h_ => h_.1))) hb); replace a5 := mk_ (Kd.R_below (by (with_reducible repeat (first | apply Kd.R_alloc | apply Kd.R_drewN | apply Kd.R_drew)); exact (Kd.R_mono (Kd.R_far (p := ⟨a4, 2, none⟩) (Kd.R_far (p := ⟨a4, 1, none⟩) (Kd.R_far (p := ⟨a4, 0, none⟩) (Kd.R_types a5.out a1.out (by decide)) (fun _ hk => hk.2) (.int .i64 b0)) (fun _ hk => hk.2) (.slice h0 a7.length g1)) (fun _ hk => hk.2) (.slice j7 a3.length h2)) (fun _ h_ => h_.1))) hb); replace a1 := mk_ (blk_below (g := a4) (o := .cells #[.int .i64 b0, .slice h0 a7.length g1, .slice j7 a3.length h2] 79 (0, 0)) (by (with_reducible repeat (first | refine blk_drewN ?_ _ | refine blk_drew ?_ | refine blk_alloc ?_ _)); refine blk_put (cs := #[.int .i64 b0, .slice h0 a7.length g1, .slice none 0 0]) ?_ 2 _ rfl; (with_reducible repeat (first | refine blk_drewN ?_ _ | refine blk_drew ?_ | refine blk_alloc ?_ _)); refine blk_put (cs := #[.int .i64 b0, .slice none 0 0, .slice none 0 0]) ?_ 1 _ rfl; (with_reducible repeat (first | refine blk_drewN ?_ _ | refine blk_drew ?_ | refine blk_alloc ?_ _)); refine blk_put (cs := #[.int .i64 0, .slice none 0 0, .slice none 0 0]) ?_ 0 _ rfl; (with_reducible repeat (first | refine blk_drewN ?_ _ | refine blk_drew ?_ | refine blk_alloc ?_ _)); exact a1.out) hb); replace HB := mk_ (below_step (by repeat (first | (with_reducible first | exact HB.out | apply below_alloc | apply pw_below_drewN | apply below_drew1 | refine below_set ?_ d2.out) | exact HB.out)) hb); (try clear hb); (try clear g3); (try clear hk); (try clear hi); have G5 := bc0_ a1; have G6 := bc1_ a1; have G7 := bc2_ a1; have G8 := bf_ a1 0; have G9 := bf_ a1 1; have H0 := bf_ a1 2) | ((with_reducible refine gc_ 39 rfl ?_); refine gl_ (some 28) rfl Try.func39 #[.agg #[.int .i64 b0, .slice h0 a7.length g1, .slice j7 a3.length h2]] ?_; (with_reducible refine (spec_AirOk.calls k b0 _ _ a7 _ _ a3 false _ ?b1 ?b2 ?b7 ?b8 A6.out).mono ?_); (case b1 => exact cw_ (rr_ a6)); (case b2 => exact (Kd.R_reads' a6.out).2.1); (case b7 => exact cw_ (rr_ a5)); (case b8 => exact (Kd.R_reads' a5.out).2.1); rintro e O3 ⟨rfl, hb⟩; refine ⟨_, rfl, ?_⟩; replace a6 := rb_ a6 hb; replace a5 := rb_ a5 hb; replace a1 := bl_ a1 hb; replace HB := bp_ HB hb; (try clear hb); (try clear g3); (try clear hk); (try clear hi)))
      go_ret
      exact ⟨re_, hw_ HB⟩
    ·rw [if_neg n9] at H; have q1 : (b9 == 0) = false := beq_eq_false_iff_ne.mpr n9; have q2 : (b9 != 0) = true := bne_iff_ne.mpr n9; obtain rfl := Option.some.inj H
     go_enter Try.func9, Try.ntmps9
     go_wp2_with (first | ((with_reducible refine gc_ 23 rfl ?_); refine gl_ (some 18) rfl Try.func23 #[.slice A0 l0.length c0] ?_; (with_reducible refine (laws_big.calls _ _ l0 false _ ?b1 ?b2 A2.out).mono ?_); (case b1 => exact cw_ m2.out); (case b2 => exact m3.out); rintro e w' ⟨rfl, ⟨nd, rfl⟩⟩; refine ⟨_, rfl, ?_⟩) | ((with_reducible refine gc_ 37 rfl ?_); refine gl_ (some 20) rfl Try.func37 #[.slice A0 l0.length c0] ?_; (with_reducible refine (spec_DrawAirOk.calls k _ _ l0 b0 a7 a3 _ ?b1 ?b2 A4.out).mono ?_); (case b1 => exact cw_ m2.out); (case b2 => exact m3.out); rintro e O4 ⟨v231, v234, rfl, l1, l2, hb⟩; refine ⟨_, rfl, ?_⟩; have a6 := mk_ (Kd.R_lower l1 (below_size (hw_ HB))); have a5 := mk_ (Kd.R_lower l2 (below_size (hw_ HB))); replace HB := hk_ HB hb; (try clear hb); (try clear g3); (try clear hk); (try clear hi); (try clear l1); (try clear l2)) | ((with_reducible refine gd_ 3 rfl ?_); refine box_event ?hg (N := 3) ?hd (cs := #[.int .i64 0, .slice none 0 0, .slice none 0 0]) (t := 79) ?hr ?_; (case hd => rfl); (case hg => rfl); (case hr => exact hr_); intro a4 hg O5 hbox hb; replace a6 := rb_ a6 hb; replace a5 := rb_ a5 hb; have a1 := mk_ (hbox); have d1 := gb_ hg HB; replace HB := bp_ HB hb; have d2 := d1; clear hb hbox hg; have H1 := bc0_ a1; have H2 := bc1_ a1; have H3 := bc2_ a1; have H4 := bf_ a1 0; have H5 := bf_ a1 1; have H6 := bf_ a1 2; obtain ⟨h3, g2, J6⟩ := Kd.R_slice a6.out; subst J6; obtain ⟨j8, h4, J7⟩ := Kd.R_slice a5.out; subst J7) | ((with_reducible refine gc_ 38 rfl ?_); refine gl_ (some 23) rfl Try.func38 #[.agg #[.int .i64 b0, .slice h3 a7.length g2, .slice j8 a3.length h4]] ?_; (with_reducible refine (impl_Coldest.calls k b0 _ _ a7 _ _ a3 b9 c1 false _ ?b1 ?b2 ?b7 ?b8 A5.out).mono ?_); (case b1 => refine (Kd.R_reads' (e := 3) (base := w.heap.size) (ok := fun k_ => some k_ ≠ (.slice j8 a3.length h4 : Value).ownBlock) (n := a7.length) (c := g2) ?_).2.2; exact (by (with_reducible repeat (first | apply Kd.R_alloc | apply Kd.R_drewN | apply Kd.R_drew)); exact (Kd.R_mono (Kd.R_far (p := ⟨a4, 2, none⟩) (Kd.R_far (p := ⟨a4, 1, none⟩) (Kd.R_far (p := ⟨a4, 0, none⟩) (Kd.R_types a6.out a1.out (by decide)) (fun _ hk => hk.2) (.int .i64 b0)) (fun _ hk => hk.2) (.slice h3 a7.length g2)) (fun _ hk => hk.2) (.slice j8 a3.length h4)) (fun _ h_ => h_.1)))); (case b2 => exact (Kd.R_reads' a6.out).2.1); (case b7 => refine (Kd.R_reads' (e := 3) (base := w.heap.size) (ok := fun k_ => some k_ ≠ (.slice h3 a7.length g2 : Value).ownBlock) (n := a3.length) (c := h4) ?_).2.2; exact (by (with_reducible repeat (first | apply Kd.R_alloc | apply Kd.R_drewN | apply Kd.R_drew)); exact (Kd.R_mono (Kd.R_far (p := ⟨a4, 2, none⟩) (Kd.R_far (p := ⟨a4, 1, none⟩) (Kd.R_far (p := ⟨a4, 0, none⟩) (Kd.R_types a5.out a1.out (by decide)) (fun _ hk => hk.2) (.int .i64 b0)) (fun _ hk => hk.2) (.slice h3 a7.length g2)) (fun _ hk => hk.2) (.slice j8 a3.length h4)) (fun _ h_ => h_.1)))); (case b8 => exact (Kd.R_reads' a5.out).2.1); rintro e O6 ⟨rfl, hb⟩; refine ⟨_, rfl, ?_⟩; replace a6 := mk_ (Kd.R_below (by (with_reducible repeat (first | apply Kd.R_alloc | apply Kd.R_drewN | apply Kd.R_drew)); exact (Kd.R_mono (Kd.R_far (p := ⟨a4, 2, none⟩) (Kd.R_far (p := ⟨a4, 1, none⟩) (Kd.R_far (p := ⟨a4, 0, none⟩) (Kd.R_types a6.out a1.out (by decide)) (fun _ hk => hk.2) (.int .i64 b0)) (fun _ hk => hk.2) (.slice h3 a7.length g2)) (fun _ hk => hk.2) (.slice j8 a3.length h4)) (fun _ h_ => h_.1))) hb); replace a5 := mk_ (Kd.R_below (by (with_reducible repeat (first | apply Kd.R_alloc | apply Kd.R_drewN | apply Kd.R_drew)); exact (Kd.R_mono (Kd.R_far (p := ⟨a4, 2, none⟩) (Kd.R_far (p := ⟨a4, 1, none⟩) (Kd.R_far (p := ⟨a4, 0, none⟩) (Kd.R_types a5.out a1.out (by decide)) (fun _ hk => hk.2) (.int .i64 b0)) (fun _ hk => hk.2) (.slice h3 a7.length g2)) (fun _ hk => hk.2) (.slice j8 a3.length h4)) (fun _ h_ => h_.1))) hb); replace a1 := mk_ (blk_below (g := a4) (o := .cells #[.int .i64 b0, .slice h3 a7.length g2, .slice j8 a3.length h4] 79 (0, 0)) (by (with_reducible repeat (first | refine blk_drewN ?_ _ | refine blk_drew ?_ | refine blk_alloc ?_ _)); refine blk_put (cs := #[.int .i64 b0, .slice h3 a7.length g2, .slice none 0 0]) ?_ 2 _ rfl; (with_reducible repeat (first | refine blk_drewN ?_ _ | refine blk_drew ?_ | refine blk_alloc ?_ _)); refine blk_put (cs := #[.int .i64 b0, .slice none 0 0, .slice none 0 0]) ?_ 1 _ rfl; (with_reducible repeat (first | refine blk_drewN ?_ _ | refine blk_drew ?_ | refine blk_alloc ?_ _)); refine blk_put (cs := #[.int .i64 0, .slice none 0 0, .slice none 0 0]) ?_ 0 _ rfl; (with_reducible repeat (first | refine blk_drewN ?_ _ | refine blk_drew ?_ | refine blk_alloc ?_ _)); exact a1.out) hb); replace HB := mk_ (below_step (by repeat (first | (with_reducible first | exact HB.out | apply below_alloc | apply pw_below_drewN | apply below_drew1 | refine below_set ?_ d2.out) | exact HB.out)) hb); (try clear hb); (try clear g3); (try clear hk); (try clear hi); have H7 := bc0_ a1; have H8 := bc1_ a1; have H9 := bc2_ a1; have I0 := bf_ a1 0; have I1 := bf_ a1 1; have I2 := bf_ a1 2) | ((with_reducible refine gc_ 39 rfl ?_); refine gl_ (some 28) rfl Try.func39 #[.agg #[.int .i64 b0, .slice h3 a7.length g2, .slice j8 a3.length h4]] ?_; (with_reducible refine (spec_AirOk.calls k b0 _ _ a7 _ _ a3 false _ ?b1 ?b2 ?b7 ?b8 A6.out).mono ?_); (case b1 => exact cw_ (rr_ a6)); (case b2 => exact (Kd.R_reads' a6.out).2.1); (case b7 => exact cw_ (rr_ a5)); (case b8 => exact (Kd.R_reads' a5.out).2.1); rintro e O7 ⟨rfl, hb⟩; refine ⟨_, rfl, ?_⟩; replace a6 := rb_ a6 hb; replace a5 := rb_ a5 hb; replace a1 := bl_ a1 hb; replace HB := bp_ HB hb; (try clear hb); (try clear g3); (try clear hk); (try clear hi)))
     go_ret
     exact ⟨re_, hw_ HB⟩

/-- THE ONE PURE STATEMENT of laws_FnAir: yours. -/
def laws_FnAir.Pure : Prop := ∀ (l0 : List Int), l0.length ≤ maxLen → l0.length * 1 ≤ 140737488351232 → (∀ x ∈ l0, (Lit.int .u8 x).wf = true) → ∃ k, laws_FnAir.f k l0 = some true
theorem laws_FnAir.walk (P : laws_FnAir.Pure) (a0 : Option Addr) (len0 cap0 : Nat) (z0 : List Int) (w : World) (w0 : (a0 = none ∧ len0 = 0 ∧ cap0 = 0 ∧ z0 = []) ∨ ∃ x, a0 = some x ∧ len0 ≤ cap0 ∧ cap0 ≤ maxLen ∧ z0.length = cap0 ∧ (∀ i, i < z0.length → w.cell? (x.add i) = some (.int .u8 (z0.getD i 0))) ∧ ∀ n ∈ z0, (Lit.int .u8 n).wf = true) (y0 : len0 * 1 ≤ 140737488351232) :
  Calls Try.prog 9 #[.slice a0 len0 cap0] w fun e w' => e = .returned (.bool true) ∧ Below w.heap.size w w' := by
 obtain ⟨l0, rfl, hr0, hm0, hw0, hc0⟩ := ReadsInt.ofRowC w0
 obtain ⟨k, h⟩ := P l0 hm0 y0 hw0
 refine (laws_FnAir.calls k _ _ l0 true w (Kd.C_of_reads (d := (0 : Int)) (h1 := fun _ => rfl) hr0) hc0 h).mono ?_
 rintro e w' ⟨rfl, hd⟩
 exact ⟨rfl, hd⟩

end Go.Proofs.Ytkginilghcepbaa.QFnAir
-- squeezed
