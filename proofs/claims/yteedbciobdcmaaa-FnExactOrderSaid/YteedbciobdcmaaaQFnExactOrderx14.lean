/- Lean functions that tell what the Go functions used by one law answer, and for each a proof that the Go code comes to just these answers; no condition. Printed by this session's own program over the kit's printer. -/
import Derived.Test.YteedbciobdcmaaaWSq
import Derived.Test.YteedbciobdcmaaaQFnExactOrderx0
import Derived.Test.YteedbciobdcmaaaQFnExactOrderx1
import Derived.Test.YteedbciobdcmaaaQFnExactOrderx2
import Derived.Test.YteedbciobdcmaaaQFnExactOrderx7
import Derived.Test.YteedbciobdcmaaaQFnExactOrderx12
import Derived.Test.YteedbciobdcmaaaQFnExactOrderx13
namespace Go.Proofs.Yteedbciobdcmaaa.QFnExactOrder
open Go.RowKit Go.Proofs.YteedbciobdcmaaaW.PrintWords Go.Proofs.YteedbciobdcmaaaW.PrintLast Go.Proofs.YteedbciobdcmaaaW.PrintMore
attribute [local go_sem] max2_int min2_int max_two min_two max_three min_three max_four min_four   -- for this text's walks alone
attribute [local go_sem high] go_eql go_neq go_lss go_leq go_gtr go_geq go_store   -- for this text's walks alone
set_option linter.unusedVariables false
set_option linter.unusedSimpArgs false

/-! ### laws_FnExactOrder: function 4 -/
mutual
def laws_FnExactOrder.j0 : Nat → List (S68) → Int → List (S62) → Bool → List (S60) → List (S62) → Bool → Bool → List Int → List Int → List Int → Int → Int → List Int → List Int → List Int → Option (Bool)
 | 0, _, _, _, _, _, _, _, _, _, _, _, _, _, _, _, _ => none
 | k + 1, x2, x3, x10, x11, x13, x14, x15, x63, x320000, x320001, x320002, x321000, x321001, x351000, x351001, x351002 => if x63 = true then (some false) else ((laws_toEnvelope.f k x320000 x320001 x320002).bind fun bt361 => ((laws_eqEnvelope.f k x351000 x351001 x351002 bt361.1 bt361.2.1 bt361.2.2).bind fun t370 => (if t370 = true then ((laws_toFuelTankS.f k x2).bind fun t371 => ((laws_eqFuelTankS.f k x13 t371).bind fun t374 => (if t374 = true then ((laws_markEnvelope.f k x351000 x351001 x351002 1).bind fun bt375 => ((laws_markFuelTankS.f k x13 bt375.1).bind fun bt379 => (if bt379.1 < 0 then (laws_FnExactOrder.j1 k x2 x3 x10 x11 x14 true x320000 x320001 x320002 x321000 x321001) else ((laws_eqBurnS.f k x14 x10).bind fun t381 => (if t381 = true then (laws_FnExactOrder.j1 k x2 x3 x10 x11 x14 (x15 != x11) x320000 x320001 x320002 x321000 x321001) else (laws_FnExactOrder.j1 k x2 x3 x10 x11 x14 true x320000 x320001 x320002 x321000 x321001)))))) else (some false)))) else (some false))))
def laws_FnExactOrder.j1 : Nat → List (S68) → Int → List (S62) → Bool → List (S62) → Bool → List Int → List Int → List Int → Int → Int → Option (Bool)
 | 0, _, _, _, _, _, _, _, _, _, _, _ => none
 | k + 1, x2, x3, x10, x11, x14, x92, x320000, x320001, x320002, x321000, x321001 => if x92 = true then (some false) else ((laws_markBurnS.f k x14 1).bind fun bt382 => ((laws_heldBurnS.f k bt382.2 1).bind fun t384 => (if t384 < 0 then (some false) else (if t384 = bt382.1 then ((laws_toEnvelope.f k x320000 x320001 x320002).bind fun bt385 => ((laws_toSum2.f x321000 x321001).bind fun bt394 => ((laws_toFuelTankS.f k x2).bind fun t396 => ((impl_Order.f k bt385.1 bt385.2.1 bt385.2.2 bt394.1 bt394.2 t396 x3).bind fun bt399 => ((laws_eqBurnS.f k bt399.1 x10).bind fun t403 => (if t403 = true then (laws_FnExactOrder.j2 k bt382.2 bt382.1 (bt399.2 != x11)) else (laws_FnExactOrder.j2 k bt382.2 bt382.1 true))))))) else (some false)))))
def laws_FnExactOrder.j2 : Nat → List (S62) → Int → Bool → Option (Bool)
 | 0, _, _, _ => none
 | k + 1, x14, x17, x123 => if x123 = true then (some false) else ((laws_heldBurnS.f k x14 1).bind fun t404 => (if t404 < 0 then (some false) else (if t404 = x17 then (some true) else (some false))))
end
def laws_FnExactOrder.f (k : Nat) (l0_0 : List Int) (l0_1 : List Int) (l0_2 : List Int) (a1_0 : Int) (a1_1 : Int) (l2 : List (S68)) (a3 : Int) : Option (Bool) := (laws_szEnvelope.f l0_0 l0_1 l0_2 1048576).bind fun t321 => (if t321 < 0 then (some true) else ((laws_szFuelTankS.f l2 t321).bind fun t322 => (if t322 < 0 then (some true) else ((laws_toEnvelope.f k l0_0 l0_1 l0_2).bind fun bt323 => ((laws_toSum2.f a1_0 a1_1).bind fun bt332 => ((laws_toFuelTankS.f k l2).bind fun t334 => ((spec_Order.f k bt323.1 bt323.2.1 bt323.2.2 bt332.1 bt332.2 t334 a3).bind fun bt337 => ((laws_toEnvelope.f k l0_0 l0_1 l0_2).bind fun bt341 => ((laws_toFuelTankS.f k l2).bind fun t351 => ((laws_toSum2.f a1_0 a1_1).bind fun bt354 => ((impl_Order.f k bt341.1 bt341.2.1 bt341.2.2 bt354.1 bt354.2 t351 a3).bind fun bt356 => ((laws_eqBurnS.f k bt356.1 bt337.1).bind fun t360 => (if t360 = true then (laws_FnExactOrder.j0 k l2 a3 bt337.1 bt337.2 t351 bt356.1 bt356.2 (bt356.2 != bt337.2) l0_0 l0_1 l0_2 a1_0 a1_1 bt341.1 bt341.2.1 bt341.2.2) else (laws_FnExactOrder.j0 k l2 a3 bt337.1 bt337.2 t351 bt356.1 bt356.2 true l0_0 l0_1 l0_2 a1_0 a1_1 bt341.1 bt341.2.1 bt341.2.2))))))))))))))
theorem laws_FnExactOrder.mono_l : ∀ k, (∀ y0 y1 y2 y3 y4 y5 y6 y7 y8 y9 y10 y11 y12 y13 y14 y15, LeO (laws_FnExactOrder.j0 k y0 y1 y2 y3 y4 y5 y6 y7 y8 y9 y10 y11 y12 y13 y14 y15) (laws_FnExactOrder.j0 (k + 1) y0 y1 y2 y3 y4 y5 y6 y7 y8 y9 y10 y11 y12 y13 y14 y15)) ∧ (∀ y0 y1 y2 y3 y4 y5 y6 y7 y8 y9 y10, LeO (laws_FnExactOrder.j1 k y0 y1 y2 y3 y4 y5 y6 y7 y8 y9 y10) (laws_FnExactOrder.j1 (k + 1) y0 y1 y2 y3 y4 y5 y6 y7 y8 y9 y10)) ∧ (∀ y0 y1 y2, LeO (laws_FnExactOrder.j2 k y0 y1 y2) (laws_FnExactOrder.j2 (k + 1) y0 y1 y2))
 | 0 => ⟨fun _ _ _ _ _ _ _ _ _ _ _ _ _ _ _ _ r h => by simp [laws_FnExactOrder.j0] at h, fun _ _ _ _ _ _ _ _ _ _ _ r h => by simp [laws_FnExactOrder.j1] at h, fun _ _ _ r h => by simp [laws_FnExactOrder.j2] at h⟩
 | k + 1 => by
  obtain ⟨ih0, ih1, ih2⟩ := laws_FnExactOrder.mono_l k
  refine ⟨?_, ?_, ?_⟩
  ·intro y0 y1 y2 y3 y4 y5 y6 y7 y8 y9 y10 y11 y12 y13 y14 y15
   unfold laws_FnExactOrder.j0
   repeat' first
   | (with_reducible exact ih0 _ _ _ _ _ _ _ _ _ _ _ _ _ _ _ _)
   | (with_reducible exact ih1 _ _ _ _ _ _ _ _ _ _ _)
   | (with_reducible exact ih2 _ _ _)
   | (with_reducible exact impl_Order.mono _ _ _ _ _ _ _ _)
   | (with_reducible exact laws_eqBurnS.mono _ _ _)
   | (with_reducible exact laws_eqEnvelope.mono _ _ _ _ _ _ _)
   | (with_reducible exact laws_eqFuelTankS.mono _ _ _)
   | (with_reducible exact laws_heldBurnS.mono _ _ _)
   | (with_reducible exact laws_markBurnS.mono _ _ _)
   | (with_reducible exact laws_markEnvelope.mono _ _ _ _ _)
   | (with_reducible exact laws_markFuelTankS.mono _ _ _)
   | (with_reducible exact laws_toEnvelope.mono _ _ _ _)
   | (with_reducible exact laws_toFuelTankS.mono _ _)
   | (with_reducible exact spec_Order.mono _ _ _ _ _ _ _ _)
   | (with_reducible exact LeO.refl _)
   | (with_reducible exact LeO.none _)
   | (with_reducible refine LeO.ite ?_ ?_)
   | (with_reducible refine LeO.bind ?_ (fun _ => ?_))
   | exact ih0 _ _ _ _ _ _ _ _ _ _ _ _ _ _ _ _
   | exact ih1 _ _ _ _ _ _ _ _ _ _ _
   | exact ih2 _ _ _
   | exact impl_Order.mono _ _ _ _ _ _ _ _
   | exact laws_eqBurnS.mono _ _ _
   | exact laws_eqEnvelope.mono _ _ _ _ _ _ _
   | exact laws_eqFuelTankS.mono _ _ _
   | exact laws_heldBurnS.mono _ _ _
   | exact laws_markBurnS.mono _ _ _
   | exact laws_markEnvelope.mono _ _ _ _ _
   | exact laws_markFuelTankS.mono _ _ _
   | exact laws_toEnvelope.mono _ _ _ _
   | exact laws_toFuelTankS.mono _ _
   | exact spec_Order.mono _ _ _ _ _ _ _ _
   | exact LeO.none _
   | refine LeO.ite ?_ ?_
   | refine LeO.bind ?_ (fun _ => ?_)
  ·intro y0 y1 y2 y3 y4 y5 y6 y7 y8 y9 y10
   unfold laws_FnExactOrder.j1
   repeat' first
   | (with_reducible exact ih0 _ _ _ _ _ _ _ _ _ _ _ _ _ _ _ _)
   | (with_reducible exact ih1 _ _ _ _ _ _ _ _ _ _ _)
   | (with_reducible exact ih2 _ _ _)
   | (with_reducible exact impl_Order.mono _ _ _ _ _ _ _ _)
   | (with_reducible exact laws_eqBurnS.mono _ _ _)
   | (with_reducible exact laws_eqEnvelope.mono _ _ _ _ _ _ _)
   | (with_reducible exact laws_eqFuelTankS.mono _ _ _)
   | (with_reducible exact laws_heldBurnS.mono _ _ _)
   | (with_reducible exact laws_markBurnS.mono _ _ _)
   | (with_reducible exact laws_markEnvelope.mono _ _ _ _ _)
   | (with_reducible exact laws_markFuelTankS.mono _ _ _)
   | (with_reducible exact laws_toEnvelope.mono _ _ _ _)
   | (with_reducible exact laws_toFuelTankS.mono _ _)
   | (with_reducible exact spec_Order.mono _ _ _ _ _ _ _ _)
   | (with_reducible exact LeO.refl _)
   | (with_reducible exact LeO.none _)
   | (with_reducible refine LeO.ite ?_ ?_)
   | (with_reducible refine LeO.bind ?_ (fun _ => ?_))
   | exact ih0 _ _ _ _ _ _ _ _ _ _ _ _ _ _ _ _
   | exact ih1 _ _ _ _ _ _ _ _ _ _ _
   | exact ih2 _ _ _
   | exact impl_Order.mono _ _ _ _ _ _ _ _
   | exact laws_eqBurnS.mono _ _ _
   | exact laws_eqEnvelope.mono _ _ _ _ _ _ _
   | exact laws_eqFuelTankS.mono _ _ _
   | exact laws_heldBurnS.mono _ _ _
   | exact laws_markBurnS.mono _ _ _
   | exact laws_markEnvelope.mono _ _ _ _ _
   | exact laws_markFuelTankS.mono _ _ _
   | exact laws_toEnvelope.mono _ _ _ _
   | exact laws_toFuelTankS.mono _ _
   | exact spec_Order.mono _ _ _ _ _ _ _ _
   | exact LeO.none _
   | refine LeO.ite ?_ ?_
   | refine LeO.bind ?_ (fun _ => ?_)
  ·intro y0 y1 y2
   unfold laws_FnExactOrder.j2
   repeat' first
   | (with_reducible exact ih0 _ _ _ _ _ _ _ _ _ _ _ _ _ _ _ _)
   | (with_reducible exact ih1 _ _ _ _ _ _ _ _ _ _ _)
   | (with_reducible exact ih2 _ _ _)
   | (with_reducible exact impl_Order.mono _ _ _ _ _ _ _ _)
   | (with_reducible exact laws_eqBurnS.mono _ _ _)
   | (with_reducible exact laws_eqEnvelope.mono _ _ _ _ _ _ _)
   | (with_reducible exact laws_eqFuelTankS.mono _ _ _)
   | (with_reducible exact laws_heldBurnS.mono _ _ _)
   | (with_reducible exact laws_markBurnS.mono _ _ _)
   | (with_reducible exact laws_markEnvelope.mono _ _ _ _ _)
   | (with_reducible exact laws_markFuelTankS.mono _ _ _)
   | (with_reducible exact laws_toEnvelope.mono _ _ _ _)
   | (with_reducible exact laws_toFuelTankS.mono _ _)
   | (with_reducible exact spec_Order.mono _ _ _ _ _ _ _ _)
   | (with_reducible exact LeO.refl _)
   | (with_reducible exact LeO.none _)
   | (with_reducible refine LeO.ite ?_ ?_)
   | (with_reducible refine LeO.bind ?_ (fun _ => ?_))
   | exact ih0 _ _ _ _ _ _ _ _ _ _ _ _ _ _ _ _
   | exact ih1 _ _ _ _ _ _ _ _ _ _ _
   | exact ih2 _ _ _
   | exact impl_Order.mono _ _ _ _ _ _ _ _
   | exact laws_eqBurnS.mono _ _ _
   | exact laws_eqEnvelope.mono _ _ _ _ _ _ _
   | exact laws_eqFuelTankS.mono _ _ _
   | exact laws_heldBurnS.mono _ _ _
   | exact laws_markBurnS.mono _ _ _
   | exact laws_markEnvelope.mono _ _ _ _ _
   | exact laws_markFuelTankS.mono _ _ _
   | exact laws_toEnvelope.mono _ _ _ _
   | exact laws_toFuelTankS.mono _ _
   | exact spec_Order.mono _ _ _ _ _ _ _ _
   | exact LeO.none _
   | refine LeO.ite ?_ ?_
   | refine LeO.bind ?_ (fun _ => ?_)
theorem laws_FnExactOrder.mono : ∀ a0 a1 a2 a3 a4 a5 a6 k, LeO (laws_FnExactOrder.f k a0 a1 a2 a3 a4 a5 a6) (laws_FnExactOrder.f (k + 1) a0 a1 a2 a3 a4 a5 a6) := by
 intro a0 a1 a2 a3 a4 a5 a6 k
 obtain ⟨ih0, ih1, ih2⟩ := laws_FnExactOrder.mono_l k
 unfold laws_FnExactOrder.f
 repeat' first
   | (with_reducible exact ih0 _ _ _ _ _ _ _ _ _ _ _ _ _ _ _ _)
   | (with_reducible exact ih1 _ _ _ _ _ _ _ _ _ _ _)
   | (with_reducible exact ih2 _ _ _)
   | (with_reducible exact impl_Order.mono _ _ _ _ _ _ _ _)
   | (with_reducible exact laws_eqBurnS.mono _ _ _)
   | (with_reducible exact laws_eqEnvelope.mono _ _ _ _ _ _ _)
   | (with_reducible exact laws_eqFuelTankS.mono _ _ _)
   | (with_reducible exact laws_heldBurnS.mono _ _ _)
   | (with_reducible exact laws_markBurnS.mono _ _ _)
   | (with_reducible exact laws_markEnvelope.mono _ _ _ _ _)
   | (with_reducible exact laws_markFuelTankS.mono _ _ _)
   | (with_reducible exact laws_toEnvelope.mono _ _ _ _)
   | (with_reducible exact laws_toFuelTankS.mono _ _)
   | (with_reducible exact spec_Order.mono _ _ _ _ _ _ _ _)
   | (with_reducible exact LeO.refl _)
   | (with_reducible exact LeO.none _)
   | (with_reducible refine LeO.ite ?_ ?_)
   | (with_reducible refine LeO.bind ?_ (fun _ => ?_))
   | exact ih0 _ _ _ _ _ _ _ _ _ _ _ _ _ _ _ _
   | exact ih1 _ _ _ _ _ _ _ _ _ _ _
   | exact ih2 _ _ _
   | exact impl_Order.mono _ _ _ _ _ _ _ _
   | exact laws_eqBurnS.mono _ _ _
   | exact laws_eqEnvelope.mono _ _ _ _ _ _ _
   | exact laws_eqFuelTankS.mono _ _ _
   | exact laws_heldBurnS.mono _ _ _
   | exact laws_markBurnS.mono _ _ _
   | exact laws_markEnvelope.mono _ _ _ _ _
   | exact laws_markFuelTankS.mono _ _ _
   | exact laws_toEnvelope.mono _ _ _ _
   | exact laws_toFuelTankS.mono _ _
   | exact spec_Order.mono _ _ _ _ _ _ _ _
   | exact LeO.none _
   | refine LeO.ite ?_ ?_
   | refine LeO.bind ?_ (fun _ => ?_)
def laws_FnExactOrder.T8 : Bool × List (List Nat × List Nat) := (true, [([], []), ([0], [0]), ([], []), ([2, 1], [2]), ([], []), ([4, 3], [4]), ([], []), ([1, 3, 5, 6, 5], [1, 3, 5, 6]), ([7], [7]), ([8], [8]), ([8], [8]), ([9, 7, 0, 1, 2, 3, 4, 5, 6, 7, 8, 9], [9]), ([10, 11, 0, 1, 2, 3, 4, 5, 6, 7, 8, 9, 10, 11], [10])])
def laws_FnExactOrder.B8 : List Nat := [0, 1, 0, 7, 0, 31, 0, 127, 255, 511, 511, 1023, 4095]
theorem laws_FnExactOrder.tab8 : rtab .any (opsOf Try.f4 8) = laws_FnExactOrder.T8 := by kernel_rfl
theorem laws_FnExactOrder.bits8 : waitsOk laws_FnExactOrder.T8.2 laws_FnExactOrder.B8 = true := by kernel_rfl
def laws_FnExactOrder.T11 : Bool × List (List Nat × List Nat) := (true, [([], []), ([], []), ([1], [1]), ([], []), ([], []), ([0, 2, 3, 4, 2], [0, 2, 3, 4]), ([5], [5]), ([6], [6]), ([6], [6]), ([7, 5, 0, 1, 2, 3, 4, 5, 6, 7], [7]), ([8, 9, 0, 1, 2, 3, 4, 5, 6, 7, 8, 9], [8])])
def laws_FnExactOrder.B11 : List Nat := [0, 0, 2, 0, 0, 31, 63, 127, 127, 255, 1023]
theorem laws_FnExactOrder.tab11 : rtab .any (opsOf Try.f4 11) = laws_FnExactOrder.T11 := by kernel_rfl
theorem laws_FnExactOrder.bits11 : waitsOk laws_FnExactOrder.T11.2 laws_FnExactOrder.B11 = true := by kernel_rfl
def laws_FnExactOrder.T31 : Bool × List (List Nat × List Nat) := (true, [([], []), ([0], [0]), ([], []), ([2, 1], [2]), ([], []), ([4, 3], [4]), ([], []), ([1, 3, 5, 6, 5], [1, 3, 5, 6]), ([7], [7]), ([8], [8]), ([8], [8]), ([9, 7, 0, 1, 2, 3, 4, 5, 6, 7, 8, 9], [9]), ([10, 11, 0, 1, 2, 3, 4, 5, 6, 7, 8, 9, 10, 11], [10])])
def laws_FnExactOrder.B31 : List Nat := [0, 1, 0, 7, 0, 31, 0, 127, 255, 511, 511, 1023, 4095]
theorem laws_FnExactOrder.tab31 : rtab .any (opsOf Try.f4 31) = laws_FnExactOrder.T31 := by kernel_rfl
theorem laws_FnExactOrder.bits31 : waitsOk laws_FnExactOrder.T31.2 laws_FnExactOrder.B31 = true := by kernel_rfl
set_option maxHeartbeats 8000000 in
set_option maxRecDepth 100000 in
theorem laws_FnExactOrder.calls (k : Nat) (A0_0 : Option Addr) (c0_0 : Nat) (l0_0 : List Int) (A0_1 : Option Addr) (c0_1 : Nat) (l0_1 : List Int) (A0_2 : Option Addr) (c0_2 : Nat) (l0_2 : List Int) (a1_0 : Int) (a1_1 : Int) (A2 : Option Addr) (c2 : Nat) (l2 : List (S68)) (a3 : Int) (r : Bool) (w : World) (hr0_0 : Kd.C (Kd.int .i64) w A0_0 l0_0.length l0_0) (hc0_0 : l0_0.length ≤ c0_0) (hr0_1 : Kd.C (Kd.int .i64) w A0_1 l0_1.length l0_1) (hc0_1 : l0_1.length ≤ c0_1) (hr0_2 : Kd.C (Kd.int .i64) w A0_2 l0_2.length l0_2) (hc0_2 : l0_2.length ≤ c0_2) (hr2 : Kd.C k68 w A2 l2.length l2) (hc2 : l2.length ≤ c2) (h : laws_FnExactOrder.f k l0_0 l0_1 l0_2 a1_0 a1_1 l2 a3 = some r) :
  Calls Try.prog 4 #[.agg #[.slice A0_0 l0_0.length c0_0, .slice A0_1 l0_1.length c0_1, .slice A0_2 l0_2.length c0_2], .agg #[.int .i64 a1_0, .int .i64 a1_1], .slice A2 l2.length c2, .int .i64 a3] w fun e w' => e = .returned (.bool r) ∧ Below w.heap.size w w' := by
 have hu24 := Try.underlying24
 have hu26 := Try.underlying26
 have hu33 := Try.underlying33
 have HR0_0 := mk_ hr0_0; have HC0_0 := mk_ hc0_0; clear hr0_0 hc0_0; have HR0_1 := mk_ hr0_1; have HC0_1 := mk_ hc0_1; clear hr0_1 hc0_1; have HR0_2 := mk_ hr0_2; have HC0_2 := mk_ hc0_2; clear hr0_2 hc0_2; have HR2 := mk_ hr2; have HC2 := mk_ hc2; clear hr2 hc2; have HB := mk_ (Below.refl w.heap.size w)
 have H : ((laws_szEnvelope.f l0_0 l0_1 l0_2 1048576).bind fun t321 => (if t321 < 0 then (some true) else ((laws_szFuelTankS.f l2 t321).bind fun t322 => (if t322 < 0 then (some true) else ((laws_toEnvelope.f k l0_0 l0_1 l0_2).bind fun bt323 => ((laws_toSum2.f a1_0 a1_1).bind fun bt332 => ((laws_toFuelTankS.f k l2).bind fun t334 => ((spec_Order.f k bt323.1 bt323.2.1 bt323.2.2 bt332.1 bt332.2 t334 a3).bind fun bt337 => ((laws_toEnvelope.f k l0_0 l0_1 l0_2).bind fun bt341 => ((laws_toFuelTankS.f k l2).bind fun t351 => ((laws_toSum2.f a1_0 a1_1).bind fun bt354 => ((impl_Order.f k bt341.1 bt341.2.1 bt341.2.2 bt354.1 bt354.2 t351 a3).bind fun bt356 => ((laws_eqBurnS.f k bt356.1 bt337.1).bind fun t360 => (if t360 = true then (laws_FnExactOrder.j0 k l2 a3 bt337.1 bt337.2 t351 bt356.1 bt356.2 (bt356.2 != bt337.2) l0_0 l0_1 l0_2 a1_0 a1_1 bt341.1 bt341.2.1 bt341.2.2) else (laws_FnExactOrder.j0 k l2 a3 bt337.1 bt337.2 t351 bt356.1 bt356.2 true l0_0 l0_1 l0_2 a1_0 a1_1 bt341.1 bt341.2.1 bt341.2.2))))))))))))))) = some r := h
 clear h; replace H := Option.bind_eq_some_iff.mp H; obtain ⟨t321, A50, H⟩ := H; (try dsimp only at H); have A5 := mk_ A50; clear A50; by_cases c6 : t321 < 0
 ·rw [if_pos c6] at H; have c6b0 : decide (t321 < 0) = true := decide_eq_true c6; clear c6; obtain rfl := Option.some.inj H
  go_enter Try.func4, Try.ntmps4
  go_wp2_with (first | ((with_reducible refine gd_ 4 rfl ?_); refine box_event ?hg (N := 4) ?hd (cs := #[.slice A0_0 l0_0.length c0_0, .slice A0_1 l0_1.length c0_1, .slice A0_2 l0_2.length c0_2]) (t := 24) ?hr ?_; (case hd => rfl); (case hg => rfl); (case hr => exact hr_); intro gb319 hg w7 hbox hb; have BK319 := mk_ (hbox); have GW319 := gb_ hg HB; replace HB := bp_ HB hb; have GE319 := GW319; clear hb hbox hg) | ((with_reducible refine gd_ 5 rfl ?_); refine box_event ?hg (N := 5) ?hd (cs := #[.int .i64 a1_0, .int .i64 a1_1]) (t := 26) ?hr ?_; (case hd => rfl); (case hg => rfl); (case hr => exact hr_); intro gb320 hg w8 hbox hb; have BK320 := mk_ (hbox); have GW320 := gb_ hg HB; replace HB := bp_ HB hb; have GE320 := GW320; have NB319_320 := nb_ hg BK319; replace BK319 := bl_ BK319 hb; have NB320_319 := ns_ NB319_320; clear hb hbox hg; have hnb9 := NB319_320.out; have hnc9 := NB320_319.out; have hcz10_0 := bc0_ BK319; have hcz10_1 := bc1_ BK319; have hcz10_2 := bc2_ BK319; have hfz10_0 := bf_ BK319 0; have hfz10_1 := bf_ BK319 1; have hfz10_2 := bf_ BK319 2) | ((with_reducible refine gc_ 7 rfl ?_); refine gl_ (some 23) rfl Try.func7 #[.agg #[.slice A0_0 l0_0.length c0_0, .slice A0_1 l0_1.length c0_1, .slice A0_2 l0_2.length c0_2], .int .i64 1048576] ?_; (with_reducible refine (laws_szEnvelope.calls _ _ l0_0 _ _ l0_1 _ _ l0_2 1048576 t321 _ ?side1 ?side2 ?side3 ?side4 ?side5 ?side6 A5.out).mono ?_); (case side1 => exact cw_ (Kd.C_below HR0_0.out HB.out)); (case side2 => exact HC0_0.out); (case side3 => exact cw_ (Kd.C_below HR0_1.out HB.out)); (case side4 => exact HC0_1.out); (case side5 => exact cw_ (Kd.C_below HR0_2.out HB.out)); (case side6 => exact HC0_2.out); rintro e w11 ⟨rfl, hb⟩; refine ⟨_, rfl, ?_⟩; replace BK319 := bl_ BK319 hb; replace BK320 := bl_ BK320 hb; replace HB := bp_ HB hb; (try clear hb); (try clear hb2); (try clear hk); (try clear hi)))
  go_ret
  exact ⟨re_, hw_ HB⟩
 ·rw [if_neg c6] at H; have c6b0 : decide (t321 < 0) = false := decide_eq_false c6; clear c6; replace H := Option.bind_eq_some_iff.mp H; obtain ⟨t322, A120, H⟩ := H; (try dsimp only at H); have A12 := mk_ A120; clear A120; by_cases c13 : t322 < 0
  ·rw [if_pos c13] at H; have c13b0 : decide (t322 < 0) = true := decide_eq_true c13; clear c13; obtain rfl := Option.some.inj H
   go_enter Try.func4, Try.ntmps4
   go_wp2_with (first | ((with_reducible refine gd_ 4 rfl ?_); refine box_event ?hg (N := 4) ?hd (cs := #[.slice A0_0 l0_0.length c0_0, .slice A0_1 l0_1.length c0_1, .slice A0_2 l0_2.length c0_2]) (t := 24) ?hr ?_; (case hd => rfl); (case hg => rfl); (case hr => exact hr_); intro gb319 hg w14 hbox hb; have BK319 := mk_ (hbox); have GW319 := gb_ hg HB; replace HB := bp_ HB hb; have GE319 := GW319; clear hb hbox hg) | ((with_reducible refine gd_ 5 rfl ?_); refine box_event ?hg (N := 5) ?hd (cs := #[.int .i64 a1_0, .int .i64 a1_1]) (t := 26) ?hr ?_; (case hd => rfl); (case hg => rfl); (case hr => exact hr_); intro gb320 hg w15 hbox hb; have BK320 := mk_ (hbox); have GW320 := gb_ hg HB; replace HB := bp_ HB hb; have GE320 := GW320; have NB319_320 := nb_ hg BK319; replace BK319 := bl_ BK319 hb; have NB320_319 := ns_ NB319_320; clear hb hbox hg; have hnb16 := NB319_320.out; have hnc16 := NB320_319.out; have hcz17_0 := bc0_ BK319; have hcz17_1 := bc1_ BK319; have hcz17_2 := bc2_ BK319; have hfz17_0 := bf_ BK319 0; have hfz17_1 := bf_ BK319 1; have hfz17_2 := bf_ BK319 2) | ((with_reducible refine gc_ 7 rfl ?_); refine gl_ (some 23) rfl Try.func7 #[.agg #[.slice A0_0 l0_0.length c0_0, .slice A0_1 l0_1.length c0_1, .slice A0_2 l0_2.length c0_2], .int .i64 1048576] ?_; (with_reducible refine (laws_szEnvelope.calls _ _ l0_0 _ _ l0_1 _ _ l0_2 1048576 t321 _ ?side1 ?side2 ?side3 ?side4 ?side5 ?side6 A5.out).mono ?_); (case side1 => exact cw_ (Kd.C_below HR0_0.out HB.out)); (case side2 => exact HC0_0.out); (case side3 => exact cw_ (Kd.C_below HR0_1.out HB.out)); (case side4 => exact HC0_1.out); (case side5 => exact cw_ (Kd.C_below HR0_2.out HB.out)); (case side6 => exact HC0_2.out); rintro e w18 ⟨rfl, hb⟩; refine ⟨_, rfl, ?_⟩; replace BK319 := bl_ BK319 hb; replace BK320 := bl_ BK320 hb; replace HB := bp_ HB hb; (try clear hb); (try clear hb2); (try clear hk); (try clear hi)) | ((with_reducible refine gc_ 8 rfl ?_); refine gl_ (some 28) rfl Try.func8 #[.slice A2 l2.length c2, .int .i64 t321] ?_; (with_reducible refine (laws_szFuelTankS.calls _ _ l2 t321 t322 _ ?side1 ?side2 A12.out).mono ?_); (case side1 => exact cw_ (Kd.C_below HR2.out HB.out)); (case side2 => exact HC2.out); rintro e w' ⟨rfl, ⟨nd, rfl⟩⟩; refine ⟨_, rfl, ?_⟩))
   go_ret
   exact ⟨re_, hw_ HB⟩
  ·rw [if_neg c13] at H; have c13b0 : decide (t322 < 0) = false := decide_eq_false c13; clear c13; replace H := Option.bind_eq_some_iff.mp H; obtain ⟨⟨t323, t326, t329⟩, A190, H⟩ := H; (try dsimp only at H); have A19 := mk_ A190; clear A190; replace H := Option.bind_eq_some_iff.mp H; obtain ⟨⟨t332, t333⟩, A200, H⟩ := H; (try dsimp only at H); have A20 := mk_ A200; clear A200; replace H := Option.bind_eq_some_iff.mp H; obtain ⟨t334, A210, H⟩ := H; (try dsimp only at H); have A21 := mk_ A210; clear A210; replace H := Option.bind_eq_some_iff.mp H; obtain ⟨⟨t337, t340⟩, A220, H⟩ := H; (try dsimp only at H); have A22 := mk_ A220; clear A220; replace H := Option.bind_eq_some_iff.mp H; obtain ⟨⟨t341, t344, t347⟩, A230, H⟩ := H; (try dsimp only at H); have A23 := mk_ A230; clear A230; replace H := Option.bind_eq_some_iff.mp H; obtain ⟨t351, A240, H⟩ := H; (try dsimp only at H); have A24 := mk_ A240; clear A240; replace H := Option.bind_eq_some_iff.mp H; obtain ⟨⟨t354, t355⟩, A250, H⟩ := H; (try dsimp only at H); have A25 := mk_ A250; clear A250; replace H := Option.bind_eq_some_iff.mp H; obtain ⟨⟨t356, t359⟩, A260, H⟩ := H; (try dsimp only at H); have A26 := mk_ A260; clear A260; have HC27 := mk_ H; clear H
   go_enter Try.func4, Try.ntmps4
   try go_wp2_with (first | ((with_reducible refine gd_ 4 rfl ?_); refine box_event ?hg (N := 4) ?hd (cs := #[.slice A0_0 l0_0.length c0_0, .slice A0_1 l0_1.length c0_1, .slice A0_2 l0_2.length c0_2]) (t := 24) ?hr ?_; (case hd => rfl); (case hg => rfl); (case hr => exact hr_); intro gb319 hg w28 hbox hb; have BK319 := mk_ (hbox); have GW319 := gb_ hg HB; replace HB := bp_ HB hb; have GE319 := GW319; clear hb hbox hg) | ((with_reducible refine gd_ 5 rfl ?_); refine box_event ?hg (N := 5) ?hd (cs := #[.int .i64 a1_0, .int .i64 a1_1]) (t := 26) ?hr ?_; (case hd => rfl); (case hg => rfl); (case hr => exact hr_); intro gb320 hg w29 hbox hb; have BK320 := mk_ (hbox); have GW320 := gb_ hg HB; replace HB := bp_ HB hb; have GE320 := GW320; have NB319_320 := nb_ hg BK319; replace BK319 := bl_ BK319 hb; have NB320_319 := ns_ NB319_320; clear hb hbox hg; have hnb30 := NB319_320.out; have hnc30 := NB320_319.out; have hcz31_0 := bc0_ BK319; have hcz31_1 := bc1_ BK319; have hcz31_2 := bc2_ BK319; have hfz31_0 := bf_ BK319 0; have hfz31_1 := bf_ BK319 1; have hfz31_2 := bf_ BK319 2) | ((with_reducible refine gc_ 7 rfl ?_); refine gl_ (some 23) rfl Try.func7 #[.agg #[.slice A0_0 l0_0.length c0_0, .slice A0_1 l0_1.length c0_1, .slice A0_2 l0_2.length c0_2], .int .i64 1048576] ?_; (with_reducible refine (laws_szEnvelope.calls _ _ l0_0 _ _ l0_1 _ _ l0_2 1048576 t321 _ ?side1 ?side2 ?side3 ?side4 ?side5 ?side6 A5.out).mono ?_); (case side1 => exact cw_ (Kd.C_below HR0_0.out HB.out)); (case side2 => exact HC0_0.out); (case side3 => exact cw_ (Kd.C_below HR0_1.out HB.out)); (case side4 => exact HC0_1.out); (case side5 => exact cw_ (Kd.C_below HR0_2.out HB.out)); (case side6 => exact HC0_2.out); rintro e w32 ⟨rfl, hb⟩; refine ⟨_, rfl, ?_⟩; replace BK319 := bl_ BK319 hb; replace BK320 := bl_ BK320 hb; replace HB := bp_ HB hb; (try clear hb); (try clear hb2); (try clear hk); (try clear hi)) | ((with_reducible refine gc_ 8 rfl ?_); refine gl_ (some 28) rfl Try.func8 #[.slice A2 l2.length c2, .int .i64 t321] ?_; (with_reducible refine (laws_szFuelTankS.calls _ _ l2 t321 t322 _ ?side1 ?side2 A12.out).mono ?_); (case side1 => exact cw_ (Kd.C_below HR2.out HB.out)); (case side2 => exact HC2.out); rintro e w' ⟨rfl, ⟨nd, rfl⟩⟩; refine ⟨_, rfl, ?_⟩; (try (rw [drewN_self w32]; generalize hq_ : World.drewN w32 _ = w32; have n0_ := qB_ hq_ BK319; have n1_ := qB_ hq_ BK320; have n2_ := qH_ hq_ HB; clear BK319 BK320 HB hq_; have BK319 := n0_; have BK320 := n1_; have HB := n2_; clear n0_ n1_ n2_))))
   replace BK319 := dB_ BK319; replace BK320 := dB_ BK320; replace HB := dH_ HB
   refine start_ (n := 13) (S := fun w' => w'.cell? ⟨gb319, 0, none⟩ = some (.slice A0_0 l0_0.length c0_0) ∧ w'.cell? ⟨gb319, 1, none⟩ = some (.slice A0_1 l0_1.length c0_1) ∧ w'.cell? ⟨gb319, 2, none⟩ = some (.slice A0_2 l0_2.length c0_2) ∧ w'.cell? ⟨gb320, 0, none⟩ = some (.int .i64 a1_0) ∧ w'.cell? ⟨gb320, 1, none⟩ = some (.int .i64 a1_1)) (ds := []) (bs_ 13 0) (by kernel_rfl) rfl (by kernel_rfl) ⟨bc0_ BK319, bc1_ BK319, bc2_ BK319, bc0_ BK320, bc1_ BK320⟩ (fun hHeld => ?_); refine with_tabW laws_FnExactOrder.tab8 laws_FnExactOrder.bits8 (fun HT_ HW_ => ?_)
   generalize w32.drew = w33 at BK319 BK320 HB hHeld ⊢
   refine pu_ HT_ 4 36 (bs_ 13 16) ?_; refine pu_ HT_ 6 38 (bs_ 13 80) ?_; refine tk_ HT_ HW_ 0 32 (bs_ 13 81) hHeld ?_; refine tk_ HT_ HW_ 2 34 (bs_ 13 85) hHeld ?_
   refine one_ (i := 1) (N := some 33) (bs_ 13 87) rfl rfl (one_of HT_.out (by kernel_rfl)) (by decide) (fun K hK => ?_)
   refine gs_ Try.func11 #[.agg #[.slice A0_0 l0_0.length c0_0, .slice A0_1 l0_1.length c0_1, .slice A0_2 l0_2.length c0_2]] ?_
   with_reducible refine (laws_toEnvelope.calls k _ _ l0_0 _ _ l0_1 _ _ l0_2 t323 t326 t329 _ ?side1 ?side2 ?side3 ?side4 ?side5 ?side6 A19.out).mono ?_
   (case side1 => exact cw_ (Kd.C_below HR0_0.out HB.out))
   (case side2 => exact HC0_0.out)
   (case side3 => exact cw_ (Kd.C_below HR0_1.out HB.out))
   (case side4 => exact HC0_1.out)
   (case side5 => exact cw_ (Kd.C_below HR0_2.out HB.out))
   (case side6 => exact HC0_2.out)
   rintro e w34 ⟨v324, v327, v330, rfl, ho0, ho1, ho2, hb⟩
   refine ⟨_, rfl, ?_⟩; have HO325 := mk_ (Kd.R_lower ho0 (below_size (hw_ HB))); have HO328 := mk_ (Kd.R_lower ho1 (below_size (hw_ HB))); have HO331 := mk_ (Kd.R_lower ho2 (below_size (hw_ HB))); replace BK319 := bk_ BK319 hb; replace BK320 := bk_ BK320 hb; replace HB := hk_ HB hb
   (try clear hb); (try clear hb2); (try clear hk); (try clear hi); (try clear ho0); (try clear ho1); (try clear ho2)
   refine hK.out _ _ ⟨bc0_ BK319, bc1_ BK319, bc2_ BK319, bc0_ BK320, bc1_ BK320⟩ (fun hHeld => ?_)
   clear hK K; refine nm_ ?_
   refine one_ (i := 3) (N := some 35) (bs_ 13 95) rfl rfl (one_of HT_.out (by kernel_rfl)) (by decide) (fun K hK => ?_)
   refine gs_ Try.func12 #[.agg #[.int .i64 a1_0, .int .i64 a1_1]] ?_
   with_reducible refine (laws_toSum2.calls a1_0 a1_1 t332 t333 _ A20.out).mono ?_
   rintro e w35 ⟨rfl, hb⟩
   refine ⟨_, rfl, ?_⟩
   replace HO325 := rk_ HO325 hb; replace HO328 := rk_ HO328 hb; replace HO331 := rk_ HO331 hb; replace BK319 := bk_ BK319 hb; replace BK320 := bk_ BK320 hb; replace HB := hk_ HB hb
   (try clear hb); (try clear hb2); (try clear hk); (try clear hi)
   refine hK.out _ _ ⟨bc0_ BK319, bc1_ BK319, bc2_ BK319, bc0_ BK320, bc1_ BK320⟩ (fun hHeld => ?_)
   clear hK K; refine nm_ ?_
   refine one_ (i := 5) (N := some 37) (bs_ 13 127) rfl rfl (one_of HT_.out (by kernel_rfl)) (by decide) (fun K hK => ?_)
   refine gs_ Try.func13 #[.slice A2 l2.length c2] ?_
   with_reducible refine (laws_toFuelTankS.calls k _ _ l2 t334 _ ?side1 ?side2 A21.out).mono ?_
   (case side1 => exact cw_ (Kd.C_below HR2.out HB.out))
   (case side2 => exact HC2.out)
   rintro e w36 ⟨v335, rfl, ho0, hb⟩
   refine ⟨_, rfl, ?_⟩
   replace HO325 := rk_ HO325 hb; replace HO328 := rk_ HO328 hb; replace HO331 := rk_ HO331 hb; have HO336 := mk_ (Kd.R_lower ho0 (below_size (hw_ HB))); replace BK319 := bk_ BK319 hb; replace BK320 := bk_ BK320 hb; replace HB := hk_ HB hb
   (try clear hb); (try clear hb2); (try clear hk); (try clear hi); (try clear ho0); obtain ⟨Ao37, co37, eo37⟩ := Kd.R_slice HO325.out
   (first | subst eo37 | (injection eo37 with f1_ f2_ f3_; have f4_ := f1_.symm; have f5_ := f3_.symm; clear f1_ f2_ f3_; subst f4_; subst f5_))
   obtain ⟨Ao38, co38, eo38⟩ := Kd.R_slice HO328.out
   (first | subst eo38 | (injection eo38 with f1_ f2_ f3_; have f4_ := f1_.symm; have f5_ := f3_.symm; clear f1_ f2_ f3_; subst f4_; subst f5_))
   obtain ⟨Ao39, co39, eo39⟩ := Kd.R_slice HO331.out
   (first | subst eo39 | (injection eo39 with f1_ f2_ f3_; have f4_ := f1_.symm; have f5_ := f3_.symm; clear f1_ f2_ f3_; subst f4_; subst f5_))
   obtain ⟨Ao40, co40, eo40⟩ := Kd.R_slice HO336.out
   (first | subst eo40 | (injection eo40 with f1_ f2_ f3_; have f4_ := f1_.symm; have f5_ := f3_.symm; clear f1_ f2_ f3_; subst f4_; subst f5_))
   refine hK.out _ _ ⟨bc0_ BK319, bc1_ BK319, bc2_ BK319, bc0_ BK320, bc1_ BK320⟩ (fun hHeld => ?_)
   clear hK K; refine nm_ ?_
   refine one_ (i := 7) (N := some 39) (bs_ 13 255) rfl rfl (one_of HT_.out (by kernel_rfl)) (by decide) (fun K hK => ?_)
   refine gs_ Try.func19 #[.agg #[.slice Ao37 t323.length co37, .slice Ao38 t326.length co38, .slice Ao39 t329.length co39], .agg #[.int .i64 t332, .int .i64 t333], .slice Ao40 t334.length co40, .int .i64 a3] ?_
   with_reducible refine (spec_Order.calls k _ _ t323 _ _ t326 _ _ t329 t332 t333 _ _ t334 a3 t337 t340 _ ?side1 ?side2 ?side3 ?side4 ?side5 ?side6 ?side7 ?side8 A22.out).mono ?_
   (case side1 => exact cw_ (rr_ HO325))
   (case side2 => exact (Kd.R_reads' HO325.out).2.1)
   (case side3 => exact cw_ (rr_ HO328))
   (case side4 => exact (Kd.R_reads' HO328.out).2.1)
   (case side5 => exact cw_ (rr_ HO331))
   (case side6 => exact (Kd.R_reads' HO331.out).2.1)
   (case side7 => exact cw_ (rr_ HO336))
   (case side8 => exact (Kd.R_reads' HO336.out).2.1)
   rintro e w41 ⟨v338, rfl, ho0, hb⟩
   refine ⟨_, rfl, ?_⟩
   replace HO325 := rk_ HO325 hb; replace HO328 := rk_ HO328 hb; replace HO331 := rk_ HO331 hb; replace HO336 := rk_ HO336 hb; have HO339 := mk_ (Kd.R_lower ho0 (below_size (hw_ HB))); replace BK319 := bk_ BK319 hb; replace BK320 := bk_ BK320 hb; replace HB := hk_ HB hb
   (try clear hb); (try clear hb2); (try clear hk); (try clear hi); (try clear ho0)
   refine hK.out _ _ ⟨bc0_ BK319, bc1_ BK319, bc2_ BK319, bc0_ BK320, bc1_ BK320⟩ (fun hHeld => ?_)
   clear hK K; refine nm_ ?_; refine pu_ HT_ 8 31 (bs_ 13 511) ?_; refine pu_ HT_ 9 40 (bs_ 13 1023) ?_; refine pu_ HT_ 10 41 (bs_ 13 2047) ?_; refine pu_ HT_ 11 10 (bs_ 13 4095) ?_; refine pu_ HT_ 12 11 (bs_ 13 8191) ?_
   refine done_ (done_of HT_.out (by kernel_rfl)) ?_
   have hcz42_0 := bc0_ BK319; have hcz42_1 := bc1_ BK319; have hcz42_2 := bc2_ BK319; have hfz42_0 := bf_ BK319 0; have hfz42_1 := bf_ BK319 1; have hfz42_2 := bf_ BK319 2
   try go_wp2_with (first | ((with_reducible refine gc_ 11 rfl ?_); refine gl_ (some 43) rfl Try.func11 #[.agg #[.slice A0_0 l0_0.length c0_0, .slice A0_1 l0_1.length c0_1, .slice A0_2 l0_2.length c0_2]] ?_; (with_reducible refine (laws_toEnvelope.calls k _ _ l0_0 _ _ l0_1 _ _ l0_2 t341 t344 t347 _ ?side1 ?side2 ?side3 ?side4 ?side5 ?side6 A23.out).mono ?_); (case side1 => exact cw_ (Kd.C_below HR0_0.out HB.out)); (case side2 => exact HC0_0.out); (case side3 => exact cw_ (Kd.C_below HR0_1.out HB.out)); (case side4 => exact HC0_1.out); (case side5 => exact cw_ (Kd.C_below HR0_2.out HB.out)); (case side6 => exact HC0_2.out); rintro e w43 ⟨v342, v345, v348, rfl, ho0, ho1, ho2, hb⟩; refine ⟨_, rfl, ?_⟩; replace HO336 := rb_ HO336 hb; replace HO339 := rb_ HO339 hb; have HO343 := mk_ (Kd.R_lower (Kd.R_new' (Kd.R_new' (Kd.R_new' ho0 (Kd.R_lt (by exact HO325.out))) (Kd.R_lt (by exact HO328.out))) (Kd.R_lt (by exact HO331.out))) (below_size (by exact HB.out))); have HO346 := mk_ (Kd.R_lower (Kd.R_new' (Kd.R_new' (Kd.R_new' ho1 (Kd.R_lt (by exact HO325.out))) (Kd.R_lt (by exact HO328.out))) (Kd.R_lt (by exact HO331.out))) (below_size (by exact HB.out))); have HO349 := mk_ (Kd.R_lower (Kd.R_new' (Kd.R_new' (Kd.R_new' ho2 (Kd.R_lt (by exact HO325.out))) (Kd.R_lt (by exact HO328.out))) (Kd.R_lt (by exact HO331.out))) (below_size (by exact HB.out))); replace HO325 := mk_ (Kd.R_mono (Kd.R_told (Kd.R_told (Kd.R_told (Kd.R_old (by exact HO325.out) hb) (Kd.R_base ho0)) (Kd.R_base ho1)) (Kd.R_base ho2)) (fun _ h_ => h_.1)); replace HO328 := mk_ (Kd.R_mono (Kd.R_told (Kd.R_told (Kd.R_told (Kd.R_old (by exact HO328.out) hb) (Kd.R_base ho0)) (Kd.R_base ho1)) (Kd.R_base ho2)) (fun _ h_ => h_.1)); replace HO331 := mk_ (Kd.R_mono (Kd.R_told (Kd.R_told (Kd.R_told (Kd.R_old (by exact HO331.out) hb) (Kd.R_base ho0)) (Kd.R_base ho1)) (Kd.R_base ho2)) (fun _ h_ => h_.1)); replace BK319 := bl_ BK319 hb; replace BK320 := bl_ BK320 hb; replace HB := bp_ HB hb; (try clear hb); (try clear hb2); (try clear hk); (try clear hi); (try clear ho0); (try clear ho1); (try clear ho2)) | ((with_reducible refine gd_ 12 rfl ?_); refine box_event ?hg (N := 12) ?hd (cs := #[.slice none 0 0, .slice none 0 0, .slice none 0 0]) (t := 33) ?hr ?_; (case hd => rfl); (case hg => rfl); (case hr => exact hr_); intro gb350 hg w44 hbox hb; replace HO325 := rb_ HO325 hb; replace HO328 := rb_ HO328 hb; replace HO331 := rb_ HO331 hb; replace HO336 := rb_ HO336 hb; replace HO339 := rb_ HO339 hb; replace HO343 := rb_ HO343 hb; replace HO346 := rb_ HO346 hb; replace HO349 := rb_ HO349 hb; have BK350 := mk_ (hbox); have GW350 := gb_ hg HB; replace HB := bp_ HB hb; have GE350 := GW350; have NB319_350 := nb_ hg BK319; replace BK319 := bl_ BK319 hb; have NB350_319 := ns_ NB319_350; have NB320_350 := nb_ hg BK320; replace BK320 := bl_ BK320 hb; have NB350_320 := ns_ NB320_350; clear hb hbox hg; obtain ⟨Ao45, co45, eo45⟩ := Kd.R_slice HO343.out; subst eo45; have hnb46 := NB350_319.out; have hnc46 := NB319_350.out; have hnb47 := NB350_320.out; have hnc47 := NB320_350.out; have hcz48_0 := bc0_ BK350; have hcz48_1 := bc1_ BK350; have hcz48_2 := bc2_ BK350; have hfz48_0 := bf_ BK350 0; have hfz48_1 := bf_ BK350 1; have hfz48_2 := bf_ BK350 2; obtain ⟨Ao49, co49, eo49⟩ := Kd.R_slice HO346.out; subst eo49; obtain ⟨Ao50, co50, eo50⟩ := Kd.R_slice HO349.out; subst eo50) | ((with_reducible refine gc_ 13 rfl ?_); refine gl_ (some 45) rfl Try.func13 #[.slice A2 l2.length c2] ?_; (with_reducible refine (laws_toFuelTankS.calls k _ _ l2 t351 _ ?side1 ?side2 A24.out).mono ?_); (case side1 => exact Kd.C_below HR2.out (by repeat (first | (with_reducible first | exact HB.out | apply below_alloc | apply pw_below_drewN | apply below_drew1 | refine below_set ?_ GE350.out) | exact HB.out))); (case side2 => exact HC2.out); rintro e w51 ⟨v352, rfl, ho0, hb⟩; refine ⟨_, rfl, ?_⟩; replace HO325 := mk_ (Kd.R_below (by (with_reducible repeat (first | apply Kd.R_alloc | apply Kd.R_drewN | apply Kd.R_drew)); exact (Kd.R_mono (Kd.R_far (p := ⟨gb350, 2, none⟩) (Kd.R_far (p := ⟨gb350, 1, none⟩) (Kd.R_far (p := ⟨gb350, 0, none⟩) (Kd.R_types HO325.out BK350.out (by decide)) (fun _ hk => hk.2) (.slice Ao45 t341.length co45)) (fun _ hk => hk.2) (.slice Ao49 t344.length co49)) (fun _ hk => hk.2) (.slice Ao50 t347.length co50)) (fun _ h_ => h_.1))) hb); replace HO328 := mk_ (Kd.R_below (by (with_reducible repeat (first | apply Kd.R_alloc | apply Kd.R_drewN | apply Kd.R_drew)); exact (Kd.R_mono (Kd.R_far (p := ⟨gb350, 2, none⟩) (Kd.R_far (p := ⟨gb350, 1, none⟩) (Kd.R_far (p := ⟨gb350, 0, none⟩) (Kd.R_types HO328.out BK350.out (by decide)) (fun _ hk => hk.2) (.slice Ao45 t341.length co45)) (fun _ hk => hk.2) (.slice Ao49 t344.length co49)) (fun _ hk => hk.2) (.slice Ao50 t347.length co50)) (fun _ h_ => h_.1))) hb); replace HO331 := mk_ (Kd.R_below (by (with_reducible repeat (first | apply Kd.R_alloc | apply Kd.R_drewN | apply Kd.R_drew)); exact (Kd.R_mono (Kd.R_far (p := ⟨gb350, 2, none⟩) (Kd.R_far (p := ⟨gb350, 1, none⟩) (Kd.R_far (p := ⟨gb350, 0, none⟩) (Kd.R_types HO331.out BK350.out (by decide)) (fun _ hk => hk.2) (.slice Ao45 t341.length co45)) (fun _ hk => hk.2) (.slice Ao49 t344.length co49)) (fun _ hk => hk.2) (.slice Ao50 t347.length co50)) (fun _ h_ => h_.1))) hb); replace HO339 := mk_ (Kd.R_below (by (with_reducible repeat (first | apply Kd.R_alloc | apply Kd.R_drewN | apply Kd.R_drew)); exact (Kd.R_mono (Kd.R_far (p := ⟨gb350, 2, none⟩) (Kd.R_far (p := ⟨gb350, 1, none⟩) (Kd.R_far (p := ⟨gb350, 0, none⟩) (Kd.R_types HO339.out BK350.out (by decide)) (fun _ hk => hk.2) (.slice Ao45 t341.length co45)) (fun _ hk => hk.2) (.slice Ao49 t344.length co49)) (fun _ hk => hk.2) (.slice Ao50 t347.length co50)) (fun _ h_ => h_.1))) hb); replace HO343 := mk_ (Kd.R_below (by (with_reducible repeat (first | apply Kd.R_alloc | apply Kd.R_drewN | apply Kd.R_drew)); exact (Kd.R_mono (Kd.R_far (p := ⟨gb350, 2, none⟩) (Kd.R_far (p := ⟨gb350, 1, none⟩) (Kd.R_far (p := ⟨gb350, 0, none⟩) (Kd.R_types HO343.out BK350.out (by decide)) (fun _ hk => hk.2) (.slice Ao45 t341.length co45)) (fun _ hk => hk.2) (.slice Ao49 t344.length co49)) (fun _ hk => hk.2) (.slice Ao50 t347.length co50)) (fun _ h_ => h_.1))) hb); replace HO346 := mk_ (Kd.R_below (by (with_reducible repeat (first | apply Kd.R_alloc | apply Kd.R_drewN | apply Kd.R_drew)); exact (Kd.R_mono (Kd.R_far (p := ⟨gb350, 2, none⟩) (Kd.R_far (p := ⟨gb350, 1, none⟩) (Kd.R_far (p := ⟨gb350, 0, none⟩) (Kd.R_types HO346.out BK350.out (by decide)) (fun _ hk => hk.2) (.slice Ao45 t341.length co45)) (fun _ hk => hk.2) (.slice Ao49 t344.length co49)) (fun _ hk => hk.2) (.slice Ao50 t347.length co50)) (fun _ h_ => h_.1))) hb); replace HO349 := mk_ (Kd.R_below (by (with_reducible repeat (first | apply Kd.R_alloc | apply Kd.R_drewN | apply Kd.R_drew)); exact (Kd.R_mono (Kd.R_far (p := ⟨gb350, 2, none⟩) (Kd.R_far (p := ⟨gb350, 1, none⟩) (Kd.R_far (p := ⟨gb350, 0, none⟩) (Kd.R_types HO349.out BK350.out (by decide)) (fun _ hk => hk.2) (.slice Ao45 t341.length co45)) (fun _ hk => hk.2) (.slice Ao49 t344.length co49)) (fun _ hk => hk.2) (.slice Ao50 t347.length co50)) (fun _ h_ => h_.1))) hb); have HO353 := mk_ (Kd.R_lower (Kd.R_new' ho0 (Kd.R_lt (by (with_reducible repeat (first | apply Kd.R_alloc | apply Kd.R_drewN | apply Kd.R_drew)); exact (Kd.R_mono (Kd.R_far (p := ⟨gb350, 2, none⟩) (Kd.R_far (p := ⟨gb350, 1, none⟩) (Kd.R_far (p := ⟨gb350, 0, none⟩) (Kd.R_types HO336.out BK350.out (by decide)) (fun _ hk => hk.2) (.slice Ao45 t341.length co45)) (fun _ hk => hk.2) (.slice Ao49 t344.length co49)) (fun _ hk => hk.2) (.slice Ao50 t347.length co50)) (fun _ h_ => h_.1))))) (below_size (by repeat (first | (with_reducible first | exact HB.out | apply below_alloc | apply pw_below_drewN | apply below_drew1 | refine below_set ?_ GE350.out) | exact HB.out)))); replace HO336 := mk_ (Kd.R_elder' (by (with_reducible repeat (first | apply Kd.R_alloc | apply Kd.R_drewN | apply Kd.R_drew)); exact (Kd.R_mono (Kd.R_far (p := ⟨gb350, 2, none⟩) (Kd.R_far (p := ⟨gb350, 1, none⟩) (Kd.R_far (p := ⟨gb350, 0, none⟩) (Kd.R_types HO336.out BK350.out (by decide)) (fun _ hk => hk.2) (.slice Ao45 t341.length co45)) (fun _ hk => hk.2) (.slice Ao49 t344.length co49)) (fun _ hk => hk.2) (.slice Ao50 t347.length co50)) (fun _ h_ => h_.1))) (Kd.R_base ho0) hb); replace BK319 := mk_ (blk_below (g := gb319) (o := .cells #[.slice A0_0 l0_0.length c0_0, .slice A0_1 l0_1.length c0_1, .slice A0_2 l0_2.length c0_2] 24 (0, 0)) (by (with_reducible repeat (first | refine blk_drewN ?_ _ | refine blk_drew ?_ | refine blk_alloc ?_ _)); refine blk_far ?_ NB319_350.out _; (with_reducible repeat (first | refine blk_drewN ?_ _ | refine blk_drew ?_ | refine blk_alloc ?_ _)); refine blk_far ?_ NB319_350.out _; (with_reducible repeat (first | refine blk_drewN ?_ _ | refine blk_drew ?_ | refine blk_alloc ?_ _)); refine blk_far ?_ NB319_350.out _; (with_reducible repeat (first | refine blk_drewN ?_ _ | refine blk_drew ?_ | refine blk_alloc ?_ _)); exact BK319.out) hb); replace BK320 := mk_ (blk_below (g := gb320) (o := .cells #[.int .i64 a1_0, .int .i64 a1_1] 26 (0, 0)) (by (with_reducible repeat (first | refine blk_drewN ?_ _ | refine blk_drew ?_ | refine blk_alloc ?_ _)); refine blk_far ?_ NB320_350.out _; (with_reducible repeat (first | refine blk_drewN ?_ _ | refine blk_drew ?_ | refine blk_alloc ?_ _)); refine blk_far ?_ NB320_350.out _; (with_reducible repeat (first | refine blk_drewN ?_ _ | refine blk_drew ?_ | refine blk_alloc ?_ _)); refine blk_far ?_ NB320_350.out _; (with_reducible repeat (first | refine blk_drewN ?_ _ | refine blk_drew ?_ | refine blk_alloc ?_ _)); exact BK320.out) hb); replace BK350 := mk_ (blk_below (g := gb350) (o := .cells #[.slice Ao45 t341.length co45, .slice Ao49 t344.length co49, .slice Ao50 t347.length co50] 33 (0, 0)) (by (with_reducible repeat (first | refine blk_drewN ?_ _ | refine blk_drew ?_ | refine blk_alloc ?_ _)); refine blk_put (cs := #[.slice Ao45 t341.length co45, .slice Ao49 t344.length co49, .slice none 0 0]) ?_ 2 _ rfl; (with_reducible repeat (first | refine blk_drewN ?_ _ | refine blk_drew ?_ | refine blk_alloc ?_ _)); refine blk_put (cs := #[.slice Ao45 t341.length co45, .slice none 0 0, .slice none 0 0]) ?_ 1 _ rfl; (with_reducible repeat (first | refine blk_drewN ?_ _ | refine blk_drew ?_ | refine blk_alloc ?_ _)); refine blk_put (cs := #[.slice none 0 0, .slice none 0 0, .slice none 0 0]) ?_ 0 _ rfl; (with_reducible repeat (first | refine blk_drewN ?_ _ | refine blk_drew ?_ | refine blk_alloc ?_ _)); exact BK350.out) hb); replace HB := mk_ (below_step (by repeat (first | (with_reducible first | exact HB.out | apply below_alloc | apply pw_below_drewN | apply below_drew1 | refine below_set ?_ GE350.out) | exact HB.out)) hb); (try clear hb); (try clear hb2); (try clear hk); (try clear hi); (try clear ho0)))
   replace HO325 := dR_ HO325; replace HO328 := dR_ HO328; replace HO331 := dR_ HO331; replace HO336 := dR_ HO336; replace HO339 := dR_ HO339; replace HO343 := dR_ HO343; replace HO346 := dR_ HO346; replace HO349 := dR_ HO349; replace HO353 := dR_ HO353; replace BK319 := dB_ BK319; replace BK320 := dB_ BK320; replace BK350 := dB_ BK350; replace HB := dH_ HB
   refine start_ (n := 11) (S := fun w' => w'.cell? ⟨gb350, 0, none⟩ = some (.slice Ao45 t341.length co45) ∧ w'.cell? ⟨gb350, 1, none⟩ = some (.slice Ao49 t344.length co49) ∧ w'.cell? ⟨gb350, 2, none⟩ = some (.slice Ao50 t347.length co50) ∧ w'.cell? ⟨gb320, 0, none⟩ = some (.int .i64 a1_0) ∧ w'.cell? ⟨gb320, 1, none⟩ = some (.int .i64 a1_1)) (ds := []) (bs_ 11 0) (by kernel_rfl) rfl (by kernel_rfl) ⟨bc0_ BK350, bc1_ BK350, bc2_ BK350, bc0_ BK320, bc1_ BK320⟩ (fun hHeld => ?_); refine with_tabW laws_FnExactOrder.tab11 laws_FnExactOrder.bits11 (fun HT_ HW_ => ?_)
   generalize w51.drew = w52 at HO325 HO328 HO331 HO336 HO339 HO343 HO346 HO349 HO353 BK319 BK320 BK350 HB hHeld ⊢
   refine pu_ HT_ 3 50 (bs_ 11 8) ?_; refine pu_ HT_ 4 51 (bs_ 11 24) ?_; refine tk_ HT_ HW_ 0 47 (bs_ 11 25) hHeld ?_; refine tk_ HT_ HW_ 1 48 (bs_ 11 27) hHeld ?_
   refine one_ (i := 2) (N := some 49) (bs_ 11 31) rfl rfl (one_of HT_.out (by kernel_rfl)) (by decide) (fun K hK => ?_)
   refine gs_ Try.func12 #[.agg #[.int .i64 a1_0, .int .i64 a1_1]] ?_
   with_reducible refine (laws_toSum2.calls a1_0 a1_1 t354 t355 _ A25.out).mono ?_
   rintro e w53 ⟨rfl, hb⟩
   refine ⟨_, rfl, ?_⟩
   replace HO325 := rk_ HO325 hb; replace HO328 := rk_ HO328 hb; replace HO331 := rk_ HO331 hb; replace HO336 := rk_ HO336 hb; replace HO339 := rk_ HO339 hb; replace HO343 := rk_ HO343 hb; replace HO346 := rk_ HO346 hb; replace HO349 := rk_ HO349 hb; replace HO353 := rk_ HO353 hb; replace BK319 := bk_ BK319 hb; replace BK320 := bk_ BK320 hb; replace BK350 := bk_ BK350 hb; replace HB := hk_ HB hb
   (try clear hb); (try clear hb2); (try clear hk); (try clear hi); obtain ⟨Ao54, co54, eo54⟩ := Kd.R_slice HO353.out
   (first | subst eo54 | (injection eo54 with f1_ f2_ f3_; have f4_ := f1_.symm; have f5_ := f3_.symm; clear f1_ f2_ f3_; subst f4_; subst f5_))
   refine hK.out _ _ ⟨bc0_ BK350, bc1_ BK350, bc2_ BK350, bc0_ BK320, bc1_ BK320⟩ (fun hHeld => ?_)
   clear hK K; refine nm_ ?_
   refine one_ (i := 5) (N := some 52) (bs_ 11 63) rfl rfl (one_of HT_.out (by kernel_rfl)) (by decide) (fun K hK => ?_)
   refine gs_ Try.func20 #[.agg #[.slice Ao45 t341.length co45, .slice Ao49 t344.length co49, .slice Ao50 t347.length co50], .agg #[.int .i64 t354, .int .i64 t355], .slice Ao54 t351.length co54, .int .i64 a3] ?_
   with_reducible refine (impl_Order.calls k _ _ t341 _ _ t344 _ _ t347 t354 t355 _ _ t351 a3 t356 t359 _ ?side1 ?side2 ?side3 ?side4 ?side5 ?side6 ?side7 ?side8 A26.out).mono ?_
   (case side1 => exact cw_ (rr_ HO343))
   (case side2 => exact (Kd.R_reads' HO343.out).2.1)
   (case side3 => exact cw_ (rr_ HO346))
   (case side4 => exact (Kd.R_reads' HO346.out).2.1)
   (case side5 => exact cw_ (rr_ HO349))
   (case side6 => exact (Kd.R_reads' HO349.out).2.1)
   (case side7 => exact cw_ (rr_ HO353))
   (case side8 => exact (Kd.R_reads' HO353.out).2.1)
   rintro e w55 ⟨v357, rfl, ho0, hb⟩
   refine ⟨_, rfl, ?_⟩
   replace HO325 := rk_ HO325 hb; replace HO328 := rk_ HO328 hb; replace HO331 := rk_ HO331 hb; replace HO336 := rk_ HO336 hb; replace HO343 := rk_ HO343 hb; replace HO346 := rk_ HO346 hb; replace HO349 := rk_ HO349 hb; replace HO353 := rk_ HO353 hb; have HO358 := mk_ (Kd.R_lower (Kd.R_new' ho0 (Kd.R_lt (kx_ HO339))) (below_size (hw_ HB))); replace HO339 := mk_ (Kd.R_elder' (kx_ HO339) (Kd.R_base ho0) hb); replace BK319 := bk_ BK319 hb; replace BK320 := bk_ BK320 hb; replace BK350 := bk_ BK350 hb; replace HB := hk_ HB hb
   (try clear hb); (try clear hb2); (try clear hk); (try clear hi); (try clear ho0)
   refine hK.out _ _ ⟨bc0_ BK350, bc1_ BK350, bc2_ BK350, bc0_ BK320, bc1_ BK320⟩ (fun hHeld => ?_)
   clear hK K; refine nm_ ?_; refine pu_ HT_ 6 46 (bs_ 11 127) ?_; refine pu_ HT_ 7 53 (bs_ 11 255) ?_; refine pu_ HT_ 8 54 (bs_ 11 511) ?_; refine pu_ HT_ 9 14 (bs_ 11 1023) ?_; refine pu_ HT_ 10 15 (bs_ 11 2047) ?_
   refine done_ (done_of HT_.out (by kernel_rfl)) ?_
   go_upto_region 12 with (fail)
   go_cut [63] (fun v63 wc => ∃ (kq : Nat) (x63_26 : Bool), v63 = .bool x63_26 ∧ Aside0 (laws_FnExactOrder.j0 kq l2 a3 t337 t340 t351 t356 t359 x63_26 l0_0 l0_1 l0_2 a1_0 a1_1 t341 t344 t347 = some r) ∧ Aside0 (kq ≤ k) ∧ Aside0 (Kd.R k62 62 wc w.heap.size (fun k_ => some k_ ≠ (v357 : Value).ownBlock) v338 t337) ∧ Aside0 (Kd.R k60 60 wc w.heap.size (fun _ => True) (.slice Ao54 t351.length co54) t351) ∧ Aside0 (Kd.R k62 62 wc w.heap.size (fun k_ => some k_ ≠ (v338 : Value).ownBlock) v357 t356) ∧ Aside0 (Kd.R (Kd.int .i64) 3 wc w.heap.size (fun k_ => some k_ ≠ ((.slice Ao49 t344.length co49) : Value).ownBlock ∧ some k_ ≠ ((.slice Ao50 t347.length co50) : Value).ownBlock) (.slice Ao45 t341.length co45) t341) ∧ Aside0 (Kd.R (Kd.int .i64) 3 wc w.heap.size (fun k_ => some k_ ≠ ((.slice Ao45 t341.length co45) : Value).ownBlock ∧ some k_ ≠ ((.slice Ao50 t347.length co50) : Value).ownBlock) (.slice Ao49 t344.length co49) t344) ∧ Aside0 (Kd.R (Kd.int .i64) 3 wc w.heap.size (fun k_ => some k_ ≠ ((.slice Ao45 t341.length co45) : Value).ownBlock ∧ some k_ ≠ ((.slice Ao49 t344.length co49) : Value).ownBlock) (.slice Ao50 t347.length co50) t347) ∧ Aside0 (wc.heap[gb319]? = some (.cells #[(.slice A0_0 l0_0.length c0_0), (.slice A0_1 l0_1.length c0_1), (.slice A0_2 l0_2.length c0_2)] 24 (0, 0))) ∧ Aside0 (wc.heap[gb320]? = some (.cells #[.int .i64 a1_0, .int .i64 a1_1] 26 (0, 0))) ∧ Aside0 (wc.heap[gb350]? = some (.cells #[(.slice Ao45 t341.length co45), (.slice Ao49 t344.length co49), (.slice Ao50 t347.length co50)] 33 (0, 0))) ∧ Aside0 (Below w.heap.size w wc))
   case first =>
    have H := HC27.out; clear HC27; replace H := Option.bind_eq_some_iff.mp H; obtain ⟨t360, A560, H⟩ := H; (try dsimp only at H); have A56 := mk_ A560; clear A560; by_cases c57 : t360 = true
    ·subst c57; rw [if_pos rfl] at H
     have H' := mk_ H
     clear H; obtain ⟨Ao58, co58, eo58⟩ := Kd.R_slice HO358.out; subst eo58; obtain ⟨Ao59, co59, eo59⟩ := Kd.R_slice HO339.out; subst eo59
     go_wp2_with (first | ((with_reducible refine gc_ 18 rfl ?_); refine gl_ (some 57) rfl Try.func18 #[.slice Ao58 t356.length co58, .slice Ao59 t337.length co59] ?_; (with_reducible refine (laws_eqBurnS.calls k _ _ t356 _ _ t337 true _ ?side1 ?side2 ?side3 ?side4 A56.out).mono ?_); (case side1 => exact cw_ (rr_ HO358)); (case side2 => exact (Kd.R_reads' HO358.out).2.1); (case side3 => exact cw_ (rr_ HO339)); (case side4 => exact (Kd.R_reads' HO339.out).2.1); rintro e w60 ⟨rfl, hb⟩; refine ⟨_, rfl, ?_⟩; replace HO325 := rb_ HO325 hb; replace HO328 := rb_ HO328 hb; replace HO331 := rb_ HO331 hb; replace HO336 := rb_ HO336 hb; replace HO339 := rb_ HO339 hb; replace HO343 := rb_ HO343 hb; replace HO346 := rb_ HO346 hb; replace HO349 := rb_ HO349 hb; replace HO353 := rb_ HO353 hb; replace HO358 := rb_ HO358 hb; replace BK319 := bl_ BK319 hb; replace BK320 := bl_ BK320 hb; replace BK350 := bl_ BK350 hb; replace HB := bp_ HB hb; (try clear hb); (try clear hb2); (try clear hk); (try clear hi)))
     go_meet
     case rel => exact ⟨_, ((t359 != t340)), rf_, H', ⟨by first | omega | exact Nat.le_refl _⟩, km_ HO339 (fun _ hk => hk.2), km_ HO353 (fun _ hk => trivial), km_ HO358 (fun _ hk => hk.2), km_ HO343 (fun _ hk => And.intro hk.1.1.1.1 hk.1.1.1.2), km_ HO346 (fun _ hk => And.intro hk.1.1.1.1 hk.1.1.1.2), km_ HO349 (fun _ hk => And.intro hk.1.1.1.1 hk.1.1.1.2), bw_ BK319, bw_ BK320, bw_ BK350, ⟨hw_ HB⟩⟩
    ·replace c57 := Bool.eq_false_iff.mpr c57; subst c57; rw [if_neg (show ¬ (false = true) by decide)] at H
     have H' := mk_ H
     clear H; obtain ⟨Ao61, co61, eo61⟩ := Kd.R_slice HO358.out; subst eo61; obtain ⟨Ao62, co62, eo62⟩ := Kd.R_slice HO339.out; subst eo62
     go_wp2_with (first | ((with_reducible refine gc_ 18 rfl ?_); refine gl_ (some 57) rfl Try.func18 #[.slice Ao61 t356.length co61, .slice Ao62 t337.length co62] ?_; (with_reducible refine (laws_eqBurnS.calls k _ _ t356 _ _ t337 false _ ?side1 ?side2 ?side3 ?side4 A56.out).mono ?_); (case side1 => exact cw_ (rr_ HO358)); (case side2 => exact (Kd.R_reads' HO358.out).2.1); (case side3 => exact cw_ (rr_ HO339)); (case side4 => exact (Kd.R_reads' HO339.out).2.1); rintro e w63 ⟨rfl, hb⟩; refine ⟨_, rfl, ?_⟩; replace HO325 := rb_ HO325 hb; replace HO328 := rb_ HO328 hb; replace HO331 := rb_ HO331 hb; replace HO336 := rb_ HO336 hb; replace HO339 := rb_ HO339 hb; replace HO343 := rb_ HO343 hb; replace HO346 := rb_ HO346 hb; replace HO349 := rb_ HO349 hb; replace HO353 := rb_ HO353 hb; replace HO358 := rb_ HO358 hb; replace BK319 := bl_ BK319 hb; replace BK320 := bl_ BK320 hb; replace BK350 := bl_ BK350 hb; replace HB := bp_ HB hb; (try clear hb); (try clear hb2); (try clear hk); (try clear hi)))
     go_meet
     case rel => exact ⟨_, (true), rf_, H', ⟨by first | omega | exact Nat.le_refl _⟩, km_ HO339 (fun _ hk => hk.2), km_ HO353 (fun _ hk => trivial), km_ HO358 (fun _ hk => hk.2), km_ HO343 (fun _ hk => And.intro hk.1.1.1.1 hk.1.1.1.2), km_ HO346 (fun _ hk => And.intro hk.1.1.1.1 hk.1.1.1.2), km_ HO349 (fun _ hk => And.intro hk.1.1.1.1 hk.1.1.1.2), bw_ BK319, bw_ BK320, bw_ BK350, ⟨hw_ HB⟩⟩
   case rest =>
    clear HC27; (try clear c2); (try clear c13)
    obtain ⟨kq, x63_26, rfl, HA, HJ26, HO_10, HO_13, HO_14, HO_351000, HO_351001, HO_351002, BK319, BK320, BK350, HB⟩ := hcut
    cases kq with
    | zero => exact absurd HA.out (by simp [laws_FnExactOrder.j0])
    | succ kj26 =>
     have H := HA.out; clear HA
     simp only [laws_FnExactOrder.j0] at H
     by_cases c64 : x63_26 = true
     ·subst c64; rw [if_pos rfl] at H
      obtain rfl := Option.some.inj H; go_wp2
      go_ret
      exact ⟨re_, hw_ HB⟩
     ·replace c64 := Bool.eq_false_iff.mpr c64; subst c64; rw [if_neg (show ¬ (false = true) by decide)] at H; replace H := Option.bind_eq_some_iff.mp H; obtain ⟨⟨t361, t364, t367⟩, A650, H⟩ := H; (try dsimp only at H); have A65 := mk_ A650; clear A650; replace H := Option.bind_eq_some_iff.mp H; obtain ⟨t370, A660, H⟩ := H; (try dsimp only at H); have A66 := mk_ A660; clear A660; by_cases c67 : t370 = true
      ·subst c67; rw [if_pos rfl] at H
       replace H := Option.bind_eq_some_iff.mp H; obtain ⟨t371, A680, H⟩ := H
       (try dsimp only at H); have A68 := mk_ A680; clear A680
       replace H := Option.bind_eq_some_iff.mp H; obtain ⟨t374, A690, H⟩ := H
       (try dsimp only at H); have A69 := mk_ A690; clear A690
       by_cases c70 : t374 = true
       ·subst c70; rw [if_pos rfl] at H
        replace H := Option.bind_eq_some_iff.mp H; obtain ⟨⟨t375, t376, t377, t378⟩, A710, H⟩ := H
        (try dsimp only at H); have A71 := mk_ A710; clear A710
        replace H := Option.bind_eq_some_iff.mp H; obtain ⟨⟨t379, t380⟩, A720, H⟩ := H
        (try dsimp only at H); have A72 := mk_ A720; clear A720
        have HC73 := mk_ H; clear H
        try go_wp2
        replace HO_10 := dR_ HO_10; replace HO_13 := dR_ HO_13; replace HO_14 := dR_ HO_14; replace HO_351000 := dR_ HO_351000; replace HO_351001 := dR_ HO_351001; replace HO_351002 := dR_ HO_351002; replace BK319 := dB_ BK319; replace BK320 := dB_ BK320; replace BK350 := dB_ BK350; replace HB := dH_ HB
        refine start_ (n := 5) (S := fun w' => w'.cell? ⟨gb350, 0, none⟩ = some (.slice Ao45 t341.length co45) ∧ w'.cell? ⟨gb350, 1, none⟩ = some (.slice Ao49 t344.length co49) ∧ w'.cell? ⟨gb350, 2, none⟩ = some (.slice Ao50 t347.length co50) ∧ w'.cell? ⟨gb319, 0, none⟩ = some (.slice A0_0 l0_0.length c0_0) ∧ w'.cell? ⟨gb319, 1, none⟩ = some (.slice A0_1 l0_1.length c0_1) ∧ w'.cell? ⟨gb319, 2, none⟩ = some (.slice A0_2 l0_2.length c0_2)) (ds := []) (bs_ 5 0) (by kernel_rfl) rfl (by kernel_rfl) ⟨bc0_ BK350, bc1_ BK350, bc2_ BK350, bc0_ BK319, bc1_ BK319, bc2_ BK319⟩ (fun hHeld => ?_)
        generalize wc.drew = w74 at HO_10 HO_13 HO_14 HO_351000 HO_351001 HO_351002 BK319 BK320 BK350 HB hHeld ⊢
        refine tk0_ 0 64 (bs_ 5 1) hHeld ?_; refine tk0_ 1 65 (bs_ 5 3) hHeld ?_
        refine one_ (i := 2) (N := some 66) (bs_ 5 7) rfl rfl (by kernel_rfl) (by decide) (fun K hK => ?_)
        refine gs_ Try.func11 #[.agg #[.slice A0_0 l0_0.length c0_0, .slice A0_1 l0_1.length c0_1, .slice A0_2 l0_2.length c0_2]] ?_
        with_reducible refine (laws_toEnvelope.calls kj26 _ _ l0_0 _ _ l0_1 _ _ l0_2 t361 t364 t367 _ ?side1 ?side2 ?side3 ?side4 ?side5 ?side6 A65.out).mono ?_
        (case side1 => exact cw_ (Kd.C_below HR0_0.out HB.out))
        (case side2 => exact HC0_0.out)
        (case side3 => exact cw_ (Kd.C_below HR0_1.out HB.out))
        (case side4 => exact HC0_1.out)
        (case side5 => exact cw_ (Kd.C_below HR0_2.out HB.out))
        (case side6 => exact HC0_2.out)
        rintro e w75 ⟨v362, v365, v368, rfl, ho0, ho1, ho2, hb⟩
        refine ⟨_, rfl, ?_⟩
        replace HO_10 := rk_ HO_10 hb; replace HO_13 := rk_ HO_13 hb; replace HO_14 := rk_ HO_14 hb; have HO363 := mk_ (Kd.R_lower (Kd.R_new' (Kd.R_new' (Kd.R_new' ho0 (Kd.R_lt (kx_ HO_351000))) (Kd.R_lt (kx_ HO_351001))) (Kd.R_lt (kx_ HO_351002))) (below_size (hw_ HB))); have HO366 := mk_ (Kd.R_lower (Kd.R_new' (Kd.R_new' (Kd.R_new' ho1 (Kd.R_lt (kx_ HO_351000))) (Kd.R_lt (kx_ HO_351001))) (Kd.R_lt (kx_ HO_351002))) (below_size (hw_ HB))); have HO369 := mk_ (Kd.R_lower (Kd.R_new' (Kd.R_new' (Kd.R_new' ho2 (Kd.R_lt (kx_ HO_351000))) (Kd.R_lt (kx_ HO_351001))) (Kd.R_lt (kx_ HO_351002))) (below_size (hw_ HB))); replace HO_351000 := mk_ (Kd.R_mono (Kd.R_told (Kd.R_told (Kd.R_told (Kd.R_old (kx_ HO_351000) hb) (Kd.R_base ho0)) (Kd.R_base ho1)) (Kd.R_base ho2)) (fun _ h_ => h_.1)); replace HO_351001 := mk_ (Kd.R_mono (Kd.R_told (Kd.R_told (Kd.R_told (Kd.R_old (kx_ HO_351001) hb) (Kd.R_base ho0)) (Kd.R_base ho1)) (Kd.R_base ho2)) (fun _ h_ => h_.1)); replace HO_351002 := mk_ (Kd.R_mono (Kd.R_told (Kd.R_told (Kd.R_told (Kd.R_old (kx_ HO_351002) hb) (Kd.R_base ho0)) (Kd.R_base ho1)) (Kd.R_base ho2)) (fun _ h_ => h_.1)); replace BK319 := bk_ BK319 hb; replace BK320 := bk_ BK320 hb; replace BK350 := bk_ BK350 hb; replace HB := hk_ HB hb
        (try clear hb); (try clear hb2); (try clear hk); (try clear hi); (try clear ho0); (try clear ho1); (try clear ho2); obtain ⟨Ao76, co76, eo76⟩ := Kd.R_slice HO363.out
        (first | subst eo76 | (injection eo76 with f1_ f2_ f3_; have f4_ := f1_.symm; have f5_ := f3_.symm; clear f1_ f2_ f3_; subst f4_; subst f5_))
        obtain ⟨Ao77, co77, eo77⟩ := Kd.R_slice HO366.out
        (first | subst eo77 | (injection eo77 with f1_ f2_ f3_; have f4_ := f1_.symm; have f5_ := f3_.symm; clear f1_ f2_ f3_; subst f4_; subst f5_))
        obtain ⟨Ao78, co78, eo78⟩ := Kd.R_slice HO369.out
        (first | subst eo78 | (injection eo78 with f1_ f2_ f3_; have f4_ := f1_.symm; have f5_ := f3_.symm; clear f1_ f2_ f3_; subst f4_; subst f5_))
        refine hK.out _ _ ⟨bc0_ BK350, bc1_ BK350, bc2_ BK350, bc0_ BK319, bc1_ BK319, bc2_ BK319⟩ (fun hHeld => ?_)
        clear hK K; refine nm_ ?_
        refine one_ (i := 3) (N := some 67) (bs_ 5 15) rfl rfl (by kernel_rfl) (by decide) (fun K hK => ?_)
        refine gs_ Try.func16 #[.agg #[.slice Ao45 t341.length co45, .slice Ao49 t344.length co49, .slice Ao50 t347.length co50], .agg #[.slice Ao76 t361.length co76, .slice Ao77 t364.length co77, .slice Ao78 t367.length co78]] ?_
        with_reducible refine (laws_eqEnvelope.calls kj26 _ _ t341 _ _ t344 _ _ t347 _ _ t361 _ _ t364 _ _ t367 true _ ?side1 ?side2 ?side3 ?side4 ?side5 ?side6 ?side7 ?side8 ?side9 ?side10 ?side11 ?side12 A66.out).mono ?_
        (case side1 => exact cw_ (rr_ HO_351000))
        (case side2 => exact (Kd.R_reads' HO_351000.out).2.1)
        (case side3 => exact cw_ (rr_ HO_351001))
        (case side4 => exact (Kd.R_reads' HO_351001.out).2.1)
        (case side5 => exact cw_ (rr_ HO_351002))
        (case side6 => exact (Kd.R_reads' HO_351002.out).2.1)
        (case side7 => exact cw_ (rr_ HO363))
        (case side8 => exact (Kd.R_reads' HO363.out).2.1)
        (case side9 => exact cw_ (rr_ HO366))
        (case side10 => exact (Kd.R_reads' HO366.out).2.1)
        (case side11 => exact cw_ (rr_ HO369))
        (case side12 => exact (Kd.R_reads' HO369.out).2.1)
        rintro e w79 ⟨rfl, hb⟩
        refine ⟨_, rfl, ?_⟩
        replace HO_10 := rk_ HO_10 hb; replace HO_13 := rk_ HO_13 hb; replace HO_14 := rk_ HO_14 hb; replace HO_351000 := rk_ HO_351000 hb; replace HO_351001 := rk_ HO_351001 hb; replace HO_351002 := rk_ HO_351002 hb; replace HO363 := rk_ HO363 hb; replace HO366 := rk_ HO366 hb; replace HO369 := rk_ HO369 hb; replace BK319 := bk_ BK319 hb; replace BK320 := bk_ BK320 hb; replace BK350 := bk_ BK350 hb; replace HB := hk_ HB hb
        (try clear hb); (try clear hb2); (try clear hk); (try clear hi)
        refine hK.out _ _ ⟨bc0_ BK350, bc1_ BK350, bc2_ BK350, bc0_ BK319, bc1_ BK319, bc2_ BK319⟩ (fun hHeld => ?_)
        clear hK K; refine nm_ ?_; refine pu0_ 4 68 (bs_ 5 31) ?_
        refine done_ (by kernel_rfl) ?_
        go_upto_region 21 with (first | ((with_reducible refine gc_ 13 rfl ?_); refine gl_ (some 71) rfl Try.func13 #[.slice A2 l2.length c2] ?_; (with_reducible refine (laws_toFuelTankS.calls kj26 _ _ l2 t371 _ ?side1 ?side2 A68.out).mono ?_); (case side1 => exact cw_ (Kd.C_below HR2.out HB.out)); (case side2 => exact HC2.out); rintro e w80 ⟨v372, rfl, ho0, hb⟩; refine ⟨_, rfl, ?_⟩; replace HO_10 := rb_ HO_10 hb; replace HO_14 := rb_ HO_14 hb; replace HO_351000 := rb_ HO_351000 hb; replace HO_351001 := rb_ HO_351001 hb; replace HO_351002 := rb_ HO_351002 hb; replace HO363 := rb_ HO363 hb; replace HO366 := rb_ HO366 hb; replace HO369 := rb_ HO369 hb; have HO373 := mk_ (Kd.R_lower (Kd.R_new' ho0 (Kd.R_lt (by exact HO_13.out))) (below_size (by exact HB.out))); replace HO_13 := mk_ (Kd.R_elder' (by exact HO_13.out) (Kd.R_base ho0) hb); replace BK319 := bl_ BK319 hb; replace BK320 := bl_ BK320 hb; replace BK350 := bl_ BK350 hb; replace HB := bp_ HB hb; (try clear hb); (try clear hb2); (try clear hk); (try clear hi); (try clear ho0); obtain ⟨Ao81, co81, eo81⟩ := Kd.R_slice HO373.out; subst eo81) | ((with_reducible refine gc_ 17 rfl ?_); refine gl_ (some 72) rfl Try.func17 #[.slice Ao54 t351.length co54, .slice Ao81 t371.length co81] ?_; (with_reducible refine (laws_eqFuelTankS.calls kj26 _ _ t351 _ _ t371 true _ ?side1 ?side2 ?side3 ?side4 A69.out).mono ?_); (case side1 => exact cw_ (rr_ HO_13)); (case side2 => exact (Kd.R_reads' HO_13.out).2.1); (case side3 => exact cw_ (rr_ HO373)); (case side4 => exact (Kd.R_reads' HO373.out).2.1); rintro e w82 ⟨rfl, hb⟩; refine ⟨_, rfl, ?_⟩; replace HO_10 := rb_ HO_10 hb; replace HO_13 := rb_ HO_13 hb; replace HO_14 := rb_ HO_14 hb; replace HO_351000 := rb_ HO_351000 hb; replace HO_351001 := rb_ HO_351001 hb; replace HO_351002 := rb_ HO_351002 hb; replace HO363 := rb_ HO363 hb; replace HO366 := rb_ HO366 hb; replace HO369 := rb_ HO369 hb; replace HO373 := rb_ HO373 hb; replace BK319 := bl_ BK319 hb; replace BK320 := bl_ BK320 hb; replace BK350 := bl_ BK350 hb; replace HB := bp_ HB hb; (try clear hb); (try clear hb2); (try clear hk); (try clear hi); have hnb83 := NB350_319.out; have hnc83 := NB319_350.out; have hnb84 := NB350_320.out; have hnc84 := NB320_350.out; have hcz85_0 := bc0_ BK350; have hcz85_1 := bc1_ BK350; have hcz85_2 := bc2_ BK350; have hfz85_0 := bf_ BK350 0; have hfz85_1 := bf_ BK350 1; have hfz85_2 := bf_ BK350 2) | ((with_reducible refine gc_ 21 rfl ?_); refine gl_ (some 76) rfl Try.func21 #[.agg #[.slice Ao45 t341.length co45, .slice Ao49 t344.length co49, .slice Ao50 t347.length co50], .int .i64 1] ?_; (with_reducible refine (laws_markEnvelope.calls kj26 (fun k_ => some k_ = (.slice Ao45 t341.length co45 : Value).ownBlock) (.slice Ao45 t341.length co45) t341 (fun k_ => some k_ = (.slice Ao49 t344.length co49 : Value).ownBlock) (.slice Ao49 t344.length co49) t344 (fun k_ => some k_ = (.slice Ao50 t347.length co50 : Value).ownBlock) (.slice Ao50 t347.length co50) t347 1 t375 t376 t377 t378 w _ ?side1 ?side2 ?side3 ?side4 ?side5 ?side6 ?side7 ?side8 ?side9 ?side10 A71.out).mono ?_); (case side1 => exact HB.out); (case side2 => exact Kd.R_tight rfl HO_351000.out); (case side3 => exact fun k_ e_ => (HO_351000.out.1 k_ e_.symm).1.1.1.1); (case side4 => exact fun k_ e_ => (HO_351000.out.1 k_ e_.symm).1.1.1.2); (case side5 => exact Kd.R_tight rfl HO_351001.out); (case side6 => exact fun k_ e_ => (HO_351001.out.1 k_ e_.symm).1.1.1.1); (case side7 => exact fun k_ e_ => (HO_351001.out.1 k_ e_.symm).1.1.1.2); (case side8 => exact Kd.R_tight rfl HO_351002.out); (case side9 => exact fun k_ e_ => (HO_351002.out.1 k_ e_.symm).1.1.1.1); (case side10 => exact fun k_ e_ => (HO_351002.out.1 k_ e_.symm).1.1.1.2); rintro e w86 ⟨rfl, hy0, hy1, hy2, hb, hkp⟩; refine ⟨_, rfl, ?_⟩; replace HO_10 := mk_ (Kd.R_mono (ok' := fun k_ => some k_ ≠ (v357 : Value).ownBlock) (Kd.R_keptB ((Kd.R_apart' (Kd.R_apart' (Kd.R_apart' HO_10.out (Kd.R_typed HO_351000.out) (by decide)) (Kd.R_typed HO_351001.out) (by decide)) (Kd.R_typed HO_351002.out) (by decide))) hkp (fun k_ hk_ hs_ => Or.elim hs_ (fun e_ => (hk_.1.1.2) e_) (fun e_ => Or.elim e_ (fun e_ => (hk_.1.2) e_) (fun e_ => (hk_.2) e_)))) (fun k_ hk_ => hk_.1.1.1.1)); replace HO_13 := mk_ (Kd.R_mono (ok' := fun k_ => some k_ ≠ (.slice Ao81 t371.length co81 : Value).ownBlock) (Kd.R_keptB ((Kd.R_apart' (Kd.R_apart' (Kd.R_apart' HO_13.out (Kd.R_typed HO_351000.out) (by decide)) (Kd.R_typed HO_351001.out) (by decide)) (Kd.R_typed HO_351002.out) (by decide))) hkp (fun k_ hk_ hs_ => Or.elim hs_ (fun e_ => (hk_.1.1.2) e_) (fun e_ => Or.elim e_ (fun e_ => (hk_.1.2) e_) (fun e_ => (hk_.2) e_)))) (fun k_ hk_ => hk_.1.1.1.1.2)); replace HO_14 := mk_ (Kd.R_mono (ok' := fun k_ => some k_ ≠ (v338 : Value).ownBlock) (Kd.R_keptB ((Kd.R_apart' (Kd.R_apart' (Kd.R_apart' HO_14.out (Kd.R_typed HO_351000.out) (by decide)) (Kd.R_typed HO_351001.out) (by decide)) (Kd.R_typed HO_351002.out) (by decide))) hkp (fun k_ hk_ hs_ => Or.elim hs_ (fun e_ => (hk_.1.1.2) e_) (fun e_ => Or.elim e_ (fun e_ => (hk_.1.2) e_) (fun e_ => (hk_.2) e_)))) (fun k_ hk_ => hk_.1.1.1.1)); replace BK319 := mk_ (blk_kept (by exact BK319.out) hkp (fun hs_ => Or.elim hs_ (fun e_ => (fun e_ => (Kd.R_ne HO_351000.out BK319.out (by decide)) e_) e_) (fun e_ => Or.elim e_ (fun e_ => (fun e_ => (Kd.R_ne HO_351001.out BK319.out (by decide)) e_) e_) (fun e_ => (fun e_ => (Kd.R_ne HO_351002.out BK319.out (by decide)) e_) e_)))); replace BK320 := mk_ (blk_kept (by exact BK320.out) hkp (fun hs_ => Or.elim hs_ (fun e_ => (fun e_ => (Kd.R_ne HO_351000.out BK320.out (by decide)) e_) e_) (fun e_ => Or.elim e_ (fun e_ => (fun e_ => (Kd.R_ne HO_351001.out BK320.out (by decide)) e_) e_) (fun e_ => (fun e_ => (Kd.R_ne HO_351002.out BK320.out (by decide)) e_) e_)))); replace BK350 := mk_ (blk_kept (by exact BK350.out) hkp (fun hs_ => Or.elim hs_ (fun e_ => (fun e_ => (Kd.R_ne HO_351000.out BK350.out (by decide)) e_) e_) (fun e_ => Or.elim e_ (fun e_ => (fun e_ => (Kd.R_ne HO_351001.out BK350.out (by decide)) e_) e_) (fun e_ => (fun e_ => (Kd.R_ne HO_351002.out BK350.out (by decide)) e_) e_)))); replace HO363 := mk_ (Kd.R_mono (ok' := fun k_ => some k_ ≠ (.slice Ao45 t341.length co45 : Value).ownBlock ∧ some k_ ≠ (.slice Ao49 t344.length co49 : Value).ownBlock ∧ some k_ ≠ (.slice Ao50 t347.length co50 : Value).ownBlock ∧ some k_ ≠ (.slice Ao77 t364.length co77 : Value).ownBlock ∧ some k_ ≠ (.slice Ao78 t367.length co78 : Value).ownBlock) (Kd.R_keptB (HO363.out) hkp (fun k_ hk_ hs_ => Or.elim hs_ (fun e_ => (hk_.1.1.2) e_) (fun e_ => Or.elim e_ (fun e_ => (hk_.1.2) e_) (fun e_ => (hk_.2) e_)))) (fun k_ hk_ => ⟨hk_.1.1.1.2, hk_.1.1.2, hk_.1.2, hk_.1.1.1.1.1, hk_.1.1.1.1.2⟩)); replace HO366 := mk_ (Kd.R_mono (ok' := fun k_ => some k_ ≠ (.slice Ao45 t341.length co45 : Value).ownBlock ∧ some k_ ≠ (.slice Ao49 t344.length co49 : Value).ownBlock ∧ some k_ ≠ (.slice Ao50 t347.length co50 : Value).ownBlock ∧ some k_ ≠ (.slice Ao76 t361.length co76 : Value).ownBlock ∧ some k_ ≠ (.slice Ao78 t367.length co78 : Value).ownBlock) (Kd.R_keptB (HO366.out) hkp (fun k_ hk_ hs_ => Or.elim hs_ (fun e_ => (hk_.1.1.2) e_) (fun e_ => Or.elim e_ (fun e_ => (hk_.1.2) e_) (fun e_ => (hk_.2) e_)))) (fun k_ hk_ => ⟨hk_.1.1.1.2, hk_.1.1.2, hk_.1.2, hk_.1.1.1.1.1, hk_.1.1.1.1.2⟩)); replace HO369 := mk_ (Kd.R_mono (ok' := fun k_ => some k_ ≠ (.slice Ao45 t341.length co45 : Value).ownBlock ∧ some k_ ≠ (.slice Ao49 t344.length co49 : Value).ownBlock ∧ some k_ ≠ (.slice Ao50 t347.length co50 : Value).ownBlock ∧ some k_ ≠ (.slice Ao76 t361.length co76 : Value).ownBlock ∧ some k_ ≠ (.slice Ao77 t364.length co77 : Value).ownBlock) (Kd.R_keptB (HO369.out) hkp (fun k_ hk_ hs_ => Or.elim hs_ (fun e_ => (hk_.1.1.2) e_) (fun e_ => Or.elim e_ (fun e_ => (hk_.1.2) e_) (fun e_ => (hk_.2) e_)))) (fun k_ hk_ => ⟨hk_.1.1.1.2, hk_.1.1.2, hk_.1.2, hk_.1.1.1.1.1, hk_.1.1.1.1.2⟩)); replace HO373 := mk_ (Kd.R_mono (ok' := fun k_ => some k_ ≠ (.slice Ao54 t351.length co54 : Value).ownBlock) (Kd.R_keptB ((Kd.R_apart' (Kd.R_apart' (Kd.R_apart' HO373.out (Kd.R_typed HO_351000.out) (by decide)) (Kd.R_typed HO_351001.out) (by decide)) (Kd.R_typed HO_351002.out) (by decide))) hkp (fun k_ hk_ hs_ => Or.elim hs_ (fun e_ => (hk_.1.1.2) e_) (fun e_ => Or.elim e_ (fun e_ => (hk_.1.2) e_) (fun e_ => (hk_.2) e_)))) (fun k_ hk_ => hk_.1.1.1.1.2)); replace HO_351000 := mk_ (Kd.R_reok rfl hy0 (fun k_ e_ => HO_351000.out.1 k_ e_)); replace HO_351001 := mk_ (Kd.R_reok rfl hy1 (fun k_ e_ => HO_351001.out.1 k_ e_)); replace HO_351002 := mk_ (Kd.R_reok rfl hy2 (fun k_ e_ => HO_351002.out.1 k_ e_)); replace HB := mk_ (hb); (try clear hb); (try clear hkp); (try clear hy0); (try clear hy1); (try clear hy2)) | ((with_reducible refine gc_ 22 rfl ?_); refine gl_ (some 79) rfl Try.func22 #[.slice Ao54 t351.length co54, .int .i64 t375] ?_; (with_reducible refine (laws_markFuelTankS.calls kj26 (fun k_ => some k_ = (.slice Ao54 t351.length co54 : Value).ownBlock) (.slice Ao54 t351.length co54) t351 t375 t379 t380 w _ ?side1 ?side2 A72.out).mono ?_); (case side1 => exact HB.out); (case side2 => exact Kd.R_tight rfl HO_13.out); rintro e w87 ⟨rfl, hy0, hb, hkp⟩; refine ⟨_, rfl, ?_⟩; replace HO_10 := mk_ (Kd.R_mono (ok' := fun k_ => some k_ ≠ (v357 : Value).ownBlock) (Kd.R_keptB ((Kd.R_apart' HO_10.out (Kd.R_typed HO_13.out) (by decide))) hkp (fun k_ hk_ hs_ => (hk_.2) hs_)) (fun k_ hk_ => hk_.1.1)); replace HO_14 := mk_ (Kd.R_mono (ok' := fun k_ => some k_ ≠ (v338 : Value).ownBlock) (Kd.R_keptB ((Kd.R_apart' HO_14.out (Kd.R_typed HO_13.out) (by decide))) hkp (fun k_ hk_ hs_ => (hk_.2) hs_)) (fun k_ hk_ => hk_.1.1)); replace HO_351000 := mk_ (Kd.R_mono (ok' := fun k_ => some k_ ≠ (.slice Ao49 t344.length co49 : Value).ownBlock ∧ some k_ ≠ (.slice Ao50 t347.length co50 : Value).ownBlock ∧ some k_ ≠ (.slice Ao76 t361.length co76 : Value).ownBlock ∧ some k_ ≠ (.slice Ao77 t364.length co77 : Value).ownBlock ∧ some k_ ≠ (.slice Ao78 t367.length co78 : Value).ownBlock) (Kd.R_keptB ((Kd.R_apart' HO_351000.out (Kd.R_typed HO_13.out) (by decide))) hkp (fun k_ hk_ hs_ => (hk_.2) hs_)) (fun k_ hk_ => ⟨hk_.1.1.1.1.1.1, hk_.1.1.1.1.1.2, hk_.1.1.1.1.2, hk_.1.1.1.2, hk_.1.1.2⟩)); replace HO_351001 := mk_ (Kd.R_mono (ok' := fun k_ => some k_ ≠ (.slice Ao45 t341.length co45 : Value).ownBlock ∧ some k_ ≠ (.slice Ao50 t347.length co50 : Value).ownBlock ∧ some k_ ≠ (.slice Ao76 t361.length co76 : Value).ownBlock ∧ some k_ ≠ (.slice Ao77 t364.length co77 : Value).ownBlock ∧ some k_ ≠ (.slice Ao78 t367.length co78 : Value).ownBlock) (Kd.R_keptB ((Kd.R_apart' HO_351001.out (Kd.R_typed HO_13.out) (by decide))) hkp (fun k_ hk_ hs_ => (hk_.2) hs_)) (fun k_ hk_ => ⟨hk_.1.1.1.1.1.1, hk_.1.1.1.1.1.2, hk_.1.1.1.1.2, hk_.1.1.1.2, hk_.1.1.2⟩)); replace HO_351002 := mk_ (Kd.R_mono (ok' := fun k_ => some k_ ≠ (.slice Ao45 t341.length co45 : Value).ownBlock ∧ some k_ ≠ (.slice Ao49 t344.length co49 : Value).ownBlock ∧ some k_ ≠ (.slice Ao76 t361.length co76 : Value).ownBlock ∧ some k_ ≠ (.slice Ao77 t364.length co77 : Value).ownBlock ∧ some k_ ≠ (.slice Ao78 t367.length co78 : Value).ownBlock) (Kd.R_keptB ((Kd.R_apart' HO_351002.out (Kd.R_typed HO_13.out) (by decide))) hkp (fun k_ hk_ hs_ => (hk_.2) hs_)) (fun k_ hk_ => ⟨hk_.1.1.1.1.1.1, hk_.1.1.1.1.1.2, hk_.1.1.1.1.2, hk_.1.1.1.2, hk_.1.1.2⟩)); replace BK319 := mk_ (blk_kept (by exact BK319.out) hkp (fun hs_ => (fun e_ => (Kd.R_ne HO_13.out BK319.out (by decide)) e_) hs_)); replace BK320 := mk_ (blk_kept (by exact BK320.out) hkp (fun hs_ => (fun e_ => (Kd.R_ne HO_13.out BK320.out (by decide)) e_) hs_)); replace BK350 := mk_ (blk_kept (by exact BK350.out) hkp (fun hs_ => (fun e_ => (Kd.R_ne HO_13.out BK350.out (by decide)) e_) hs_)); replace HO363 := mk_ (Kd.R_mono (ok' := fun k_ => some k_ ≠ (.slice Ao45 t341.length co45 : Value).ownBlock ∧ some k_ ≠ (.slice Ao49 t344.length co49 : Value).ownBlock ∧ some k_ ≠ (.slice Ao50 t347.length co50 : Value).ownBlock ∧ some k_ ≠ (.slice Ao77 t364.length co77 : Value).ownBlock ∧ some k_ ≠ (.slice Ao78 t367.length co78 : Value).ownBlock) (Kd.R_keptB ((Kd.R_apart' HO363.out (Kd.R_typed HO_13.out) (by decide))) hkp (fun k_ hk_ hs_ => (hk_.2) hs_)) (fun k_ hk_ => ⟨hk_.1.1.1, hk_.1.1.2.1, hk_.1.1.2.2.1, hk_.1.1.2.2.2.1, hk_.1.1.2.2.2.2⟩)); replace HO366 := mk_ (Kd.R_mono (ok' := fun k_ => some k_ ≠ (.slice Ao45 t341.length co45 : Value).ownBlock ∧ some k_ ≠ (.slice Ao49 t344.length co49 : Value).ownBlock ∧ some k_ ≠ (.slice Ao50 t347.length co50 : Value).ownBlock ∧ some k_ ≠ (.slice Ao76 t361.length co76 : Value).ownBlock ∧ some k_ ≠ (.slice Ao78 t367.length co78 : Value).ownBlock) (Kd.R_keptB ((Kd.R_apart' HO366.out (Kd.R_typed HO_13.out) (by decide))) hkp (fun k_ hk_ hs_ => (hk_.2) hs_)) (fun k_ hk_ => ⟨hk_.1.1.1, hk_.1.1.2.1, hk_.1.1.2.2.1, hk_.1.1.2.2.2.1, hk_.1.1.2.2.2.2⟩)); replace HO369 := mk_ (Kd.R_mono (ok' := fun k_ => some k_ ≠ (.slice Ao45 t341.length co45 : Value).ownBlock ∧ some k_ ≠ (.slice Ao49 t344.length co49 : Value).ownBlock ∧ some k_ ≠ (.slice Ao50 t347.length co50 : Value).ownBlock ∧ some k_ ≠ (.slice Ao76 t361.length co76 : Value).ownBlock ∧ some k_ ≠ (.slice Ao77 t364.length co77 : Value).ownBlock) (Kd.R_keptB ((Kd.R_apart' HO369.out (Kd.R_typed HO_13.out) (by decide))) hkp (fun k_ hk_ hs_ => (hk_.2) hs_)) (fun k_ hk_ => ⟨hk_.1.1.1, hk_.1.1.2.1, hk_.1.1.2.2.1, hk_.1.1.2.2.2.1, hk_.1.1.2.2.2.2⟩)); replace HO_13 := mk_ (Kd.R_reok rfl hy0 (fun k_ e_ => HO_13.out.1 k_ e_)); replace HO373 := mk_ (Kd.R_mono (ok' := fun k_ => some k_ ≠ (.slice Ao54 t351.length co54 : Value).ownBlock) (Kd.R_keptB (HO373.out) hkp (fun k_ hk_ hs_ => (hk_) hs_)) (fun k_ hk_ => hk_.1)); replace HB := mk_ (hb); (try clear hb); (try clear hkp); (try clear hy0)))
        (try simp only [Act.put, List.setIfInBounds_toArray, List.set_cons_zero, List.set_cons_succ])
        go_cut [92] (fun v92 wc => ∃ (kq : Nat) (x92_72 : Bool), v92 = .bool x92_72 ∧ Aside0 (laws_FnExactOrder.j1 kq l2 a3 t337 t340 t356 x92_72 l0_0 l0_1 l0_2 a1_0 a1_1 = some r) ∧ Aside0 (kq ≤ kj26) ∧ Aside0 (Kd.R k62 62 wc w.heap.size (fun k_ => some k_ ≠ (v357 : Value).ownBlock) v338 t337) ∧ Aside0 (Kd.R k62 62 wc w.heap.size (fun k_ => some k_ ≠ (v338 : Value).ownBlock) v357 t356) ∧ Aside0 (Kd.R (Kd.int .i64) 3 wc w.heap.size (fun k_ => some k_ ≠ ((.slice Ao49 t344.length co49) : Value).ownBlock ∧ some k_ ≠ ((.slice Ao50 t347.length co50) : Value).ownBlock) (.slice Ao45 t341.length co45) t376) ∧ Aside0 (Kd.R (Kd.int .i64) 3 wc w.heap.size (fun k_ => some k_ ≠ ((.slice Ao45 t341.length co45) : Value).ownBlock ∧ some k_ ≠ ((.slice Ao50 t347.length co50) : Value).ownBlock) (.slice Ao49 t344.length co49) t377) ∧ Aside0 (Kd.R (Kd.int .i64) 3 wc w.heap.size (fun k_ => some k_ ≠ ((.slice Ao45 t341.length co45) : Value).ownBlock ∧ some k_ ≠ ((.slice Ao49 t344.length co49) : Value).ownBlock) (.slice Ao50 t347.length co50) t378) ∧ Aside0 (wc.heap[gb319]? = some (.cells #[(.slice A0_0 l0_0.length c0_0), (.slice A0_1 l0_1.length c0_1), (.slice A0_2 l0_2.length c0_2)] 24 (0, 0))) ∧ Aside0 (wc.heap[gb320]? = some (.cells #[.int .i64 a1_0, .int .i64 a1_1] 26 (0, 0))) ∧ Aside0 (wc.heap[gb350]? = some (.cells #[(.slice Ao45 t341.length co45), (.slice Ao49 t344.length co49), (.slice Ao50 t347.length co50)] 33 (0, 0))) ∧ Aside0 (Below w.heap.size w wc))
        case first =>
         have H := HC73.out; clear HC73; by_cases c88 : t379 < 0
         ·rw [if_pos c88] at H; have c88b0 : decide (t379 < 0) = true := decide_eq_true c88; clear c88
          (first | rw [c88b0] | (simp only [i64_w, i32_w]; rw [c88b0]) | skip)
          have H' := mk_ H
          clear H; go_wp2; go_meet
          case rel => exact ⟨_, (true), rf_, H', ⟨by have := HJ26.out; first | omega | exact Nat.le_refl _⟩, kw_ HO_10, kw_ HO_14, km_ HO_351000 (fun _ hk => And.intro hk.1 hk.2.1), km_ HO_351001 (fun _ hk => And.intro hk.1 hk.2.1), km_ HO_351002 (fun _ hk => And.intro hk.1 hk.2.1), bw_ BK319, bw_ BK320, bw_ BK350, ⟨hw_ HB⟩⟩
         ·rw [if_neg c88] at H; have c88b0 : decide (t379 < 0) = false := decide_eq_false c88; clear c88
          (first | rw [c88b0] | (simp only [i64_w, i32_w]; rw [c88b0]) | skip)
          replace H := Option.bind_eq_some_iff.mp H; obtain ⟨t381, A890, H⟩ := H
          (try dsimp only at H); have A89 := mk_ A890; clear A890
          by_cases c90 : t381 = true
          ·subst c90; rw [if_pos rfl] at H
           have H' := mk_ H
           clear H; obtain ⟨Ao91, co91, eo91⟩ := Kd.R_slice HO_14.out; subst eo91; obtain ⟨Ao92, co92, eo92⟩ := Kd.R_slice HO_10.out; subst eo92
           go_wp2_with (first | (go_at_call 18; (with_reducible refine (laws_eqBurnS.calls kj26 _ _ t356 _ _ t337 true _ ?side1 ?side2 ?side3 ?side4 A89.out).mono ?_); (case side1 => exact cw_ (rr_ HO_14)); (case side2 => exact (Kd.R_reads' HO_14.out).2.1); (case side3 => exact cw_ (rr_ HO_10)); (case side4 => exact (Kd.R_reads' HO_10.out).2.1); rintro e w93 ⟨rfl, hb⟩; replace HO_10 := rb_ HO_10 hb; replace HO_13 := rb_ HO_13 hb; replace HO_14 := rb_ HO_14 hb; replace HO_351000 := rb_ HO_351000 hb; replace HO_351001 := rb_ HO_351001 hb; replace HO_351002 := rb_ HO_351002 hb; replace HO363 := rb_ HO363 hb; replace HO366 := rb_ HO366 hb; replace HO369 := rb_ HO369 hb; replace HO373 := rb_ HO373 hb; replace BK319 := bl_ BK319 hb; replace BK320 := bl_ BK320 hb; replace BK350 := bl_ BK350 hb; replace HB := bp_ HB hb; (try clear hb); (try clear hb2); (try clear hk); (try clear hi)))
           go_meet
           case rel => exact ⟨_, ((t359 != t340)), rf_, H', ⟨by have := HJ26.out; first | omega | exact Nat.le_refl _⟩, kw_ HO_10, kw_ HO_14, km_ HO_351000 (fun _ hk => And.intro hk.1 hk.2.1), km_ HO_351001 (fun _ hk => And.intro hk.1 hk.2.1), km_ HO_351002 (fun _ hk => And.intro hk.1 hk.2.1), bw_ BK319, bw_ BK320, bw_ BK350, ⟨hw_ HB⟩⟩
          ·replace c90 := Bool.eq_false_iff.mpr c90; subst c90; rw [if_neg (show ¬ (false = true) by decide)] at H
           have H' := mk_ H
           clear H; obtain ⟨Ao94, co94, eo94⟩ := Kd.R_slice HO_14.out; subst eo94; obtain ⟨Ao95, co95, eo95⟩ := Kd.R_slice HO_10.out; subst eo95
           go_wp2_with (first | (go_at_call 18; (with_reducible refine (laws_eqBurnS.calls kj26 _ _ t356 _ _ t337 false _ ?side1 ?side2 ?side3 ?side4 A89.out).mono ?_); (case side1 => exact cw_ (rr_ HO_14)); (case side2 => exact (Kd.R_reads' HO_14.out).2.1); (case side3 => exact cw_ (rr_ HO_10)); (case side4 => exact (Kd.R_reads' HO_10.out).2.1); rintro e w96 ⟨rfl, hb⟩; replace HO_10 := rb_ HO_10 hb; replace HO_13 := rb_ HO_13 hb; replace HO_14 := rb_ HO_14 hb; replace HO_351000 := rb_ HO_351000 hb; replace HO_351001 := rb_ HO_351001 hb; replace HO_351002 := rb_ HO_351002 hb; replace HO363 := rb_ HO363 hb; replace HO366 := rb_ HO366 hb; replace HO369 := rb_ HO369 hb; replace HO373 := rb_ HO373 hb; replace BK319 := bl_ BK319 hb; replace BK320 := bl_ BK320 hb; replace BK350 := bl_ BK350 hb; replace HB := bp_ HB hb; (try clear hb); (try clear hb2); (try clear hk); (try clear hi)))
           go_meet
           case rel => exact ⟨_, (true), rf_, H', ⟨by have := HJ26.out; first | omega | exact Nat.le_refl _⟩, kw_ HO_10, kw_ HO_14, km_ HO_351000 (fun _ hk => And.intro hk.1 hk.2.1), km_ HO_351001 (fun _ hk => And.intro hk.1 hk.2.1), km_ HO_351002 (fun _ hk => And.intro hk.1 hk.2.1), bw_ BK319, bw_ BK320, bw_ BK350, ⟨hw_ HB⟩⟩
        case rest =>
         clear HC73; (try clear c2); (try clear c6); (try clear c13); (try clear c64); (try clear c67); (try clear c70)
         obtain ⟨kq, x92_72, rfl, HA, HJ72, HO_10, HO_14, HO_351000, HO_351001, HO_351002, BK319, BK320, BK350, HB⟩ := hcut
         have hl351000_72 := (Kd.R_reads' HO_351000.out).1
         rw [hl351000_72] at HO_351000
         (try simp only [hl351000_72])
         (try simp only [hl351000_72] at BK319)
         (try simp only [hl351000_72] at BK320)
         (try simp only [hl351000_72] at BK350)
         (try simp only [hl351000_72] at HO_10)
         (try simp only [hl351000_72] at HO_14)
         (try simp only [hl351000_72] at HO_351001)
         (try simp only [hl351000_72] at HO_351002)
         have hl351001_72 := (Kd.R_reads' HO_351001.out).1
         rw [hl351001_72] at HO_351001
         (try simp only [hl351001_72])
         (try simp only [hl351001_72] at BK319)
         (try simp only [hl351001_72] at BK320)
         (try simp only [hl351001_72] at BK350)
         (try simp only [hl351001_72] at HO_10)
         (try simp only [hl351001_72] at HO_14)
         (try simp only [hl351001_72] at HO_351000)
         (try simp only [hl351001_72] at HO_351002)
         have hl351002_72 := (Kd.R_reads' HO_351002.out).1
         rw [hl351002_72] at HO_351002
         (try simp only [hl351002_72])
         (try simp only [hl351002_72] at BK319)
         (try simp only [hl351002_72] at BK320)
         (try simp only [hl351002_72] at BK350)
         (try simp only [hl351002_72] at HO_10)
         (try simp only [hl351002_72] at HO_14)
         (try simp only [hl351002_72] at HO_351000)
         (try simp only [hl351002_72] at HO_351001)
         cases kq with
         | zero => exact absurd HA.out (by simp [laws_FnExactOrder.j1])
         | succ kj72 =>
          have H := HA.out; clear HA
          simp only [laws_FnExactOrder.j1] at H
          by_cases c97 : x92_72 = true
          ·subst c97; rw [if_pos rfl] at H
           obtain rfl := Option.some.inj H; go_wp2
           go_ret
           exact ⟨re_, hw_ HB⟩
          ·replace c97 := Bool.eq_false_iff.mpr c97; subst c97; rw [if_neg (show ¬ (false = true) by decide)] at H; replace H := Option.bind_eq_some_iff.mp H; obtain ⟨⟨t382, t383⟩, A980, H⟩ := H; (try dsimp only at H); have A98 := mk_ A980; clear A980; replace H := Option.bind_eq_some_iff.mp H; obtain ⟨t384, A990, H⟩ := H; (try dsimp only at H); have A99 := mk_ A990; clear A990; by_cases c100 : t384 < 0
           ·rw [if_pos c100] at H; have c100b0 : decide (t384 < 0) = true := decide_eq_true c100; clear c100; obtain rfl := Option.some.inj H; obtain ⟨Ao101, co101, eo101⟩ := Kd.R_slice HO_14.out; subst eo101
            go_wp2_with (first | ((with_reducible refine gc_ 23 rfl ?_); refine gl_ (some 95) rfl Try.func23 #[.slice Ao101 t356.length co101, .int .i64 1] ?_; (with_reducible refine (laws_markBurnS.calls kj72 (fun k_ => some k_ = (.slice Ao101 t356.length co101 : Value).ownBlock) (.slice Ao101 t356.length co101) t356 1 t382 t383 w _ ?side1 ?side2 A98.out).mono ?_); (case side1 => exact HB.out); (case side2 => exact Kd.R_tight rfl HO_14.out); rintro e w102 ⟨rfl, hy0, hb, hkp⟩; refine ⟨_, rfl, ?_⟩; replace HO_10 := mk_ (Kd.R_mono (ok' := fun k_ => some k_ ≠ (.slice Ao101 t356.length co101 : Value).ownBlock) (Kd.R_keptB (HO_10.out) hkp (fun k_ hk_ hs_ => (hk_) hs_)) (fun k_ hk_ => hk_.1)); replace HO_351000 := mk_ (Kd.R_mono (ok' := fun k_ => some k_ ≠ (.slice Ao49 t377.length co49 : Value).ownBlock ∧ some k_ ≠ (.slice Ao50 t378.length co50 : Value).ownBlock) (Kd.R_keptB ((Kd.R_apart' HO_351000.out (Kd.R_typed HO_14.out) (by decide))) hkp (fun k_ hk_ hs_ => (hk_.2) hs_)) (fun k_ hk_ => ⟨hk_.1.1.1, hk_.1.1.2⟩)); replace HO_351001 := mk_ (Kd.R_mono (ok' := fun k_ => some k_ ≠ (.slice Ao45 t376.length co45 : Value).ownBlock ∧ some k_ ≠ (.slice Ao50 t378.length co50 : Value).ownBlock) (Kd.R_keptB ((Kd.R_apart' HO_351001.out (Kd.R_typed HO_14.out) (by decide))) hkp (fun k_ hk_ hs_ => (hk_.2) hs_)) (fun k_ hk_ => ⟨hk_.1.1.1, hk_.1.1.2⟩)); replace HO_351002 := mk_ (Kd.R_mono (ok' := fun k_ => some k_ ≠ (.slice Ao45 t376.length co45 : Value).ownBlock ∧ some k_ ≠ (.slice Ao49 t377.length co49 : Value).ownBlock) (Kd.R_keptB ((Kd.R_apart' HO_351002.out (Kd.R_typed HO_14.out) (by decide))) hkp (fun k_ hk_ hs_ => (hk_.2) hs_)) (fun k_ hk_ => ⟨hk_.1.1.1, hk_.1.1.2⟩)); replace BK319 := mk_ (blk_kept (by exact BK319.out) hkp (fun hs_ => (fun e_ => (Kd.R_ne HO_14.out BK319.out (by decide)) e_) hs_)); replace BK320 := mk_ (blk_kept (by exact BK320.out) hkp (fun hs_ => (fun e_ => (Kd.R_ne HO_14.out BK320.out (by decide)) e_) hs_)); replace BK350 := mk_ (blk_kept (by exact BK350.out) hkp (fun hs_ => (fun e_ => (Kd.R_ne HO_14.out BK350.out (by decide)) e_) hs_)); replace HO_14 := mk_ (Kd.R_reok rfl hy0 (fun k_ e_ => HO_14.out.1 k_ e_)); replace HB := mk_ (hb); (try clear hb); (try clear hkp); (try clear hy0)) | ((with_reducible refine gate_callee (f := 24) rfl ?_); refine goesL_ (some 98) rfl rfl Try.func24 (by kernel_rfl) rfl #[.slice Ao101 t383.length co101, .int .i64 1] rfl (by (try simp only [List.map_toArray, List.map_cons, List.map_nil]); first | done | (rw [show t383.length = t356.length from (Kd.R_reads' HO_14.out).1.symm] <;> rfl) | rfl | (simp only [List.length_drop, List.length_take]; rfl)) ?_; (with_reducible refine (laws_heldBurnS.calls kj72 _ _ t383 1 t384 _ ?side1 ?side2 A99.out).mono ?_); (case side1 => exact cw_ (rr_ HO_14)); (case side2 => rw [show t383.length = t356.length from (Kd.R_reads' HO_14.out).1.symm]; exact (Kd.R_reads' HO_14.out).2.1); rintro e w' ⟨rfl, ⟨nd, rfl⟩⟩; refine ⟨_, rfl, ?_⟩))
            go_ret
            exact ⟨re_, hw_ HB⟩
           ·rw [if_neg c100] at H; have c100b0 : decide (t384 < 0) = false := decide_eq_false c100; clear c100; by_cases c103 : t384 = t382
            ·rw [if_pos c103] at H; have c103b0 : (t384 == t382) = true := beq_iff_eq.mpr c103; have c103b1 : (t384 != t382) = false := bne_eq_false_iff_eq.mpr c103; clear c103; replace H := Option.bind_eq_some_iff.mp H; obtain ⟨⟨t385, t388, t391⟩, A1040, H⟩ := H; (try dsimp only at H); have A104 := mk_ A1040; clear A1040; replace H := Option.bind_eq_some_iff.mp H; obtain ⟨⟨t394, t395⟩, A1050, H⟩ := H; (try dsimp only at H); have A105 := mk_ A1050; clear A1050; replace H := Option.bind_eq_some_iff.mp H; obtain ⟨t396, A1060, H⟩ := H; (try dsimp only at H); have A106 := mk_ A1060; clear A1060; replace H := Option.bind_eq_some_iff.mp H; obtain ⟨⟨t399, t402⟩, A1070, H⟩ := H; (try dsimp only at H); have A107 := mk_ A1070; clear A1070; have HC108 := mk_ H; clear H; obtain ⟨Ao109, co109, eo109⟩ := Kd.R_slice HO_14.out; subst eo109
             try go_wp2_with (first | ((with_reducible refine gc_ 23 rfl ?_); refine gl_ (some 95) rfl Try.func23 #[.slice Ao109 t356.length co109, .int .i64 1] ?_; (with_reducible refine (laws_markBurnS.calls kj72 (fun k_ => some k_ = (.slice Ao109 t356.length co109 : Value).ownBlock) (.slice Ao109 t356.length co109) t356 1 t382 t383 w _ ?side1 ?side2 A98.out).mono ?_); (case side1 => exact HB.out); (case side2 => exact Kd.R_tight rfl HO_14.out); rintro e w110 ⟨rfl, hy0, hb, hkp⟩; refine ⟨_, rfl, ?_⟩; replace HO_10 := mk_ (Kd.R_mono (ok' := fun k_ => some k_ ≠ (.slice Ao109 t356.length co109 : Value).ownBlock) (Kd.R_keptB (HO_10.out) hkp (fun k_ hk_ hs_ => (hk_) hs_)) (fun k_ hk_ => hk_.1)); replace HO_351000 := mk_ (Kd.R_mono (ok' := fun k_ => some k_ ≠ (.slice Ao49 t377.length co49 : Value).ownBlock ∧ some k_ ≠ (.slice Ao50 t378.length co50 : Value).ownBlock) (Kd.R_keptB ((Kd.R_apart' HO_351000.out (Kd.R_typed HO_14.out) (by decide))) hkp (fun k_ hk_ hs_ => (hk_.2) hs_)) (fun k_ hk_ => ⟨hk_.1.1.1, hk_.1.1.2⟩)); replace HO_351001 := mk_ (Kd.R_mono (ok' := fun k_ => some k_ ≠ (.slice Ao45 t376.length co45 : Value).ownBlock ∧ some k_ ≠ (.slice Ao50 t378.length co50 : Value).ownBlock) (Kd.R_keptB ((Kd.R_apart' HO_351001.out (Kd.R_typed HO_14.out) (by decide))) hkp (fun k_ hk_ hs_ => (hk_.2) hs_)) (fun k_ hk_ => ⟨hk_.1.1.1, hk_.1.1.2⟩)); replace HO_351002 := mk_ (Kd.R_mono (ok' := fun k_ => some k_ ≠ (.slice Ao45 t376.length co45 : Value).ownBlock ∧ some k_ ≠ (.slice Ao49 t377.length co49 : Value).ownBlock) (Kd.R_keptB ((Kd.R_apart' HO_351002.out (Kd.R_typed HO_14.out) (by decide))) hkp (fun k_ hk_ hs_ => (hk_.2) hs_)) (fun k_ hk_ => ⟨hk_.1.1.1, hk_.1.1.2⟩)); replace BK319 := mk_ (blk_kept (by exact BK319.out) hkp (fun hs_ => (fun e_ => (Kd.R_ne HO_14.out BK319.out (by decide)) e_) hs_)); replace BK320 := mk_ (blk_kept (by exact BK320.out) hkp (fun hs_ => (fun e_ => (Kd.R_ne HO_14.out BK320.out (by decide)) e_) hs_)); replace BK350 := mk_ (blk_kept (by exact BK350.out) hkp (fun hs_ => (fun e_ => (Kd.R_ne HO_14.out BK350.out (by decide)) e_) hs_)); replace HO_14 := mk_ (Kd.R_reok rfl hy0 (fun k_ e_ => HO_14.out.1 k_ e_)); replace HB := mk_ (hb); (try clear hb); (try clear hkp); (try clear hy0)) | ((with_reducible refine gate_callee (f := 24) rfl ?_); refine goesL_ (some 98) rfl rfl Try.func24 (by kernel_rfl) rfl #[.slice Ao109 t383.length co109, .int .i64 1] rfl (by (try simp only [List.map_toArray, List.map_cons, List.map_nil]); first | done | (rw [show t383.length = t356.length from (Kd.R_reads' HO_14.out).1.symm] <;> rfl) | rfl | (simp only [List.length_drop, List.length_take]; rfl)) ?_; (with_reducible refine (laws_heldBurnS.calls kj72 _ _ t383 1 t384 _ ?side1 ?side2 A99.out).mono ?_); (case side1 => exact cw_ (rr_ HO_14)); (case side2 => rw [show t383.length = t356.length from (Kd.R_reads' HO_14.out).1.symm]; exact (Kd.R_reads' HO_14.out).2.1); rintro e w' ⟨rfl, ⟨nd, rfl⟩⟩; refine ⟨_, rfl, ?_⟩))
             (first | (rw [World.drewN_drewN]; (repeat rw [World.drewN_drewN]); generalize hq_ : World.drewN w110 _ = w110; have n0_ : Aside0 (Kd.R k62 62 w110 w.heap.size (fun k_ => some k_ ≠ (.slice Ao109 t356.length co109 : Value).ownBlock) v338 t337) := ⟨by rw [← hq_]; exact (kx_ HO_10)⟩; have n1_ : Aside0 (Kd.R k62 62 w110 w.heap.size (fun k_ => some k_ ≠ (v338 : Value).ownBlock) (.slice Ao109 t356.length co109) t383) := ⟨by rw [← hq_]; exact (kx_ HO_14)⟩; have n2_ : Aside0 (Kd.R (Kd.int .i64) 3 w110 w.heap.size (fun k_ => (some k_ ≠ (.slice Ao49 t377.length co49 : Value).ownBlock ∧ some k_ ≠ (.slice Ao50 t378.length co50 : Value).ownBlock)) (.slice Ao45 t376.length co45) t376) := ⟨by rw [← hq_]; exact (kx_ HO_351000)⟩; have n3_ : Aside0 (Kd.R (Kd.int .i64) 3 w110 w.heap.size (fun k_ => (some k_ ≠ (.slice Ao45 t376.length co45 : Value).ownBlock ∧ some k_ ≠ (.slice Ao50 t378.length co50 : Value).ownBlock)) (.slice Ao49 t377.length co49) t377) := ⟨by rw [← hq_]; exact (kx_ HO_351001)⟩; have n4_ : Aside0 (Kd.R (Kd.int .i64) 3 w110 w.heap.size (fun k_ => (some k_ ≠ (.slice Ao45 t376.length co45 : Value).ownBlock ∧ some k_ ≠ (.slice Ao49 t377.length co49 : Value).ownBlock)) (.slice Ao50 t378.length co50) t378) := ⟨by rw [← hq_]; exact (kx_ HO_351002)⟩; have n5_ : Aside0 (w110.heap[gb319]? = some (.cells #[.slice A0_0 l0_0.length c0_0, .slice A0_1 l0_1.length c0_1, .slice A0_2 l0_2.length c0_2] 24 (0, 0))) := ⟨by rw [← hq_]; exact (bx_ BK319)⟩; have n6_ : Aside0 (w110.heap[gb320]? = some (.cells #[.int .i64 a1_0, .int .i64 a1_1] 26 (0, 0))) := ⟨by rw [← hq_]; exact (bx_ BK320)⟩; have n7_ : Aside0 (w110.heap[gb350]? = some (.cells #[.slice Ao45 t376.length co45, .slice Ao49 t377.length co49, .slice Ao50 t378.length co50] 33 (0, 0))) := ⟨by rw [← hq_]; exact (bx_ BK350)⟩; have n8_ : Aside0 (Below w.heap.size w w110) := ⟨by rw [← hq_]; exact (hw_ HB)⟩; clear HO_10 HO_14 HO_351000 HO_351001 HO_351002 BK319 BK320 BK350 HB hq_; have HO_10 := n0_; have HO_14 := n1_; have HO_351000 := n2_; have HO_351001 := n3_; have HO_351002 := n4_; have BK319 := n5_; have BK320 := n6_; have BK350 := n7_; have HB := n8_; clear n0_ n1_ n2_ n3_ n4_ n5_ n6_ n7_ n8_) | (rw [(rfl : World.drewN w110 nd = World.drewN w110 nd)]; generalize hq_ : World.drewN w110 nd = w110; have n0_ : Aside0 (Kd.R k62 62 w110 w.heap.size (fun k_ => some k_ ≠ (.slice Ao109 t356.length co109 : Value).ownBlock) v338 t337) := ⟨by rw [← hq_]; exact (kx_ HO_10)⟩; have n1_ : Aside0 (Kd.R k62 62 w110 w.heap.size (fun k_ => some k_ ≠ (v338 : Value).ownBlock) (.slice Ao109 t356.length co109) t383) := ⟨by rw [← hq_]; exact (kx_ HO_14)⟩; have n2_ : Aside0 (Kd.R (Kd.int .i64) 3 w110 w.heap.size (fun k_ => (some k_ ≠ (.slice Ao49 t377.length co49 : Value).ownBlock ∧ some k_ ≠ (.slice Ao50 t378.length co50 : Value).ownBlock)) (.slice Ao45 t376.length co45) t376) := ⟨by rw [← hq_]; exact (kx_ HO_351000)⟩; have n3_ : Aside0 (Kd.R (Kd.int .i64) 3 w110 w.heap.size (fun k_ => (some k_ ≠ (.slice Ao45 t376.length co45 : Value).ownBlock ∧ some k_ ≠ (.slice Ao50 t378.length co50 : Value).ownBlock)) (.slice Ao49 t377.length co49) t377) := ⟨by rw [← hq_]; exact (kx_ HO_351001)⟩; have n4_ : Aside0 (Kd.R (Kd.int .i64) 3 w110 w.heap.size (fun k_ => (some k_ ≠ (.slice Ao45 t376.length co45 : Value).ownBlock ∧ some k_ ≠ (.slice Ao49 t377.length co49 : Value).ownBlock)) (.slice Ao50 t378.length co50) t378) := ⟨by rw [← hq_]; exact (kx_ HO_351002)⟩; have n5_ : Aside0 (w110.heap[gb319]? = some (.cells #[.slice A0_0 l0_0.length c0_0, .slice A0_1 l0_1.length c0_1, .slice A0_2 l0_2.length c0_2] 24 (0, 0))) := ⟨by rw [← hq_]; exact (bx_ BK319)⟩; have n6_ : Aside0 (w110.heap[gb320]? = some (.cells #[.int .i64 a1_0, .int .i64 a1_1] 26 (0, 0))) := ⟨by rw [← hq_]; exact (bx_ BK320)⟩; have n7_ : Aside0 (w110.heap[gb350]? = some (.cells #[.slice Ao45 t376.length co45, .slice Ao49 t377.length co49, .slice Ao50 t378.length co50] 33 (0, 0))) := ⟨by rw [← hq_]; exact (bx_ BK350)⟩; have n8_ : Aside0 (Below w.heap.size w w110) := ⟨by rw [← hq_]; exact (hw_ HB)⟩; clear HO_10 HO_14 HO_351000 HO_351001 HO_351002 BK319 BK320 BK350 HB hq_; have HO_10 := n0_; have HO_14 := n1_; have HO_351000 := n2_; have HO_351001 := n3_; have HO_351002 := n4_; have BK319 := n5_; have BK320 := n6_; have BK350 := n7_; have HB := n8_; clear n0_ n1_ n2_ n3_ n4_ n5_ n6_ n7_ n8_) | (try (rw [drewN_self w110]; generalize hq_ : World.drewN w110 _ = w110; have n0_ := qR_ hq_ HO_10; have n1_ := qR_ hq_ HO_14; have n2_ := qR_ hq_ HO_351000; have n3_ := qR_ hq_ HO_351001; have n4_ := qR_ hq_ HO_351002; have n5_ := qB_ hq_ BK319; have n6_ := qB_ hq_ BK320; have n7_ := qB_ hq_ BK350; have n8_ := qH_ hq_ HB; clear HO_10 HO_14 HO_351000 HO_351001 HO_351002 BK319 BK320 BK350 HB hq_; have HO_10 := n0_; have HO_14 := n1_; have HO_351000 := n2_; have HO_351001 := n3_; have HO_351002 := n4_; have BK319 := n5_; have BK320 := n6_; have BK350 := n7_; have HB := n8_; clear n0_ n1_ n2_ n3_ n4_ n5_ n6_ n7_ n8_)))
             replace HO_10 := dR_ HO_10; replace HO_14 := dR_ HO_14; replace HO_351000 := dR_ HO_351000; replace HO_351001 := dR_ HO_351001; replace HO_351002 := dR_ HO_351002; replace BK319 := dB_ BK319; replace BK320 := dB_ BK320; replace BK350 := dB_ BK350; replace HB := dH_ HB
             refine start_ (n := 13) (S := fun w' => w'.cell? ⟨gb319, 0, none⟩ = some (.slice A0_0 l0_0.length c0_0) ∧ w'.cell? ⟨gb319, 1, none⟩ = some (.slice A0_1 l0_1.length c0_1) ∧ w'.cell? ⟨gb319, 2, none⟩ = some (.slice A0_2 l0_2.length c0_2) ∧ w'.cell? ⟨gb320, 0, none⟩ = some (.int .i64 a1_0) ∧ w'.cell? ⟨gb320, 1, none⟩ = some (.int .i64 a1_1)) (ds := []) (bs_ 13 0) (by kernel_rfl) rfl (by kernel_rfl) ⟨bc0_ BK319, bc1_ BK319, bc2_ BK319, bc0_ BK320, bc1_ BK320⟩ (fun hHeld => ?_); refine with_tabW laws_FnExactOrder.tab31 laws_FnExactOrder.bits31 (fun HT_ HW_ => ?_)
             generalize w110.drew = w111 at HO_10 HO_14 HO_351000 HO_351001 HO_351002 BK319 BK320 BK350 HB hHeld ⊢
             refine pu_ HT_ 4 109 (bs_ 13 16) ?_; refine pu_ HT_ 6 111 (bs_ 13 80) ?_; refine tk_ HT_ HW_ 0 105 (bs_ 13 81) hHeld ?_; refine tk_ HT_ HW_ 2 107 (bs_ 13 85) hHeld ?_
             refine one_ (i := 1) (N := some 106) (bs_ 13 87) rfl rfl (one_of HT_.out (by kernel_rfl)) (by decide) (fun K hK => ?_)
             refine gs_ Try.func11 #[.agg #[.slice A0_0 l0_0.length c0_0, .slice A0_1 l0_1.length c0_1, .slice A0_2 l0_2.length c0_2]] ?_
             with_reducible refine (laws_toEnvelope.calls kj72 _ _ l0_0 _ _ l0_1 _ _ l0_2 t385 t388 t391 _ ?side1 ?side2 ?side3 ?side4 ?side5 ?side6 A104.out).mono ?_
             (case side1 => exact cw_ (Kd.C_below HR0_0.out HB.out))
             (case side2 => exact HC0_0.out)
             (case side3 => exact cw_ (Kd.C_below HR0_1.out HB.out))
             (case side4 => exact HC0_1.out)
             (case side5 => exact cw_ (Kd.C_below HR0_2.out HB.out))
             (case side6 => exact HC0_2.out)
             rintro e w112 ⟨v386, v389, v392, rfl, ho0, ho1, ho2, hb⟩
             refine ⟨_, rfl, ?_⟩
             replace HO_10 := rk_ HO_10 hb; replace HO_14 := rk_ HO_14 hb; have HO387 := mk_ (Kd.R_lower (Kd.R_new' (Kd.R_new' (Kd.R_new' ho0 (Kd.R_lt (kx_ HO_351000))) (Kd.R_lt (kx_ HO_351001))) (Kd.R_lt (kx_ HO_351002))) (below_size (hw_ HB))); have HO390 := mk_ (Kd.R_lower (Kd.R_new' (Kd.R_new' (Kd.R_new' ho1 (Kd.R_lt (kx_ HO_351000))) (Kd.R_lt (kx_ HO_351001))) (Kd.R_lt (kx_ HO_351002))) (below_size (hw_ HB))); have HO393 := mk_ (Kd.R_lower (Kd.R_new' (Kd.R_new' (Kd.R_new' ho2 (Kd.R_lt (kx_ HO_351000))) (Kd.R_lt (kx_ HO_351001))) (Kd.R_lt (kx_ HO_351002))) (below_size (hw_ HB))); replace HO_351000 := mk_ (Kd.R_mono (Kd.R_told (Kd.R_told (Kd.R_told (Kd.R_old (kx_ HO_351000) hb) (Kd.R_base ho0)) (Kd.R_base ho1)) (Kd.R_base ho2)) (fun _ h_ => h_.1)); replace HO_351001 := mk_ (Kd.R_mono (Kd.R_told (Kd.R_told (Kd.R_told (Kd.R_old (kx_ HO_351001) hb) (Kd.R_base ho0)) (Kd.R_base ho1)) (Kd.R_base ho2)) (fun _ h_ => h_.1)); replace HO_351002 := mk_ (Kd.R_mono (Kd.R_told (Kd.R_told (Kd.R_told (Kd.R_old (kx_ HO_351002) hb) (Kd.R_base ho0)) (Kd.R_base ho1)) (Kd.R_base ho2)) (fun _ h_ => h_.1)); replace BK319 := bk_ BK319 hb; replace BK320 := bk_ BK320 hb; replace BK350 := bk_ BK350 hb; replace HB := hk_ HB hb
             (try clear hb); (try clear hb2); (try clear hk); (try clear hi); (try clear ho0); (try clear ho1); (try clear ho2)
             refine hK.out _ _ ⟨bc0_ BK319, bc1_ BK319, bc2_ BK319, bc0_ BK320, bc1_ BK320⟩ (fun hHeld => ?_)
             clear hK K; refine nm_ ?_
             refine one_ (i := 3) (N := some 108) (bs_ 13 95) rfl rfl (one_of HT_.out (by kernel_rfl)) (by decide) (fun K hK => ?_)
             refine gs_ Try.func12 #[.agg #[.int .i64 a1_0, .int .i64 a1_1]] ?_
             with_reducible refine (laws_toSum2.calls a1_0 a1_1 t394 t395 _ A105.out).mono ?_
             rintro e w113 ⟨rfl, hb⟩
             refine ⟨_, rfl, ?_⟩
             replace HO_10 := rk_ HO_10 hb; replace HO_14 := rk_ HO_14 hb; replace HO_351000 := rk_ HO_351000 hb; replace HO_351001 := rk_ HO_351001 hb; replace HO_351002 := rk_ HO_351002 hb; replace HO387 := rk_ HO387 hb; replace HO390 := rk_ HO390 hb; replace HO393 := rk_ HO393 hb; replace BK319 := bk_ BK319 hb; replace BK320 := bk_ BK320 hb; replace BK350 := bk_ BK350 hb; replace HB := hk_ HB hb
             (try clear hb); (try clear hb2); (try clear hk); (try clear hi)
             refine hK.out _ _ ⟨bc0_ BK319, bc1_ BK319, bc2_ BK319, bc0_ BK320, bc1_ BK320⟩ (fun hHeld => ?_)
             clear hK K; refine nm_ ?_
             refine one_ (i := 5) (N := some 110) (bs_ 13 127) rfl rfl (one_of HT_.out (by kernel_rfl)) (by decide) (fun K hK => ?_)
             refine gs_ Try.func13 #[.slice A2 l2.length c2] ?_
             with_reducible refine (laws_toFuelTankS.calls kj72 _ _ l2 t396 _ ?side1 ?side2 A106.out).mono ?_
             (case side1 => exact cw_ (Kd.C_below HR2.out HB.out))
             (case side2 => exact HC2.out)
             rintro e w114 ⟨v397, rfl, ho0, hb⟩
             refine ⟨_, rfl, ?_⟩
             replace HO_10 := rk_ HO_10 hb; replace HO_14 := rk_ HO_14 hb; replace HO_351000 := rk_ HO_351000 hb; replace HO_351001 := rk_ HO_351001 hb; replace HO_351002 := rk_ HO_351002 hb; replace HO387 := rk_ HO387 hb; replace HO390 := rk_ HO390 hb; replace HO393 := rk_ HO393 hb; have HO398 := mk_ (Kd.R_lower ho0 (below_size (hw_ HB))); replace BK319 := bk_ BK319 hb; replace BK320 := bk_ BK320 hb; replace BK350 := bk_ BK350 hb; replace HB := hk_ HB hb
             (try clear hb); (try clear hb2); (try clear hk); (try clear hi); (try clear ho0); obtain ⟨Ao115, co115, eo115⟩ := Kd.R_slice HO387.out
             (first | subst eo115 | (injection eo115 with f1_ f2_ f3_; have f4_ := f1_.symm; have f5_ := f3_.symm; clear f1_ f2_ f3_; subst f4_; subst f5_))
             obtain ⟨Ao116, co116, eo116⟩ := Kd.R_slice HO390.out
             (first | subst eo116 | (injection eo116 with f1_ f2_ f3_; have f4_ := f1_.symm; have f5_ := f3_.symm; clear f1_ f2_ f3_; subst f4_; subst f5_))
             obtain ⟨Ao117, co117, eo117⟩ := Kd.R_slice HO393.out
             (first | subst eo117 | (injection eo117 with f1_ f2_ f3_; have f4_ := f1_.symm; have f5_ := f3_.symm; clear f1_ f2_ f3_; subst f4_; subst f5_))
             obtain ⟨Ao118, co118, eo118⟩ := Kd.R_slice HO398.out
             (first | subst eo118 | (injection eo118 with f1_ f2_ f3_; have f4_ := f1_.symm; have f5_ := f3_.symm; clear f1_ f2_ f3_; subst f4_; subst f5_))
             refine hK.out _ _ ⟨bc0_ BK319, bc1_ BK319, bc2_ BK319, bc0_ BK320, bc1_ BK320⟩ (fun hHeld => ?_)
             clear hK K; refine nm_ ?_
             refine one_ (i := 7) (N := some 112) (bs_ 13 255) rfl rfl (one_of HT_.out (by kernel_rfl)) (by decide) (fun K hK => ?_)
             refine gs_ Try.func20 #[.agg #[.slice Ao115 t385.length co115, .slice Ao116 t388.length co116, .slice Ao117 t391.length co117], .agg #[.int .i64 t394, .int .i64 t395], .slice Ao118 t396.length co118, .int .i64 a3] ?_
             with_reducible refine (impl_Order.calls kj72 _ _ t385 _ _ t388 _ _ t391 t394 t395 _ _ t396 a3 t399 t402 _ ?side1 ?side2 ?side3 ?side4 ?side5 ?side6 ?side7 ?side8 A107.out).mono ?_
             (case side1 => exact cw_ (rr_ HO387))
             (case side2 => exact (Kd.R_reads' HO387.out).2.1)
             (case side3 => exact cw_ (rr_ HO390))
             (case side4 => exact (Kd.R_reads' HO390.out).2.1)
             (case side5 => exact cw_ (rr_ HO393))
             (case side6 => exact (Kd.R_reads' HO393.out).2.1)
             (case side7 => exact cw_ (rr_ HO398))
             (case side8 => exact (Kd.R_reads' HO398.out).2.1)
             rintro e w119 ⟨v400, rfl, ho0, hb⟩
             refine ⟨_, rfl, ?_⟩
             replace HO_351000 := rk_ HO_351000 hb; replace HO_351001 := rk_ HO_351001 hb; replace HO_351002 := rk_ HO_351002 hb; replace HO387 := rk_ HO387 hb; replace HO390 := rk_ HO390 hb; replace HO393 := rk_ HO393 hb; replace HO398 := rk_ HO398 hb; have HO401 := mk_ (Kd.R_lower (Kd.R_new' (Kd.R_new' ho0 (Kd.R_lt (kx_ HO_10))) (Kd.R_lt (kx_ HO_14))) (below_size (hw_ HB))); replace HO_10 := mk_ (Kd.R_elder' (kx_ HO_10) (Kd.R_base ho0) hb); replace HO_14 := mk_ (Kd.R_elder' (kx_ HO_14) (Kd.R_base ho0) hb); replace BK319 := bk_ BK319 hb; replace BK320 := bk_ BK320 hb; replace BK350 := bk_ BK350 hb; replace HB := hk_ HB hb
             (try clear hb); (try clear hb2); (try clear hk); (try clear hi); (try clear ho0)
             refine hK.out _ _ ⟨bc0_ BK319, bc1_ BK319, bc2_ BK319, bc0_ BK320, bc1_ BK320⟩ (fun hHeld => ?_)
             clear hK K; refine nm_ ?_; refine pu_ HT_ 8 104 (bs_ 13 511) ?_; refine pu_ HT_ 9 113 (bs_ 13 1023) ?_; refine pu_ HT_ 10 114 (bs_ 13 2047) ?_; refine pu_ HT_ 11 19 (bs_ 13 4095) ?_; refine pu_ HT_ 12 20 (bs_ 13 8191) ?_
             refine done_ (done_of HT_.out (by kernel_rfl)) ?_
             go_upto_region 32 with (fail)
             go_cut [123] (fun v123 wc => ∃ (kq : Nat) (x123_107 : Bool), v123 = .bool x123_107 ∧ Aside0 (laws_FnExactOrder.j2 kq t383 t382 x123_107 = some r) ∧ Aside0 (kq ≤ kj72) ∧ Aside0 (Kd.R k62 62 wc w.heap.size (fun _ => True) (.slice Ao109 t356.length co109) t383) ∧ Aside0 (Kd.R (Kd.int .i64) 3 wc w.heap.size (fun k_ => some k_ ≠ ((.slice Ao49 t377.length co49) : Value).ownBlock ∧ some k_ ≠ ((.slice Ao50 t378.length co50) : Value).ownBlock) (.slice Ao45 t376.length co45) t376) ∧ Aside0 (Kd.R (Kd.int .i64) 3 wc w.heap.size (fun k_ => some k_ ≠ ((.slice Ao45 t376.length co45) : Value).ownBlock ∧ some k_ ≠ ((.slice Ao50 t378.length co50) : Value).ownBlock) (.slice Ao49 t377.length co49) t377) ∧ Aside0 (Kd.R (Kd.int .i64) 3 wc w.heap.size (fun k_ => some k_ ≠ ((.slice Ao45 t376.length co45) : Value).ownBlock ∧ some k_ ≠ ((.slice Ao49 t377.length co49) : Value).ownBlock) (.slice Ao50 t378.length co50) t378) ∧ Aside0 (wc.heap[gb319]? = some (.cells #[(.slice A0_0 l0_0.length c0_0), (.slice A0_1 l0_1.length c0_1), (.slice A0_2 l0_2.length c0_2)] 24 (0, 0))) ∧ Aside0 (wc.heap[gb350]? = some (.cells #[(.slice Ao45 t376.length co45), (.slice Ao49 t377.length co49), (.slice Ao50 t378.length co50)] 33 (0, 0))) ∧ Aside0 (Below w.heap.size w wc))
             case first =>
              have H := HC108.out; clear HC108; replace H := Option.bind_eq_some_iff.mp H; obtain ⟨t403, A1200, H⟩ := H; (try dsimp only at H); have A120 := mk_ A1200; clear A1200; by_cases c121 : t403 = true
              ·subst c121; rw [if_pos rfl] at H
               have H' := mk_ H
               clear H; obtain ⟨Ao122, co122, eo122⟩ := Kd.R_slice HO401.out; subst eo122; obtain ⟨Ao123, co123, eo123⟩ := Kd.R_slice HO_10.out; subst eo123
               go_wp2_with (first | ((with_reducible refine gc_ 18 rfl ?_); refine gl_ (some 117) rfl Try.func18 #[.slice Ao122 t399.length co122, .slice Ao123 t337.length co123] ?_; (with_reducible refine (laws_eqBurnS.calls kj72 _ _ t399 _ _ t337 true _ ?side1 ?side2 ?side3 ?side4 A120.out).mono ?_); (case side1 => exact cw_ (rr_ HO401)); (case side2 => exact (Kd.R_reads' HO401.out).2.1); (case side3 => exact cw_ (rr_ HO_10)); (case side4 => exact (Kd.R_reads' HO_10.out).2.1); rintro e w124 ⟨rfl, hb⟩; refine ⟨_, rfl, ?_⟩; replace HO_10 := rb_ HO_10 hb; replace HO_14 := rb_ HO_14 hb; replace HO_351000 := rb_ HO_351000 hb; replace HO_351001 := rb_ HO_351001 hb; replace HO_351002 := rb_ HO_351002 hb; replace HO387 := rb_ HO387 hb; replace HO390 := rb_ HO390 hb; replace HO393 := rb_ HO393 hb; replace HO398 := rb_ HO398 hb; replace HO401 := rb_ HO401 hb; replace BK319 := bl_ BK319 hb; replace BK350 := bl_ BK350 hb; replace HB := bp_ HB hb; (try clear hb); (try clear hb2); (try clear hk); (try clear hi)))
               go_meet
               case rel => exact ⟨_, ((t402 != t340)), rf_, H', ⟨by have := HJ26.out; have := HJ72.out; first | omega | exact Nat.le_refl _⟩, ⟨by (try simp only [hl351000_72]); (try simp only [hl351001_72]); (try simp only [hl351002_72]); (with_reducible repeat (first | apply Kd.R_alloc | apply Kd.R_drewN | apply Kd.R_drew)); exact Kd.R_mono HO_14.out (fun _ hk => trivial)⟩, ⟨by (try simp only [hl351000_72]); (try simp only [hl351001_72]); (try simp only [hl351002_72]); (with_reducible repeat (first | apply Kd.R_alloc | apply Kd.R_drewN | apply Kd.R_drew)); exact Kd.R_mono HO_351000.out (fun _ hk => ⟨hk.1.1.1.1, hk.1.1.1.2⟩)⟩, ⟨by (try simp only [hl351000_72]); (try simp only [hl351001_72]); (try simp only [hl351002_72]); (with_reducible repeat (first | apply Kd.R_alloc | apply Kd.R_drewN | apply Kd.R_drew)); exact Kd.R_mono HO_351001.out (fun _ hk => ⟨hk.1.1.1.1, hk.1.1.1.2⟩)⟩, ⟨by (try simp only [hl351000_72]); (try simp only [hl351001_72]); (try simp only [hl351002_72]); (with_reducible repeat (first | apply Kd.R_alloc | apply Kd.R_drewN | apply Kd.R_drew)); exact Kd.R_mono HO_351002.out (fun _ hk => ⟨hk.1.1.1.1, hk.1.1.1.2⟩)⟩, ⟨by (try simp only [hl351000_72]); (try simp only [hl351001_72]); (try simp only [hl351002_72]); (with_reducible repeat (first | refine blk_drewN ?_ _ | refine blk_drew ?_ | refine blk_alloc ?_ _)); exact BK319.out⟩, ⟨by (try simp only [hl351000_72]); (try simp only [hl351001_72]); (try simp only [hl351002_72]); (with_reducible repeat (first | refine blk_drewN ?_ _ | refine blk_drew ?_ | refine blk_alloc ?_ _)); exact BK350.out⟩, ⟨hw_ HB⟩⟩
              ·replace c121 := Bool.eq_false_iff.mpr c121; subst c121; rw [if_neg (show ¬ (false = true) by decide)] at H
               have H' := mk_ H
               clear H; obtain ⟨Ao125, co125, eo125⟩ := Kd.R_slice HO401.out; subst eo125; obtain ⟨Ao126, co126, eo126⟩ := Kd.R_slice HO_10.out; subst eo126
               go_wp2_with (first | ((with_reducible refine gc_ 18 rfl ?_); refine gl_ (some 117) rfl Try.func18 #[.slice Ao125 t399.length co125, .slice Ao126 t337.length co126] ?_; (with_reducible refine (laws_eqBurnS.calls kj72 _ _ t399 _ _ t337 false _ ?side1 ?side2 ?side3 ?side4 A120.out).mono ?_); (case side1 => exact cw_ (rr_ HO401)); (case side2 => exact (Kd.R_reads' HO401.out).2.1); (case side3 => exact cw_ (rr_ HO_10)); (case side4 => exact (Kd.R_reads' HO_10.out).2.1); rintro e w127 ⟨rfl, hb⟩; refine ⟨_, rfl, ?_⟩; replace HO_10 := rb_ HO_10 hb; replace HO_14 := rb_ HO_14 hb; replace HO_351000 := rb_ HO_351000 hb; replace HO_351001 := rb_ HO_351001 hb; replace HO_351002 := rb_ HO_351002 hb; replace HO387 := rb_ HO387 hb; replace HO390 := rb_ HO390 hb; replace HO393 := rb_ HO393 hb; replace HO398 := rb_ HO398 hb; replace HO401 := rb_ HO401 hb; replace BK319 := bl_ BK319 hb; replace BK350 := bl_ BK350 hb; replace HB := bp_ HB hb; (try clear hb); (try clear hb2); (try clear hk); (try clear hi)))
               go_meet
               case rel => exact ⟨_, (true), rf_, H', ⟨by have := HJ26.out; have := HJ72.out; first | omega | exact Nat.le_refl _⟩, ⟨by (try simp only [hl351000_72]); (try simp only [hl351001_72]); (try simp only [hl351002_72]); (with_reducible repeat (first | apply Kd.R_alloc | apply Kd.R_drewN | apply Kd.R_drew)); exact Kd.R_mono HO_14.out (fun _ hk => trivial)⟩, ⟨by (try simp only [hl351000_72]); (try simp only [hl351001_72]); (try simp only [hl351002_72]); (with_reducible repeat (first | apply Kd.R_alloc | apply Kd.R_drewN | apply Kd.R_drew)); exact Kd.R_mono HO_351000.out (fun _ hk => ⟨hk.1.1.1.1, hk.1.1.1.2⟩)⟩, ⟨by (try simp only [hl351000_72]); (try simp only [hl351001_72]); (try simp only [hl351002_72]); (with_reducible repeat (first | apply Kd.R_alloc | apply Kd.R_drewN | apply Kd.R_drew)); exact Kd.R_mono HO_351001.out (fun _ hk => ⟨hk.1.1.1.1, hk.1.1.1.2⟩)⟩, ⟨by (try simp only [hl351000_72]); (try simp only [hl351001_72]); (try simp only [hl351002_72]); (with_reducible repeat (first | apply Kd.R_alloc | apply Kd.R_drewN | apply Kd.R_drew)); exact Kd.R_mono HO_351002.out (fun _ hk => ⟨hk.1.1.1.1, hk.1.1.1.2⟩)⟩, ⟨by (try simp only [hl351000_72]); (try simp only [hl351001_72]); (try simp only [hl351002_72]); (with_reducible repeat (first | refine blk_drewN ?_ _ | refine blk_drew ?_ | refine blk_alloc ?_ _)); exact BK319.out⟩, ⟨by (try simp only [hl351000_72]); (try simp only [hl351001_72]); (try simp only [hl351002_72]); (with_reducible repeat (first | refine blk_drewN ?_ _ | refine blk_drew ?_ | refine blk_alloc ?_ _)); exact BK350.out⟩, ⟨hw_ HB⟩⟩
             case rest =>
              clear HC108; (try clear c2); (try clear c6); (try clear c13); (try clear c64); (try clear c67); (try clear c70); (try clear c97); (try clear c100); (try clear c100b0); (try clear c103)
              obtain ⟨kq, x123_107, rfl, HA, HJ107, HO_14, HO_351000, HO_351001, HO_351002, BK319, BK350, HB⟩ := hcut
              have hl14_107 := (Kd.R_reads' HO_14.out).1
              rw [hl14_107] at HO_14
              (try simp only [hl14_107])
              (try simp only [hl14_107] at BK319)
              (try simp only [hl14_107] at BK350)
              (try simp only [hl14_107] at HO_351000)
              (try simp only [hl14_107] at HO_351001)
              (try simp only [hl14_107] at HO_351002)
              cases kq with
              | zero => exact absurd HA.out (by simp [laws_FnExactOrder.j2])
              | succ kj107 =>
               have H := HA.out; clear HA
               simp only [laws_FnExactOrder.j2] at H
               by_cases c128 : x123_107 = true
               ·subst c128; rw [if_pos rfl] at H
                obtain rfl := Option.some.inj H; go_wp2
                go_ret
                exact ⟨re_, hw_ HB⟩
               ·replace c128 := Bool.eq_false_iff.mpr c128; subst c128; rw [if_neg (show ¬ (false = true) by decide)] at H; replace H := Option.bind_eq_some_iff.mp H; obtain ⟨t404, A1290, H⟩ := H; (try dsimp only at H); have A129 := mk_ A1290; clear A1290; by_cases c130 : t404 < 0
                ·rw [if_pos c130] at H; have c130b0 : decide (t404 < 0) = true := decide_eq_true c130; clear c130; obtain rfl := Option.some.inj H
                 go_wp2_with (first | ((with_reducible refine gc_ 24 rfl ?_); refine gl_ (some 126) rfl Try.func24 #[.slice Ao109 t383.length co109, .int .i64 1] ?_; (with_reducible refine (laws_heldBurnS.calls kj107 _ _ t383 1 t404 _ ?side1 ?side2 A129.out).mono ?_); (case side1 => exact cw_ (rr_ HO_14)); (case side2 => exact (Kd.R_reads' HO_14.out).2.1); rintro e w' ⟨rfl, ⟨nd, rfl⟩⟩; refine ⟨_, rfl, ?_⟩))
                 go_ret
                 exact ⟨re_, hw_ HB⟩
                ·rw [if_neg c130] at H; have c130b0 : decide (t404 < 0) = false := decide_eq_false c130; clear c130; by_cases c131 : t404 = t382
                 ·rw [if_pos c131] at H; have c131b0 : (t404 == t382) = true := beq_iff_eq.mpr c131; have c131b1 : (t404 != t382) = false := bne_eq_false_iff_eq.mpr c131; clear c131; obtain rfl := Option.some.inj H
                  go_wp2_with (first | ((with_reducible refine gc_ 24 rfl ?_); refine gl_ (some 126) rfl Try.func24 #[.slice Ao109 t383.length co109, .int .i64 1] ?_; (with_reducible refine (laws_heldBurnS.calls kj107 _ _ t383 1 t404 _ ?side1 ?side2 A129.out).mono ?_); (case side1 => exact cw_ (rr_ HO_14)); (case side2 => exact (Kd.R_reads' HO_14.out).2.1); rintro e w' ⟨rfl, ⟨nd, rfl⟩⟩; refine ⟨_, rfl, ?_⟩))
                  go_ret
                  exact ⟨re_, hw_ HB⟩
                 ·rw [if_neg c131] at H; have c131b0 : (t404 == t382) = false := beq_eq_false_iff_ne.mpr c131; have c131b1 : (t404 != t382) = true := bne_iff_ne.mpr c131; obtain rfl := Option.some.inj H
                  go_wp2_with (first | ((with_reducible refine gc_ 24 rfl ?_); refine gl_ (some 126) rfl Try.func24 #[.slice Ao109 t383.length co109, .int .i64 1] ?_; (with_reducible refine (laws_heldBurnS.calls kj107 _ _ t383 1 t404 _ ?side1 ?side2 A129.out).mono ?_); (case side1 => exact cw_ (rr_ HO_14)); (case side2 => exact (Kd.R_reads' HO_14.out).2.1); rintro e w' ⟨rfl, ⟨nd, rfl⟩⟩; refine ⟨_, rfl, ?_⟩))
                  go_ret
                  exact ⟨re_, hw_ HB⟩
            ·rw [if_neg c103] at H; have c103b0 : (t384 == t382) = false := beq_eq_false_iff_ne.mpr c103; have c103b1 : (t384 != t382) = true := bne_iff_ne.mpr c103; obtain rfl := Option.some.inj H; obtain ⟨Ao132, co132, eo132⟩ := Kd.R_slice HO_14.out; subst eo132
             go_wp2_with (first | ((with_reducible refine gc_ 23 rfl ?_); refine gl_ (some 95) rfl Try.func23 #[.slice Ao132 t356.length co132, .int .i64 1] ?_; (with_reducible refine (laws_markBurnS.calls kj72 (fun k_ => some k_ = (.slice Ao132 t356.length co132 : Value).ownBlock) (.slice Ao132 t356.length co132) t356 1 t382 t383 w _ ?side1 ?side2 A98.out).mono ?_); (case side1 => exact HB.out); (case side2 => exact Kd.R_tight rfl HO_14.out); rintro e w133 ⟨rfl, hy0, hb, hkp⟩; refine ⟨_, rfl, ?_⟩; replace HO_10 := mk_ (Kd.R_mono (ok' := fun k_ => some k_ ≠ (.slice Ao132 t356.length co132 : Value).ownBlock) (Kd.R_keptB (HO_10.out) hkp (fun k_ hk_ hs_ => (hk_) hs_)) (fun k_ hk_ => hk_.1)); replace HO_351000 := mk_ (Kd.R_mono (ok' := fun k_ => some k_ ≠ (.slice Ao49 t377.length co49 : Value).ownBlock ∧ some k_ ≠ (.slice Ao50 t378.length co50 : Value).ownBlock) (Kd.R_keptB ((Kd.R_apart' HO_351000.out (Kd.R_typed HO_14.out) (by decide))) hkp (fun k_ hk_ hs_ => (hk_.2) hs_)) (fun k_ hk_ => ⟨hk_.1.1.1, hk_.1.1.2⟩)); replace HO_351001 := mk_ (Kd.R_mono (ok' := fun k_ => some k_ ≠ (.slice Ao45 t376.length co45 : Value).ownBlock ∧ some k_ ≠ (.slice Ao50 t378.length co50 : Value).ownBlock) (Kd.R_keptB ((Kd.R_apart' HO_351001.out (Kd.R_typed HO_14.out) (by decide))) hkp (fun k_ hk_ hs_ => (hk_.2) hs_)) (fun k_ hk_ => ⟨hk_.1.1.1, hk_.1.1.2⟩)); replace HO_351002 := mk_ (Kd.R_mono (ok' := fun k_ => some k_ ≠ (.slice Ao45 t376.length co45 : Value).ownBlock ∧ some k_ ≠ (.slice Ao49 t377.length co49 : Value).ownBlock) (Kd.R_keptB ((Kd.R_apart' HO_351002.out (Kd.R_typed HO_14.out) (by decide))) hkp (fun k_ hk_ hs_ => (hk_.2) hs_)) (fun k_ hk_ => ⟨hk_.1.1.1, hk_.1.1.2⟩)); replace BK319 := mk_ (blk_kept (by exact BK319.out) hkp (fun hs_ => (fun e_ => (Kd.R_ne HO_14.out BK319.out (by decide)) e_) hs_)); replace BK320 := mk_ (blk_kept (by exact BK320.out) hkp (fun hs_ => (fun e_ => (Kd.R_ne HO_14.out BK320.out (by decide)) e_) hs_)); replace BK350 := mk_ (blk_kept (by exact BK350.out) hkp (fun hs_ => (fun e_ => (Kd.R_ne HO_14.out BK350.out (by decide)) e_) hs_)); replace HO_14 := mk_ (Kd.R_reok rfl hy0 (fun k_ e_ => HO_14.out.1 k_ e_)); replace HB := mk_ (hb); (try clear hb); (try clear hkp); (try clear hy0)) | ((with_reducible refine gate_callee (f := 24) rfl ?_); refine goesL_ (some 98) rfl rfl Try.func24 (by kernel_rfl) rfl #[.slice Ao132 t383.length co132, .int .i64 1] rfl (by (try simp only [List.map_toArray, List.map_cons, List.map_nil]); first | done | (rw [show t383.length = t356.length from (Kd.R_reads' HO_14.out).1.symm] <;> rfl) | rfl | (simp only [List.length_drop, List.length_take]; rfl)) ?_; (with_reducible refine (laws_heldBurnS.calls kj72 _ _ t383 1 t384 _ ?side1 ?side2 A99.out).mono ?_); (case side1 => exact cw_ (rr_ HO_14)); (case side2 => rw [show t383.length = t356.length from (Kd.R_reads' HO_14.out).1.symm]; exact (Kd.R_reads' HO_14.out).2.1); rintro e w' ⟨rfl, ⟨nd, rfl⟩⟩; refine ⟨_, rfl, ?_⟩))
             go_ret
             exact ⟨re_, hw_ HB⟩
       ·replace c70 := Bool.eq_false_iff.mpr c70; subst c70; rw [if_neg (show ¬ (false = true) by decide)] at H; obtain rfl := Option.some.inj H
        try go_wp2
        replace HO_10 := dR_ HO_10; replace HO_13 := dR_ HO_13; replace HO_14 := dR_ HO_14; replace HO_351000 := dR_ HO_351000; replace HO_351001 := dR_ HO_351001; replace HO_351002 := dR_ HO_351002; replace BK319 := dB_ BK319; replace BK320 := dB_ BK320; replace BK350 := dB_ BK350; replace HB := dH_ HB
        refine start_ (n := 5) (S := fun w' => w'.cell? ⟨gb350, 0, none⟩ = some (.slice Ao45 t341.length co45) ∧ w'.cell? ⟨gb350, 1, none⟩ = some (.slice Ao49 t344.length co49) ∧ w'.cell? ⟨gb350, 2, none⟩ = some (.slice Ao50 t347.length co50) ∧ w'.cell? ⟨gb319, 0, none⟩ = some (.slice A0_0 l0_0.length c0_0) ∧ w'.cell? ⟨gb319, 1, none⟩ = some (.slice A0_1 l0_1.length c0_1) ∧ w'.cell? ⟨gb319, 2, none⟩ = some (.slice A0_2 l0_2.length c0_2)) (ds := []) (bs_ 5 0) (by kernel_rfl) rfl (by kernel_rfl) ⟨bc0_ BK350, bc1_ BK350, bc2_ BK350, bc0_ BK319, bc1_ BK319, bc2_ BK319⟩ (fun hHeld => ?_)
        generalize wc.drew = w134 at HO_10 HO_13 HO_14 HO_351000 HO_351001 HO_351002 BK319 BK320 BK350 HB hHeld ⊢
        refine tk0_ 0 64 (bs_ 5 1) hHeld ?_; refine tk0_ 1 65 (bs_ 5 3) hHeld ?_
        refine one_ (i := 2) (N := some 66) (bs_ 5 7) rfl rfl (by kernel_rfl) (by decide) (fun K hK => ?_)
        refine gs_ Try.func11 #[.agg #[.slice A0_0 l0_0.length c0_0, .slice A0_1 l0_1.length c0_1, .slice A0_2 l0_2.length c0_2]] ?_
        with_reducible refine (laws_toEnvelope.calls kj26 _ _ l0_0 _ _ l0_1 _ _ l0_2 t361 t364 t367 _ ?side1 ?side2 ?side3 ?side4 ?side5 ?side6 A65.out).mono ?_
        (case side1 => exact cw_ (Kd.C_below HR0_0.out HB.out))
        (case side2 => exact HC0_0.out)
        (case side3 => exact cw_ (Kd.C_below HR0_1.out HB.out))
        (case side4 => exact HC0_1.out)
        (case side5 => exact cw_ (Kd.C_below HR0_2.out HB.out))
        (case side6 => exact HC0_2.out)
        rintro e w135 ⟨v362, v365, v368, rfl, ho0, ho1, ho2, hb⟩
        refine ⟨_, rfl, ?_⟩
        replace HO_10 := rk_ HO_10 hb; replace HO_13 := rk_ HO_13 hb; replace HO_14 := rk_ HO_14 hb; have HO363 := mk_ (Kd.R_lower (Kd.R_new' (Kd.R_new' (Kd.R_new' ho0 (Kd.R_lt (kx_ HO_351000))) (Kd.R_lt (kx_ HO_351001))) (Kd.R_lt (kx_ HO_351002))) (below_size (hw_ HB))); have HO366 := mk_ (Kd.R_lower (Kd.R_new' (Kd.R_new' (Kd.R_new' ho1 (Kd.R_lt (kx_ HO_351000))) (Kd.R_lt (kx_ HO_351001))) (Kd.R_lt (kx_ HO_351002))) (below_size (hw_ HB))); have HO369 := mk_ (Kd.R_lower (Kd.R_new' (Kd.R_new' (Kd.R_new' ho2 (Kd.R_lt (kx_ HO_351000))) (Kd.R_lt (kx_ HO_351001))) (Kd.R_lt (kx_ HO_351002))) (below_size (hw_ HB))); replace HO_351000 := mk_ (Kd.R_mono (Kd.R_told (Kd.R_told (Kd.R_told (Kd.R_old (kx_ HO_351000) hb) (Kd.R_base ho0)) (Kd.R_base ho1)) (Kd.R_base ho2)) (fun _ h_ => h_.1)); replace HO_351001 := mk_ (Kd.R_mono (Kd.R_told (Kd.R_told (Kd.R_told (Kd.R_old (kx_ HO_351001) hb) (Kd.R_base ho0)) (Kd.R_base ho1)) (Kd.R_base ho2)) (fun _ h_ => h_.1)); replace HO_351002 := mk_ (Kd.R_mono (Kd.R_told (Kd.R_told (Kd.R_told (Kd.R_old (kx_ HO_351002) hb) (Kd.R_base ho0)) (Kd.R_base ho1)) (Kd.R_base ho2)) (fun _ h_ => h_.1)); replace BK319 := bk_ BK319 hb; replace BK320 := bk_ BK320 hb; replace BK350 := bk_ BK350 hb; replace HB := hk_ HB hb
        (try clear hb); (try clear hb2); (try clear hk); (try clear hi); (try clear ho0); (try clear ho1); (try clear ho2); obtain ⟨Ao136, co136, eo136⟩ := Kd.R_slice HO363.out
        (first | subst eo136 | (injection eo136 with f1_ f2_ f3_; have f4_ := f1_.symm; have f5_ := f3_.symm; clear f1_ f2_ f3_; subst f4_; subst f5_))
        obtain ⟨Ao137, co137, eo137⟩ := Kd.R_slice HO366.out
        (first | subst eo137 | (injection eo137 with f1_ f2_ f3_; have f4_ := f1_.symm; have f5_ := f3_.symm; clear f1_ f2_ f3_; subst f4_; subst f5_))
        obtain ⟨Ao138, co138, eo138⟩ := Kd.R_slice HO369.out
        (first | subst eo138 | (injection eo138 with f1_ f2_ f3_; have f4_ := f1_.symm; have f5_ := f3_.symm; clear f1_ f2_ f3_; subst f4_; subst f5_))
        refine hK.out _ _ ⟨bc0_ BK350, bc1_ BK350, bc2_ BK350, bc0_ BK319, bc1_ BK319, bc2_ BK319⟩ (fun hHeld => ?_)
        clear hK K; refine nm_ ?_
        refine one_ (i := 3) (N := some 67) (bs_ 5 15) rfl rfl (by kernel_rfl) (by decide) (fun K hK => ?_)
        refine gs_ Try.func16 #[.agg #[.slice Ao45 t341.length co45, .slice Ao49 t344.length co49, .slice Ao50 t347.length co50], .agg #[.slice Ao136 t361.length co136, .slice Ao137 t364.length co137, .slice Ao138 t367.length co138]] ?_
        with_reducible refine (laws_eqEnvelope.calls kj26 _ _ t341 _ _ t344 _ _ t347 _ _ t361 _ _ t364 _ _ t367 true _ ?side1 ?side2 ?side3 ?side4 ?side5 ?side6 ?side7 ?side8 ?side9 ?side10 ?side11 ?side12 A66.out).mono ?_
        (case side1 => exact cw_ (rr_ HO_351000))
        (case side2 => exact (Kd.R_reads' HO_351000.out).2.1)
        (case side3 => exact cw_ (rr_ HO_351001))
        (case side4 => exact (Kd.R_reads' HO_351001.out).2.1)
        (case side5 => exact cw_ (rr_ HO_351002))
        (case side6 => exact (Kd.R_reads' HO_351002.out).2.1)
        (case side7 => exact cw_ (rr_ HO363))
        (case side8 => exact (Kd.R_reads' HO363.out).2.1)
        (case side9 => exact cw_ (rr_ HO366))
        (case side10 => exact (Kd.R_reads' HO366.out).2.1)
        (case side11 => exact cw_ (rr_ HO369))
        (case side12 => exact (Kd.R_reads' HO369.out).2.1)
        rintro e w139 ⟨rfl, hb⟩
        refine ⟨_, rfl, ?_⟩
        replace HO_10 := rk_ HO_10 hb; replace HO_13 := rk_ HO_13 hb; replace HO_14 := rk_ HO_14 hb; replace HO_351000 := rk_ HO_351000 hb; replace HO_351001 := rk_ HO_351001 hb; replace HO_351002 := rk_ HO_351002 hb; replace HO363 := rk_ HO363 hb; replace HO366 := rk_ HO366 hb; replace HO369 := rk_ HO369 hb; replace BK319 := bk_ BK319 hb; replace BK320 := bk_ BK320 hb; replace BK350 := bk_ BK350 hb; replace HB := hk_ HB hb
        (try clear hb); (try clear hb2); (try clear hk); (try clear hi)
        refine hK.out _ _ ⟨bc0_ BK350, bc1_ BK350, bc2_ BK350, bc0_ BK319, bc1_ BK319, bc2_ BK319⟩ (fun hHeld => ?_)
        clear hK K; refine nm_ ?_; refine pu0_ 4 68 (bs_ 5 31) ?_
        refine done_ (by kernel_rfl) ?_
        try go_wp2_with (first | ((with_reducible refine gc_ 13 rfl ?_); refine gl_ (some 71) rfl Try.func13 #[.slice A2 l2.length c2] ?_; (with_reducible refine (laws_toFuelTankS.calls kj26 _ _ l2 t371 _ ?side1 ?side2 A68.out).mono ?_); (case side1 => exact cw_ (Kd.C_below HR2.out HB.out)); (case side2 => exact HC2.out); rintro e w140 ⟨v372, rfl, ho0, hb⟩; refine ⟨_, rfl, ?_⟩; replace HO_10 := rb_ HO_10 hb; replace HO_14 := rb_ HO_14 hb; replace HO_351000 := rb_ HO_351000 hb; replace HO_351001 := rb_ HO_351001 hb; replace HO_351002 := rb_ HO_351002 hb; replace HO363 := rb_ HO363 hb; replace HO366 := rb_ HO366 hb; replace HO369 := rb_ HO369 hb; have HO373 := mk_ (Kd.R_lower (Kd.R_new' ho0 (Kd.R_lt (by exact HO_13.out))) (below_size (by exact HB.out))); replace HO_13 := mk_ (Kd.R_elder' (by exact HO_13.out) (Kd.R_base ho0) hb); replace BK319 := bl_ BK319 hb; replace BK320 := bl_ BK320 hb; replace BK350 := bl_ BK350 hb; replace HB := bp_ HB hb; (try clear hb); (try clear hb2); (try clear hk); (try clear hi); (try clear ho0); obtain ⟨Ao141, co141, eo141⟩ := Kd.R_slice HO373.out; subst eo141) | ((with_reducible refine gc_ 17 rfl ?_); refine gl_ (some 72) rfl Try.func17 #[.slice Ao54 t351.length co54, .slice Ao141 t371.length co141] ?_; (with_reducible refine (laws_eqFuelTankS.calls kj26 _ _ t351 _ _ t371 false _ ?side1 ?side2 ?side3 ?side4 A69.out).mono ?_); (case side1 => exact cw_ (rr_ HO_13)); (case side2 => exact (Kd.R_reads' HO_13.out).2.1); (case side3 => exact cw_ (rr_ HO373)); (case side4 => exact (Kd.R_reads' HO373.out).2.1); rintro e w142 ⟨rfl, hb⟩; refine ⟨_, rfl, ?_⟩; replace HO_10 := rb_ HO_10 hb; replace HO_13 := rb_ HO_13 hb; replace HO_14 := rb_ HO_14 hb; replace HO_351000 := rb_ HO_351000 hb; replace HO_351001 := rb_ HO_351001 hb; replace HO_351002 := rb_ HO_351002 hb; replace HO363 := rb_ HO363 hb; replace HO366 := rb_ HO366 hb; replace HO369 := rb_ HO369 hb; replace HO373 := rb_ HO373 hb; replace BK319 := bl_ BK319 hb; replace BK320 := bl_ BK320 hb; replace BK350 := bl_ BK350 hb; replace HB := bp_ HB hb; (try clear hb); (try clear hb2); (try clear hk); (try clear hi)))
        go_ret
        exact ⟨re_, hw_ HB⟩
      ·replace c67 := Bool.eq_false_iff.mpr c67; subst c67; rw [if_neg (show ¬ (false = true) by decide)] at H; obtain rfl := Option.some.inj H
       try go_wp2
       replace HO_10 := dR_ HO_10; replace HO_13 := dR_ HO_13; replace HO_14 := dR_ HO_14; replace HO_351000 := dR_ HO_351000; replace HO_351001 := dR_ HO_351001; replace HO_351002 := dR_ HO_351002; replace BK319 := dB_ BK319; replace BK320 := dB_ BK320; replace BK350 := dB_ BK350; replace HB := dH_ HB
       refine start_ (n := 5) (S := fun w' => w'.cell? ⟨gb350, 0, none⟩ = some (.slice Ao45 t341.length co45) ∧ w'.cell? ⟨gb350, 1, none⟩ = some (.slice Ao49 t344.length co49) ∧ w'.cell? ⟨gb350, 2, none⟩ = some (.slice Ao50 t347.length co50) ∧ w'.cell? ⟨gb319, 0, none⟩ = some (.slice A0_0 l0_0.length c0_0) ∧ w'.cell? ⟨gb319, 1, none⟩ = some (.slice A0_1 l0_1.length c0_1) ∧ w'.cell? ⟨gb319, 2, none⟩ = some (.slice A0_2 l0_2.length c0_2)) (ds := []) (bs_ 5 0) (by kernel_rfl) rfl (by kernel_rfl) ⟨bc0_ BK350, bc1_ BK350, bc2_ BK350, bc0_ BK319, bc1_ BK319, bc2_ BK319⟩ (fun hHeld => ?_)
       generalize wc.drew = w143 at HO_10 HO_13 HO_14 HO_351000 HO_351001 HO_351002 BK319 BK320 BK350 HB hHeld ⊢
       refine tk0_ 0 64 (bs_ 5 1) hHeld ?_; refine tk0_ 1 65 (bs_ 5 3) hHeld ?_
       refine one_ (i := 2) (N := some 66) (bs_ 5 7) rfl rfl (by kernel_rfl) (by decide) (fun K hK => ?_)
       refine gs_ Try.func11 #[.agg #[.slice A0_0 l0_0.length c0_0, .slice A0_1 l0_1.length c0_1, .slice A0_2 l0_2.length c0_2]] ?_
       with_reducible refine (laws_toEnvelope.calls kj26 _ _ l0_0 _ _ l0_1 _ _ l0_2 t361 t364 t367 _ ?side1 ?side2 ?side3 ?side4 ?side5 ?side6 A65.out).mono ?_
       (case side1 => exact cw_ (Kd.C_below HR0_0.out HB.out))
       (case side2 => exact HC0_0.out)
       (case side3 => exact cw_ (Kd.C_below HR0_1.out HB.out))
       (case side4 => exact HC0_1.out)
       (case side5 => exact cw_ (Kd.C_below HR0_2.out HB.out))
       (case side6 => exact HC0_2.out)
       rintro e w144 ⟨v362, v365, v368, rfl, ho0, ho1, ho2, hb⟩
       refine ⟨_, rfl, ?_⟩
       replace HO_10 := rk_ HO_10 hb; replace HO_13 := rk_ HO_13 hb; replace HO_14 := rk_ HO_14 hb; have HO363 := mk_ (Kd.R_lower (Kd.R_new' (Kd.R_new' (Kd.R_new' ho0 (Kd.R_lt (kx_ HO_351000))) (Kd.R_lt (kx_ HO_351001))) (Kd.R_lt (kx_ HO_351002))) (below_size (hw_ HB))); have HO366 := mk_ (Kd.R_lower (Kd.R_new' (Kd.R_new' (Kd.R_new' ho1 (Kd.R_lt (kx_ HO_351000))) (Kd.R_lt (kx_ HO_351001))) (Kd.R_lt (kx_ HO_351002))) (below_size (hw_ HB))); have HO369 := mk_ (Kd.R_lower (Kd.R_new' (Kd.R_new' (Kd.R_new' ho2 (Kd.R_lt (kx_ HO_351000))) (Kd.R_lt (kx_ HO_351001))) (Kd.R_lt (kx_ HO_351002))) (below_size (hw_ HB))); replace HO_351000 := mk_ (Kd.R_mono (Kd.R_told (Kd.R_told (Kd.R_told (Kd.R_old (kx_ HO_351000) hb) (Kd.R_base ho0)) (Kd.R_base ho1)) (Kd.R_base ho2)) (fun _ h_ => h_.1)); replace HO_351001 := mk_ (Kd.R_mono (Kd.R_told (Kd.R_told (Kd.R_told (Kd.R_old (kx_ HO_351001) hb) (Kd.R_base ho0)) (Kd.R_base ho1)) (Kd.R_base ho2)) (fun _ h_ => h_.1)); replace HO_351002 := mk_ (Kd.R_mono (Kd.R_told (Kd.R_told (Kd.R_told (Kd.R_old (kx_ HO_351002) hb) (Kd.R_base ho0)) (Kd.R_base ho1)) (Kd.R_base ho2)) (fun _ h_ => h_.1)); replace BK319 := bk_ BK319 hb; replace BK320 := bk_ BK320 hb; replace BK350 := bk_ BK350 hb; replace HB := hk_ HB hb
       (try clear hb); (try clear hb2); (try clear hk); (try clear hi); (try clear ho0); (try clear ho1); (try clear ho2); obtain ⟨Ao145, co145, eo145⟩ := Kd.R_slice HO363.out
       (first | subst eo145 | (injection eo145 with f1_ f2_ f3_; have f4_ := f1_.symm; have f5_ := f3_.symm; clear f1_ f2_ f3_; subst f4_; subst f5_))
       obtain ⟨Ao146, co146, eo146⟩ := Kd.R_slice HO366.out
       (first | subst eo146 | (injection eo146 with f1_ f2_ f3_; have f4_ := f1_.symm; have f5_ := f3_.symm; clear f1_ f2_ f3_; subst f4_; subst f5_))
       obtain ⟨Ao147, co147, eo147⟩ := Kd.R_slice HO369.out
       (first | subst eo147 | (injection eo147 with f1_ f2_ f3_; have f4_ := f1_.symm; have f5_ := f3_.symm; clear f1_ f2_ f3_; subst f4_; subst f5_))
       refine hK.out _ _ ⟨bc0_ BK350, bc1_ BK350, bc2_ BK350, bc0_ BK319, bc1_ BK319, bc2_ BK319⟩ (fun hHeld => ?_)
       clear hK K; refine nm_ ?_
       refine one_ (i := 3) (N := some 67) (bs_ 5 15) rfl rfl (by kernel_rfl) (by decide) (fun K hK => ?_)
       refine gs_ Try.func16 #[.agg #[.slice Ao45 t341.length co45, .slice Ao49 t344.length co49, .slice Ao50 t347.length co50], .agg #[.slice Ao145 t361.length co145, .slice Ao146 t364.length co146, .slice Ao147 t367.length co147]] ?_
       with_reducible refine (laws_eqEnvelope.calls kj26 _ _ t341 _ _ t344 _ _ t347 _ _ t361 _ _ t364 _ _ t367 false _ ?side1 ?side2 ?side3 ?side4 ?side5 ?side6 ?side7 ?side8 ?side9 ?side10 ?side11 ?side12 A66.out).mono ?_
       (case side1 => exact cw_ (rr_ HO_351000))
       (case side2 => exact (Kd.R_reads' HO_351000.out).2.1)
       (case side3 => exact cw_ (rr_ HO_351001))
       (case side4 => exact (Kd.R_reads' HO_351001.out).2.1)
       (case side5 => exact cw_ (rr_ HO_351002))
       (case side6 => exact (Kd.R_reads' HO_351002.out).2.1)
       (case side7 => exact cw_ (rr_ HO363))
       (case side8 => exact (Kd.R_reads' HO363.out).2.1)
       (case side9 => exact cw_ (rr_ HO366))
       (case side10 => exact (Kd.R_reads' HO366.out).2.1)
       (case side11 => exact cw_ (rr_ HO369))
       (case side12 => exact (Kd.R_reads' HO369.out).2.1)
       rintro e w148 ⟨rfl, hb⟩
       refine ⟨_, rfl, ?_⟩
       replace HO_10 := rk_ HO_10 hb; replace HO_13 := rk_ HO_13 hb; replace HO_14 := rk_ HO_14 hb; replace HO_351000 := rk_ HO_351000 hb; replace HO_351001 := rk_ HO_351001 hb; replace HO_351002 := rk_ HO_351002 hb; replace HO363 := rk_ HO363 hb; replace HO366 := rk_ HO366 hb; replace HO369 := rk_ HO369 hb; replace BK319 := bk_ BK319 hb; replace BK320 := bk_ BK320 hb; replace BK350 := bk_ BK350 hb; replace HB := hk_ HB hb
       (try clear hb); (try clear hb2); (try clear hk); (try clear hi)
       refine hK.out _ _ ⟨bc0_ BK350, bc1_ BK350, bc2_ BK350, bc0_ BK319, bc1_ BK319, bc2_ BK319⟩ (fun hHeld => ?_)
       clear hK K; refine nm_ ?_; refine pu0_ 4 68 (bs_ 5 31) ?_
       refine done_ (by kernel_rfl) ?_
       try go_wp2
       go_ret
       exact ⟨re_, hw_ HB⟩

end Go.Proofs.Yteedbciobdcmaaa.QFnExactOrder
-- squeezed
