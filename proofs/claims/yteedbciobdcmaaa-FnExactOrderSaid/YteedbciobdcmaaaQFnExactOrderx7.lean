/- Lean functions that tell what the Go functions used by one law answer, and for each a proof that the Go code comes to just these answers; no condition. Printed by this session's own program over the kit's printer. -/
import Derived.Test.YteedbciobdcmaaaWSq
import Derived.Test.YteedbciobdcmaaaQFnExactOrderx0
import Derived.Test.YteedbciobdcmaaaQFnExactOrderx2
import Derived.Test.YteedbciobdcmaaaQFnExactOrderx3
import Derived.Test.YteedbciobdcmaaaQFnExactOrderx5
import Derived.Test.YteedbciobdcmaaaQFnExactOrderx6
namespace Go.Proofs.Yteedbciobdcmaaa.QFnExactOrder
open Go.RowKit Go.Proofs.YteedbciobdcmaaaW.PrintWords Go.Proofs.YteedbciobdcmaaaW.PrintLast Go.Proofs.YteedbciobdcmaaaW.PrintMore
attribute [local go_sem] max2_int min2_int max_two min_two max_three min_three max_four min_four   -- for this text's walks alone
attribute [local go_sem high] go_eql go_neq go_lss go_leq go_gtr go_geq go_store   -- for this text's walks alone
set_option linter.unusedVariables false
set_option linter.unusedSimpArgs false

/-! ### spec_Order: function 19 -/
mutual
def spec_Order.j0 : Nat → List (S60) → Int → List (S62) → Bool → List Int → List Int → List Int → Int → Int → Option ((List (S62)) × Bool)
 | 0, _, _, _, _, _, _, _, _, _ => none
 | k + 1, x2, x3, x10, x31, x197000, x197001, x197002, x198000, x198001 => if x31 = true then (some (x10, false)) else ((some (([] : List (S60)) : List (S60))).bind fun y204 => (if y204.length + x2.length < 8796093022208 then ((some (y204 ++ x2 : List (S60))).bind fun y207 => ((spec_l2With.f k x198000 x198001 y207).bind fun bt210 => ((spec_Inside.f k x197000 x197001 x197002 bt210.1 bt210.2).bind fun t212 => (if t212 = true then (spec_Order.l0 k x3 x10 y207 x197000 x197001 x197002 x198000 x198001) else (some (x10, false)))))) else (none)))
def spec_Order.l0 : Nat → Int → List (S62) → List (S60) → List Int → List Int → List Int → Int → Int → Option ((List (S62)) × Bool)
 | 0, _, _, _, _, _, _, _, _ => none
 | k + 1, x3, x10, x11, x197000, x197001, x197002, x198000, x198001 => spec_Order.l1 k x3 x10 x11 0 false 0 x197000 x197001 x197002 x198000 x198001
def spec_Order.l1 : Nat → Int → List (S62) → List (S60) → Int → Bool → Int → List Int → List Int → List Int → Int → Int → Option ((List (S62)) × Bool)
 | 0, _, _, _, _, _, _, _, _, _, _, _ => none
 | k + 1, x3, x10, x11, x12, x13, x14, x197000, x197001, x197002, x198000, x198001 => if x14 < (x11.length : Int) then (if 0 ≤ x14 then (spec_Order.l1 k x3 x10 x11 (wrap64 (x12 + ((rd_T60 x11 x14).f0))) x13 (wrap64 (x14 + 1)) x197000 x197001 x197002 x198000 x198001) else (none)) else (if x12 = 0 then (some (x10, true)) else (spec_Order.l2 k x3 x10 x11 x13 0 x197000 x197001 x197002 x198000 x198001))
def spec_Order.l2 : Nat → Int → List (S62) → List (S60) → Bool → Int → List Int → List Int → List Int → Int → Int → Option ((List (S62)) × Bool)
 | 0, _, _, _, _, _, _, _, _, _, _ => none
 | k + 1, x3, x10, x11, x13, x15, x197000, x197001, x197002, x198000, x198001 => if x15 < (x11.length : Int) then (if x13 = true then (spec_Order.j4 k x3 x10 x11 x13 x15 false x197000 x197001 x197002 x198000 x198001) else (spec_Order.j4 k x3 x10 x11 x13 x15 (decide ((x10.length : Int) < 60)) x197000 x197001 x197002 x198000 x198001)) else (spec_Order.j4 k x3 x10 x11 x13 x15 false x197000 x197001 x197002 x198000 x198001)
def spec_Order.j4 : Nat → Int → List (S62) → List (S60) → Bool → Int → Bool → List Int → List Int → List Int → Int → Int → Option ((List (S62)) × Bool)
 | 0, _, _, _, _, _, _, _, _, _, _, _ => none
 | k + 1, x3, x10, x11, x13, x15, x71, x197000, x197001, x197002, x198000, x198001 => if x71 = true then (if 0 ≤ x15 then (if x15 < (x11.length : Int) then ((spec_l1Min.f x3 ((rd_T60 x11 x15).f0)).bind fun t215 => (if t215 = 0 then (spec_Order.l2 k x3 x10 x11 x13 (wrap64 (x15 + 1)) x197000 x197001 x197002 x198000 x198001) else ((some (x11.set (x15 : Int).toNat (⟨wrap64 (((rd_T60 x11 x15).f0) - t215), (rd_T60 x11 x15).f1⟩ : S60) : List (S60))).bind fun y217 => ((spec_l2With.f k x198000 x198001 y217).bind fun bt218 => ((spec_Inside.f k x197000 x197001 x197002 bt218.1 bt218.2).bind fun t220 => (if t220 = true then (if x10.length < 8796093022208 then (spec_Order.l2 k x3 (x10 ++ [(⟨x15, t215⟩ : S62)]) y217 true (wrap64 (x15 + 1)) x197000 x197001 x197002 x198000 x198001) else (none)) else (spec_Order.l2 k x3 x10 (y217.set (x15 : Int).toNat (⟨wrap64 (((rd_T60 y217 x15).f0) + t215), (rd_T60 y217 x15).f1⟩ : S60)) x13 (wrap64 (x15 + 1)) x197000 x197001 x197002 x198000 x198001))))))) else (none)) else (none)) else (if x13 = true then (spec_Order.l0 k x3 x10 x11 x197000 x197001 x197002 x198000 x198001) else (some (x10, false)))
end
def spec_Order.f (k : Nat) (l0_0 : List Int) (l0_1 : List Int) (l0_2 : List Int) (a1_0 : Int) (a1_1 : Int) (l2 : List (S60)) (a3 : Int) : Option ((List (S62)) × Bool) := (some (([] : List (S62)) : List (S62))).bind fun y198 => ((spec_l2Dry.f k l0_0 l0_1 l0_2 a1_0 a1_1).bind fun t201 => (if t201 = true then ((spec_l2Tanks.f k l2).bind fun t202 => (if t202 = true then ((spec_l1In.f a3 1 10000).bind fun t203 => (spec_Order.j0 k l2 a3 y198 (!t203) l0_0 l0_1 l0_2 a1_0 a1_1)) else (spec_Order.j0 k l2 a3 y198 true l0_0 l0_1 l0_2 a1_0 a1_1))) else (spec_Order.j0 k l2 a3 y198 true l0_0 l0_1 l0_2 a1_0 a1_1)))
theorem spec_Order.mono_l : ∀ k, (∀ y0 y1 y2 y3 y4 y5 y6 y7 y8, LeO (spec_Order.j0 k y0 y1 y2 y3 y4 y5 y6 y7 y8) (spec_Order.j0 (k + 1) y0 y1 y2 y3 y4 y5 y6 y7 y8)) ∧ (∀ y0 y1 y2 y3 y4 y5 y6 y7, LeO (spec_Order.l0 k y0 y1 y2 y3 y4 y5 y6 y7) (spec_Order.l0 (k + 1) y0 y1 y2 y3 y4 y5 y6 y7)) ∧ (∀ y0 y1 y2 y3 y4 y5 y6 y7 y8 y9 y10, LeO (spec_Order.l1 k y0 y1 y2 y3 y4 y5 y6 y7 y8 y9 y10) (spec_Order.l1 (k + 1) y0 y1 y2 y3 y4 y5 y6 y7 y8 y9 y10)) ∧ (∀ y0 y1 y2 y3 y4 y5 y6 y7 y8 y9, LeO (spec_Order.l2 k y0 y1 y2 y3 y4 y5 y6 y7 y8 y9) (spec_Order.l2 (k + 1) y0 y1 y2 y3 y4 y5 y6 y7 y8 y9)) ∧ (∀ y0 y1 y2 y3 y4 y5 y6 y7 y8 y9 y10, LeO (spec_Order.j4 k y0 y1 y2 y3 y4 y5 y6 y7 y8 y9 y10) (spec_Order.j4 (k + 1) y0 y1 y2 y3 y4 y5 y6 y7 y8 y9 y10))
 | 0 => ⟨fun _ _ _ _ _ _ _ _ _ r h => by simp [spec_Order.j0] at h, fun _ _ _ _ _ _ _ _ r h => by simp [spec_Order.l0] at h, fun _ _ _ _ _ _ _ _ _ _ _ r h => by simp [spec_Order.l1] at h, fun _ _ _ _ _ _ _ _ _ _ r h => by simp [spec_Order.l2] at h, fun _ _ _ _ _ _ _ _ _ _ _ r h => by simp [spec_Order.j4] at h⟩
 | k + 1 => by
  obtain ⟨ih0, ih1, ih2, ih3, ih4⟩ := spec_Order.mono_l k
  refine ⟨?_, ?_, ?_, ?_, ?_⟩
  ·intro y0 y1 y2 y3 y4 y5 y6 y7 y8
   unfold spec_Order.j0
   repeat' first
   | (with_reducible exact ih0 _ _ _ _ _ _ _ _ _)
   | (with_reducible exact ih1 _ _ _ _ _ _ _ _)
   | (with_reducible exact ih2 _ _ _ _ _ _ _ _ _ _ _)
   | (with_reducible exact ih3 _ _ _ _ _ _ _ _ _ _)
   | (with_reducible exact ih4 _ _ _ _ _ _ _ _ _ _ _)
   | (with_reducible exact spec_Inside.mono _ _ _ _ _ _)
   | (with_reducible exact spec_l2Dry.mono _ _ _ _ _ _)
   | (with_reducible exact spec_l2Tanks.mono _ _)
   | (with_reducible exact spec_l2With.mono _ _ _ _)
   | (with_reducible exact LeO.refl _)
   | (with_reducible exact LeO.none _)
   | (with_reducible refine LeO.ite ?_ ?_)
   | (with_reducible refine LeO.bind ?_ (fun _ => ?_))
   | exact ih0 _ _ _ _ _ _ _ _ _
   | exact ih1 _ _ _ _ _ _ _ _
   | exact ih2 _ _ _ _ _ _ _ _ _ _ _
   | exact ih3 _ _ _ _ _ _ _ _ _ _
   | exact ih4 _ _ _ _ _ _ _ _ _ _ _
   | exact spec_Inside.mono _ _ _ _ _ _
   | exact spec_l2Dry.mono _ _ _ _ _ _
   | exact spec_l2Tanks.mono _ _
   | exact spec_l2With.mono _ _ _ _
   | exact LeO.none _
   | refine LeO.ite ?_ ?_
   | refine LeO.bind ?_ (fun _ => ?_)
  ·intro y0 y1 y2 y3 y4 y5 y6 y7
   unfold spec_Order.l0
   repeat' first
   | (with_reducible exact ih0 _ _ _ _ _ _ _ _ _)
   | (with_reducible exact ih1 _ _ _ _ _ _ _ _)
   | (with_reducible exact ih2 _ _ _ _ _ _ _ _ _ _ _)
   | (with_reducible exact ih3 _ _ _ _ _ _ _ _ _ _)
   | (with_reducible exact ih4 _ _ _ _ _ _ _ _ _ _ _)
   | (with_reducible exact spec_Inside.mono _ _ _ _ _ _)
   | (with_reducible exact spec_l2Dry.mono _ _ _ _ _ _)
   | (with_reducible exact spec_l2Tanks.mono _ _)
   | (with_reducible exact spec_l2With.mono _ _ _ _)
   | (with_reducible exact LeO.refl _)
   | (with_reducible exact LeO.none _)
   | (with_reducible refine LeO.ite ?_ ?_)
   | (with_reducible refine LeO.bind ?_ (fun _ => ?_))
   | exact ih0 _ _ _ _ _ _ _ _ _
   | exact ih1 _ _ _ _ _ _ _ _
   | exact ih2 _ _ _ _ _ _ _ _ _ _ _
   | exact ih3 _ _ _ _ _ _ _ _ _ _
   | exact ih4 _ _ _ _ _ _ _ _ _ _ _
   | exact spec_Inside.mono _ _ _ _ _ _
   | exact spec_l2Dry.mono _ _ _ _ _ _
   | exact spec_l2Tanks.mono _ _
   | exact spec_l2With.mono _ _ _ _
   | exact LeO.none _
   | refine LeO.ite ?_ ?_
   | refine LeO.bind ?_ (fun _ => ?_)
  ·intro y0 y1 y2 y3 y4 y5 y6 y7 y8 y9 y10
   unfold spec_Order.l1
   repeat' first
   | (with_reducible exact ih0 _ _ _ _ _ _ _ _ _)
   | (with_reducible exact ih1 _ _ _ _ _ _ _ _)
   | (with_reducible exact ih2 _ _ _ _ _ _ _ _ _ _ _)
   | (with_reducible exact ih3 _ _ _ _ _ _ _ _ _ _)
   | (with_reducible exact ih4 _ _ _ _ _ _ _ _ _ _ _)
   | (with_reducible exact spec_Inside.mono _ _ _ _ _ _)
   | (with_reducible exact spec_l2Dry.mono _ _ _ _ _ _)
   | (with_reducible exact spec_l2Tanks.mono _ _)
   | (with_reducible exact spec_l2With.mono _ _ _ _)
   | (with_reducible exact LeO.refl _)
   | (with_reducible exact LeO.none _)
   | (with_reducible refine LeO.ite ?_ ?_)
   | (with_reducible refine LeO.bind ?_ (fun _ => ?_))
   | exact ih0 _ _ _ _ _ _ _ _ _
   | exact ih1 _ _ _ _ _ _ _ _
   | exact ih2 _ _ _ _ _ _ _ _ _ _ _
   | exact ih3 _ _ _ _ _ _ _ _ _ _
   | exact ih4 _ _ _ _ _ _ _ _ _ _ _
   | exact spec_Inside.mono _ _ _ _ _ _
   | exact spec_l2Dry.mono _ _ _ _ _ _
   | exact spec_l2Tanks.mono _ _
   | exact spec_l2With.mono _ _ _ _
   | exact LeO.none _
   | refine LeO.ite ?_ ?_
   | refine LeO.bind ?_ (fun _ => ?_)
  ·intro y0 y1 y2 y3 y4 y5 y6 y7 y8 y9
   unfold spec_Order.l2
   repeat' first
   | (with_reducible exact ih0 _ _ _ _ _ _ _ _ _)
   | (with_reducible exact ih1 _ _ _ _ _ _ _ _)
   | (with_reducible exact ih2 _ _ _ _ _ _ _ _ _ _ _)
   | (with_reducible exact ih3 _ _ _ _ _ _ _ _ _ _)
   | (with_reducible exact ih4 _ _ _ _ _ _ _ _ _ _ _)
   | (with_reducible exact spec_Inside.mono _ _ _ _ _ _)
   | (with_reducible exact spec_l2Dry.mono _ _ _ _ _ _)
   | (with_reducible exact spec_l2Tanks.mono _ _)
   | (with_reducible exact spec_l2With.mono _ _ _ _)
   | (with_reducible exact LeO.refl _)
   | (with_reducible exact LeO.none _)
   | (with_reducible refine LeO.ite ?_ ?_)
   | (with_reducible refine LeO.bind ?_ (fun _ => ?_))
   | exact ih0 _ _ _ _ _ _ _ _ _
   | exact ih1 _ _ _ _ _ _ _ _
   | exact ih2 _ _ _ _ _ _ _ _ _ _ _
   | exact ih3 _ _ _ _ _ _ _ _ _ _
   | exact ih4 _ _ _ _ _ _ _ _ _ _ _
   | exact spec_Inside.mono _ _ _ _ _ _
   | exact spec_l2Dry.mono _ _ _ _ _ _
   | exact spec_l2Tanks.mono _ _
   | exact spec_l2With.mono _ _ _ _
   | exact LeO.none _
   | refine LeO.ite ?_ ?_
   | refine LeO.bind ?_ (fun _ => ?_)
  ·intro y0 y1 y2 y3 y4 y5 y6 y7 y8 y9 y10
   unfold spec_Order.j4
   repeat' first
   | (with_reducible exact ih0 _ _ _ _ _ _ _ _ _)
   | (with_reducible exact ih1 _ _ _ _ _ _ _ _)
   | (with_reducible exact ih2 _ _ _ _ _ _ _ _ _ _ _)
   | (with_reducible exact ih3 _ _ _ _ _ _ _ _ _ _)
   | (with_reducible exact ih4 _ _ _ _ _ _ _ _ _ _ _)
   | (with_reducible exact spec_Inside.mono _ _ _ _ _ _)
   | (with_reducible exact spec_l2Dry.mono _ _ _ _ _ _)
   | (with_reducible exact spec_l2Tanks.mono _ _)
   | (with_reducible exact spec_l2With.mono _ _ _ _)
   | (with_reducible exact LeO.refl _)
   | (with_reducible exact LeO.none _)
   | (with_reducible refine LeO.ite ?_ ?_)
   | (with_reducible refine LeO.bind ?_ (fun _ => ?_))
   | exact ih0 _ _ _ _ _ _ _ _ _
   | exact ih1 _ _ _ _ _ _ _ _
   | exact ih2 _ _ _ _ _ _ _ _ _ _ _
   | exact ih3 _ _ _ _ _ _ _ _ _ _
   | exact ih4 _ _ _ _ _ _ _ _ _ _ _
   | exact spec_Inside.mono _ _ _ _ _ _
   | exact spec_l2Dry.mono _ _ _ _ _ _
   | exact spec_l2Tanks.mono _ _
   | exact spec_l2With.mono _ _ _ _
   | exact LeO.none _
   | refine LeO.ite ?_ ?_
   | refine LeO.bind ?_ (fun _ => ?_)
theorem spec_Order.mono : ∀ a0 a1 a2 a3 a4 a5 a6 k, LeO (spec_Order.f k a0 a1 a2 a3 a4 a5 a6) (spec_Order.f (k + 1) a0 a1 a2 a3 a4 a5 a6) := by
 intro a0 a1 a2 a3 a4 a5 a6 k
 obtain ⟨ih0, ih1, ih2, ih3, ih4⟩ := spec_Order.mono_l k
 unfold spec_Order.f
 repeat' first
   | (with_reducible exact ih0 _ _ _ _ _ _ _ _ _)
   | (with_reducible exact ih1 _ _ _ _ _ _ _ _)
   | (with_reducible exact ih2 _ _ _ _ _ _ _ _ _ _ _)
   | (with_reducible exact ih3 _ _ _ _ _ _ _ _ _ _)
   | (with_reducible exact ih4 _ _ _ _ _ _ _ _ _ _ _)
   | (with_reducible exact spec_Inside.mono _ _ _ _ _ _)
   | (with_reducible exact spec_l2Dry.mono _ _ _ _ _ _)
   | (with_reducible exact spec_l2Tanks.mono _ _)
   | (with_reducible exact spec_l2With.mono _ _ _ _)
   | (with_reducible exact LeO.refl _)
   | (with_reducible exact LeO.none _)
   | (with_reducible refine LeO.ite ?_ ?_)
   | (with_reducible refine LeO.bind ?_ (fun _ => ?_))
   | exact ih0 _ _ _ _ _ _ _ _ _
   | exact ih1 _ _ _ _ _ _ _ _
   | exact ih2 _ _ _ _ _ _ _ _ _ _ _
   | exact ih3 _ _ _ _ _ _ _ _ _ _
   | exact ih4 _ _ _ _ _ _ _ _ _ _ _
   | exact spec_Inside.mono _ _ _ _ _ _
   | exact spec_l2Dry.mono _ _ _ _ _ _
   | exact spec_l2Tanks.mono _ _
   | exact spec_l2With.mono _ _ _ _
   | exact LeO.none _
   | refine LeO.ite ?_ ?_
   | refine LeO.bind ?_ (fun _ => ?_)
set_option maxHeartbeats 8000000 in
set_option maxRecDepth 100000 in
theorem spec_Order.calls (k : Nat) (A0_0 : Option Addr) (c0_0 : Nat) (l0_0 : List Int) (A0_1 : Option Addr) (c0_1 : Nat) (l0_1 : List Int) (A0_2 : Option Addr) (c0_2 : Nat) (l0_2 : List Int) (a1_0 : Int) (a1_1 : Int) (A2 : Option Addr) (c2 : Nat) (l2 : List (S60)) (a3 : Int) (r1 : List (S62)) (r2 : Bool) (w : World) (hr0_0 : Kd.C (Kd.int .i64) w A0_0 l0_0.length l0_0) (hc0_0 : l0_0.length ≤ c0_0) (hr0_1 : Kd.C (Kd.int .i64) w A0_1 l0_1.length l0_1) (hc0_1 : l0_1.length ≤ c0_1) (hr0_2 : Kd.C (Kd.int .i64) w A0_2 l0_2.length l0_2) (hc0_2 : l0_2.length ≤ c0_2) (hr2 : Kd.C k60 w A2 l2.length l2) (hc2 : l2.length ≤ c2) (h : spec_Order.f k l0_0 l0_1 l0_2 a1_0 a1_1 l2 a3 = some (r1, r2)) :
  Calls Try.prog 19 #[.agg #[.slice A0_0 l0_0.length c0_0, .slice A0_1 l0_1.length c0_1, .slice A0_2 l0_2.length c0_2], .agg #[.int .i64 a1_0, .int .i64 a1_1], .slice A2 l2.length c2, .int .i64 a3] w fun e w' => ∃ v0_ : Value, e = .returned (.tuple #[v0_, .bool r2]) ∧ Kd.R k62 62 w' w.heap.size (fun _ => True) v0_ r1 ∧ Below w.heap.size w w' := by
 have hu33 := Try.underlying33
 have hu35 := Try.underlying35
 have hu62 := Try.underlying62
 have HR0_0 := mk_ hr0_0; have HC0_0 := mk_ hc0_0; clear hr0_0 hc0_0; have HR0_1 := mk_ hr0_1; have HC0_1 := mk_ hc0_1; clear hr0_1 hc0_1; have HR0_2 := mk_ hr0_2; have HC0_2 := mk_ hc0_2; clear hr0_2 hc0_2; have HR2 := mk_ hr2; have HC2 := mk_ hc2; clear hr2 hc2; have HB := mk_ (Below.refl w.heap.size w)
 have H : ((some (([] : List (S62)) : List (S62))).bind fun y198 => ((spec_l2Dry.f k l0_0 l0_1 l0_2 a1_0 a1_1).bind fun t201 => (if t201 = true then ((spec_l2Tanks.f k l2).bind fun t202 => (if t202 = true then ((spec_l1In.f a3 1 10000).bind fun t203 => (spec_Order.j0 k l2 a3 y198 (!t203) l0_0 l0_1 l0_2 a1_0 a1_1)) else (spec_Order.j0 k l2 a3 y198 true l0_0 l0_1 l0_2 a1_0 a1_1))) else (spec_Order.j0 k l2 a3 y198 true l0_0 l0_1 l0_2 a1_0 a1_1)))) = some (r1, r2) := h
 clear h
 obtain ⟨y198, hy198⟩ : ∃ y_ : List (S62), y_ = (([] : List (S62))) := ⟨_, rfl⟩
 replace H : ((spec_l2Dry.f k l0_0 l0_1 l0_2 a1_0 a1_1).bind fun t201 => (if t201 = true then ((spec_l2Tanks.f k l2).bind fun t202 => (if t202 = true then ((spec_l1In.f a3 1 10000).bind fun t203 => (spec_Order.j0 k l2 a3 y198 (!t203) l0_0 l0_1 l0_2 a1_0 a1_1)) else (spec_Order.j0 k l2 a3 y198 true l0_0 l0_1 l0_2 a1_0 a1_1))) else (spec_Order.j0 k l2 a3 y198 true l0_0 l0_1 l0_2 a1_0 a1_1))) = some (r1, r2) := by first | (rw [hy198]; with_reducible exact H) | (have H2_ := (Option.bind_some _ _).symm.trans H; rw [hy198]; with_reducible exact H2_) | (have H2_ := (Option.bind_some _ _).symm.trans H; with_reducible exact H2_) | with_reducible exact H | (rw [hy198]; exact H) | exact H
 have Ny198 := mk_ hy198; clear hy198; have HC5 := mk_ H; clear H
 go_enter Try.func19, Try.ntmps19
 go_upto_region 2 with (first | ((with_reducible refine gd_ 4 rfl ?_); (try (refine gate_guard (by rfl) ?_; dsimp only)); refine box_event ?hg (N := 4) ?hd (cs := #[.slice A0_0 l0_0.length c0_0, .slice A0_1 l0_1.length c0_1, .slice A0_2 l0_2.length c0_2]) (t := 33) ?hr ?_; (case hd => rfl); (case hg => rfl); (case hr => exact hr_); intro gb196 hg w6 hbox hb; have BK196 := mk_ (hbox); have GW196 := gb_ hg HB; replace HB := bp_ HB hb; have GE196 := GW196; clear hb hbox hg) | ((with_reducible refine gd_ 5 rfl ?_); (try (refine gate_guard (by rfl) ?_; dsimp only)); refine box_event ?hg (N := 5) ?hd (cs := #[.int .i64 a1_0, .int .i64 a1_1]) (t := 35) ?hr ?_; (case hd => rfl); (case hg => rfl); (case hr => exact hr_); intro gb197 hg w7 hbox hb; have BK197 := mk_ (hbox); have GW197 := gb_ hg HB; replace HB := bp_ HB hb; have GE197 := GW197; have NB196_197 := nb_ hg BK196; replace BK196 := bl_ BK196 hb; have NB197_196 := ns_ NB196_197; clear hb hbox hg) | ((with_reducible refine gd_ 17 rfl ?_); (try (refine gate_guard (by rfl) ?_; dsimp only)); refine Kd.R_lit k62 _ 62 ?hg (N := 17) ?hd (xs := ([] : List (S62))) (inner := []) (ok := fun _ => True) (okp := fun _ => True) ?hr ?hp (fun _ hk => hk) trivial (Below.refl _ _) (Nat.le_refl _) (by simp) ?_; (case hd => rfl); (case hg => rfl); (case hr => exact hr_); (case hp => exact (Reps.none _ _)); intro v199 w8 ho9 hb hg_ hnew_; clear hg_ hnew_; (first | rw [← Ny198.out] at ho9 | (simp only [Int.reduceToNat] at ho9; rw [← Ny198.out] at ho9)); have HO200 := mk_ (Kd.R_lower ho9 (below_size (by exact HB.out))); replace BK196 := bl_ BK196 hb; replace BK197 := bl_ BK197 hb; replace HB := bp_ HB hb; clear hb ho9))
 (try simp only [Act.put, List.setIfInBounds_toArray, List.set_cons_zero, List.set_cons_succ])
 go_cut [31] (fun v31 wc => ∃ (kq : Nat) (x31_4 : Bool), v31 = .bool x31_4 ∧ Aside0 (spec_Order.j0 kq l2 a3 y198 x31_4 l0_0 l0_1 l0_2 a1_0 a1_1 = some (r1, r2)) ∧ Aside0 (kq ≤ k) ∧ Aside0 (Kd.R k62 62 wc w.heap.size (fun _ => True) v199 y198) ∧ Aside0 (wc.heap[gb196]? = some (.cells #[(.slice A0_0 l0_0.length c0_0), (.slice A0_1 l0_1.length c0_1), (.slice A0_2 l0_2.length c0_2)] 33 (0, 0))) ∧ Aside0 (wc.heap[gb197]? = some (.cells #[.int .i64 a1_0, .int .i64 a1_1] 35 (0, 0))) ∧ Aside0 (Below w.heap.size w wc))
 case first =>
  have H := HC5.out; clear HC5; replace H := Option.bind_eq_some_iff.mp H; obtain ⟨t201, A100, H⟩ := H
  replace H : (if t201 = true then ((spec_l2Tanks.f k l2).bind fun t202 => (if t202 = true then ((spec_l1In.f a3 1 10000).bind fun t203 => (spec_Order.j0 k l2 a3 y198 (!t203) l0_0 l0_1 l0_2 a1_0 a1_1)) else (spec_Order.j0 k l2 a3 y198 true l0_0 l0_1 l0_2 a1_0 a1_1))) else (spec_Order.j0 k l2 a3 y198 true l0_0 l0_1 l0_2 a1_0 a1_1)) = some (r1, r2) := H
  have A10 := mk_ A100; clear A100; by_cases c11 : t201 = true
  ·subst c11
   have H1 : ((spec_l2Tanks.f k l2).bind fun t202 => (if t202 = true then ((spec_l1In.f a3 1 10000).bind fun t203 => (spec_Order.j0 k l2 a3 y198 (!t203) l0_0 l0_1 l0_2 a1_0 a1_1)) else (spec_Order.j0 k l2 a3 y198 true l0_0 l0_1 l0_2 a1_0 a1_1))) = some (r1, r2) := by rw [if_pos rfl] at H; exact H
   clear H
   have H := H1
   clear H1; replace H := Option.bind_eq_some_iff.mp H; obtain ⟨t202, A120, H⟩ := H
   replace H : (if t202 = true then ((spec_l1In.f a3 1 10000).bind fun t203 => (spec_Order.j0 k l2 a3 y198 (!t203) l0_0 l0_1 l0_2 a1_0 a1_1)) else (spec_Order.j0 k l2 a3 y198 true l0_0 l0_1 l0_2 a1_0 a1_1)) = some (r1, r2) := H
   have A12 := mk_ A120; clear A120; by_cases c13 : t202 = true
   ·subst c13
    have H1 : ((spec_l1In.f a3 1 10000).bind fun t203 => (spec_Order.j0 k l2 a3 y198 (!t203) l0_0 l0_1 l0_2 a1_0 a1_1)) = some (r1, r2) := by rw [if_pos rfl] at H; exact H
    clear H
    have H := H1
    clear H1; replace H := Option.bind_eq_some_iff.mp H; obtain ⟨t203, A140, H⟩ := H
    replace H : (spec_Order.j0 k l2 a3 y198 (!t203) l0_0 l0_1 l0_2 a1_0 a1_1) = some (r1, r2) := H
    have A14 := mk_ A140; clear A140
    have H' := mk_ H
    clear H; have hnb15 := NB196_197.out; have hnc15 := NB197_196.out; have hcz16_0 := bc0_ BK196; have hcz16_1 := bc1_ BK196; have hcz16_2 := bc2_ BK196; have hfz16_0 := bf_ BK196 0; have hfz16_1 := bf_ BK196 1; have hfz16_2 := bf_ BK196 2; have hcz17_0 := bc0_ BK197; have hcz17_1 := bc1_ BK197; have hfz17_0 := bf_ BK197 0; have hfz17_1 := bf_ BK197 1
    go_wp2_with (first | ((with_reducible refine gc_ 32 rfl ?_); refine gl_ (some 20) rfl Try.func32 #[.agg #[.slice A0_0 l0_0.length c0_0, .slice A0_1 l0_1.length c0_1, .slice A0_2 l0_2.length c0_2], .agg #[.int .i64 a1_0, .int .i64 a1_1]] ?_; (with_reducible refine (spec_l2Dry.calls k _ _ l0_0 _ _ l0_1 _ _ l0_2 a1_0 a1_1 true _ ?side1 ?side2 ?side3 ?side4 ?side5 ?side6 A10.out).mono ?_); (case side1 => exact cw_ (Kd.C_below HR0_0.out HB.out)); (case side2 => exact HC0_0.out); (case side3 => exact cw_ (Kd.C_below HR0_1.out HB.out)); (case side4 => exact HC0_1.out); (case side5 => exact cw_ (Kd.C_below HR0_2.out HB.out)); (case side6 => exact HC0_2.out); rintro e w18 ⟨rfl, hb⟩; refine ⟨_, rfl, ?_⟩; replace HO200 := rb_ HO200 hb; replace BK196 := bl_ BK196 hb; replace BK197 := bl_ BK197 hb; replace HB := bp_ HB hb; (try clear hb); (try clear hb2); (try clear hk); (try clear hi)) | (go_at_call 45; (with_reducible refine (spec_l2Tanks.calls k _ _ l2 true _ ?side1 ?side2 A12.out).mono ?_); (case side1 => exact cw_ (Kd.C_below HR2.out HB.out)); (case side2 => exact HC2.out); rintro e w' ⟨rfl, ⟨nd, rfl⟩⟩) | (go_at_call 46; (with_reducible refine (spec_l1In.calls a3 1 10000 t203 _ A14.out).mono ?_); rintro e w' ⟨rfl, ⟨nd, rfl⟩⟩))
    go_meet
    case rel => exact ⟨_, (!t203), rf_, H', ⟨by first | omega | exact Nat.le_refl _⟩, kw_ HO200, bw_ BK196, bw_ BK197, ⟨hw_ HB⟩⟩
   ·replace c13 := Bool.eq_false_iff.mpr c13; subst c13
    have H1 : (spec_Order.j0 k l2 a3 y198 true l0_0 l0_1 l0_2 a1_0 a1_1) = some (r1, r2) := by rw [if_neg (show ¬ (false = true) by decide)] at H; exact H
    clear H
    have H := H1
    clear H1
    have H' := mk_ H
    clear H; have hnb19 := NB196_197.out; have hnc19 := NB197_196.out; have hcz20_0 := bc0_ BK196; have hcz20_1 := bc1_ BK196; have hcz20_2 := bc2_ BK196; have hfz20_0 := bf_ BK196 0; have hfz20_1 := bf_ BK196 1; have hfz20_2 := bf_ BK196 2; have hcz21_0 := bc0_ BK197; have hcz21_1 := bc1_ BK197; have hfz21_0 := bf_ BK197 0; have hfz21_1 := bf_ BK197 1
    go_wp2_with (first | ((with_reducible refine gc_ 32 rfl ?_); refine gl_ (some 20) rfl Try.func32 #[.agg #[.slice A0_0 l0_0.length c0_0, .slice A0_1 l0_1.length c0_1, .slice A0_2 l0_2.length c0_2], .agg #[.int .i64 a1_0, .int .i64 a1_1]] ?_; (with_reducible refine (spec_l2Dry.calls k _ _ l0_0 _ _ l0_1 _ _ l0_2 a1_0 a1_1 true _ ?side1 ?side2 ?side3 ?side4 ?side5 ?side6 A10.out).mono ?_); (case side1 => exact cw_ (Kd.C_below HR0_0.out HB.out)); (case side2 => exact HC0_0.out); (case side3 => exact cw_ (Kd.C_below HR0_1.out HB.out)); (case side4 => exact HC0_1.out); (case side5 => exact cw_ (Kd.C_below HR0_2.out HB.out)); (case side6 => exact HC0_2.out); rintro e w22 ⟨rfl, hb⟩; refine ⟨_, rfl, ?_⟩; replace HO200 := rb_ HO200 hb; replace BK196 := bl_ BK196 hb; replace BK197 := bl_ BK197 hb; replace HB := bp_ HB hb; (try clear hb); (try clear hb2); (try clear hk); (try clear hi)) | (go_at_call 45; (with_reducible refine (spec_l2Tanks.calls k _ _ l2 false _ ?side1 ?side2 A12.out).mono ?_); (case side1 => exact cw_ (Kd.C_below HR2.out HB.out)); (case side2 => exact HC2.out); rintro e w' ⟨rfl, ⟨nd, rfl⟩⟩))
    go_meet
    case rel => exact ⟨_, (true), rf_, H', ⟨by first | omega | exact Nat.le_refl _⟩, kw_ HO200, bw_ BK196, bw_ BK197, ⟨hw_ HB⟩⟩
  ·replace c11 := Bool.eq_false_iff.mpr c11; subst c11
   have H1 : (spec_Order.j0 k l2 a3 y198 true l0_0 l0_1 l0_2 a1_0 a1_1) = some (r1, r2) := by rw [if_neg (show ¬ (false = true) by decide)] at H; exact H
   clear H
   have H := H1
   clear H1
   have H' := mk_ H
   clear H; have hnb23 := NB196_197.out; have hnc23 := NB197_196.out; have hcz24_0 := bc0_ BK196; have hcz24_1 := bc1_ BK196; have hcz24_2 := bc2_ BK196; have hfz24_0 := bf_ BK196 0; have hfz24_1 := bf_ BK196 1; have hfz24_2 := bf_ BK196 2; have hcz25_0 := bc0_ BK197; have hcz25_1 := bc1_ BK197; have hfz25_0 := bf_ BK197 0; have hfz25_1 := bf_ BK197 1
   go_wp2_with (first | ((with_reducible refine gc_ 32 rfl ?_); refine gl_ (some 20) rfl Try.func32 #[.agg #[.slice A0_0 l0_0.length c0_0, .slice A0_1 l0_1.length c0_1, .slice A0_2 l0_2.length c0_2], .agg #[.int .i64 a1_0, .int .i64 a1_1]] ?_; (with_reducible refine (spec_l2Dry.calls k _ _ l0_0 _ _ l0_1 _ _ l0_2 a1_0 a1_1 false _ ?side1 ?side2 ?side3 ?side4 ?side5 ?side6 A10.out).mono ?_); (case side1 => exact cw_ (Kd.C_below HR0_0.out HB.out)); (case side2 => exact HC0_0.out); (case side3 => exact cw_ (Kd.C_below HR0_1.out HB.out)); (case side4 => exact HC0_1.out); (case side5 => exact cw_ (Kd.C_below HR0_2.out HB.out)); (case side6 => exact HC0_2.out); rintro e w26 ⟨rfl, hb⟩; refine ⟨_, rfl, ?_⟩; replace HO200 := rb_ HO200 hb; replace BK196 := bl_ BK196 hb; replace BK197 := bl_ BK197 hb; replace HB := bp_ HB hb; (try clear hb); (try clear hb2); (try clear hk); (try clear hi)))
   go_meet
   case rel => exact ⟨_, (true), rf_, H', ⟨by first | omega | exact Nat.le_refl _⟩, kw_ HO200, bw_ BK196, bw_ BK197, ⟨hw_ HB⟩⟩
 case rest =>
  clear HC5; (try clear c2)
  obtain ⟨kq, x31_4, rfl, HA, HJ4, HO_10, BK196, BK197, HB⟩ := hcut
  cases kq with
  | zero => exact absurd HA.out (by simp [spec_Order.j0])
  | succ kj4 =>
   have H := HA.out; clear HA
   simp only [spec_Order.j0] at H
   by_cases c27 : x31_4 = true
   ·subst c27
    have H1 : (some (y198, false)) = some (r1, r2) := by rw [if_pos rfl] at H; exact H
    clear H
    have H := H1
    clear H1
    simp only [Option.some.injEq, Prod.mk.injEq] at H
    obtain ⟨rfl, rfl⟩ := H; go_wp2
    go_ret2
    exact ⟨_, re_, by (with_reducible repeat (first | apply Kd.R_alloc | apply Kd.R_drewN | apply Kd.R_drew)); exact HO_10.out, hw_ HB⟩
   ·replace c27 := Bool.eq_false_iff.mpr c27; subst c27
    have H1 : ((some (([] : List (S60)) : List (S60))).bind fun y204 => (if y204.length + l2.length < 8796093022208 then ((some (y204 ++ l2 : List (S60))).bind fun y207 => ((spec_l2With.f kj4 a1_0 a1_1 y207).bind fun bt210 => ((spec_Inside.f kj4 l0_0 l0_1 l0_2 bt210.1 bt210.2).bind fun t212 => (if t212 = true then (spec_Order.l0 kj4 a3 y198 y207 l0_0 l0_1 l0_2 a1_0 a1_1) else (some (y198, false)))))) else (none))) = some (r1, r2) := by rw [if_neg (show ¬ (false = true) by decide)] at H; exact H
    clear H
    have H := H1
    clear H1
    obtain ⟨y204, hy204⟩ : ∃ y_ : List (S60), y_ = (([] : List (S60))) := ⟨_, rfl⟩
    replace H : (if y204.length + l2.length < 8796093022208 then ((some (y204 ++ l2 : List (S60))).bind fun y207 => ((spec_l2With.f kj4 a1_0 a1_1 y207).bind fun bt210 => ((spec_Inside.f kj4 l0_0 l0_1 l0_2 bt210.1 bt210.2).bind fun t212 => (if t212 = true then (spec_Order.l0 kj4 a3 y198 y207 l0_0 l0_1 l0_2 a1_0 a1_1) else (some (y198, false)))))) else (none)) = some (r1, r2) := by first | (rw [hy204]; with_reducible exact H) | (have H2_ := (Option.bind_some _ _).symm.trans H; rw [hy204]; with_reducible exact H2_) | (have H2_ := (Option.bind_some _ _).symm.trans H; with_reducible exact H2_) | with_reducible exact H | (rw [hy204]; exact H) | exact H
    have Ny204 := mk_ hy204; clear hy204; by_cases c28 : y204.length + l2.length < 8796093022208
    ·rw [if_pos c28] at H; have LMc28 := mk_ c28; clear c28
     obtain ⟨y207, hy207⟩ : ∃ y_ : List (S60), y_ = (y204 ++ l2) := ⟨_, rfl⟩
     replace H : ((spec_l2With.f kj4 a1_0 a1_1 y207).bind fun bt210 => ((spec_Inside.f kj4 l0_0 l0_1 l0_2 bt210.1 bt210.2).bind fun t212 => (if t212 = true then (spec_Order.l0 kj4 a3 y198 y207 l0_0 l0_1 l0_2 a1_0 a1_1) else (some (y198, false))))) = some (r1, r2) := by first | (rw [hy207]; with_reducible exact H) | (have H2_ := (Option.bind_some _ _).symm.trans H; rw [hy207]; with_reducible exact H2_) | (have H2_ := (Option.bind_some _ _).symm.trans H; with_reducible exact H2_) | with_reducible exact H | (rw [hy207]; exact H) | exact H
     have Ny207 := mk_ hy207; clear hy207; replace H := Option.bind_eq_some_iff.mp H; obtain ⟨⟨t210, t211⟩, A290, H⟩ := H
     replace H : ((spec_Inside.f kj4 l0_0 l0_1 l0_2 t210 t211).bind fun t212 => (if t212 = true then (spec_Order.l0 kj4 a3 y198 y207 l0_0 l0_1 l0_2 a1_0 a1_1) else (some (y198, false)))) = some (r1, r2) := H
     have A29 := mk_ A290; clear A290; replace H := Option.bind_eq_some_iff.mp H; obtain ⟨t212, A300, H⟩ := H
     replace H : (if t212 = true then (spec_Order.l0 kj4 a3 y198 y207 l0_0 l0_1 l0_2 a1_0 a1_1) else (some (y198, false))) = some (r1, r2) := H
     have A30 := mk_ A300; clear A300; by_cases c31 : t212 = true
     ·subst c31
      have H1 : (spec_Order.l0 kj4 a3 y198 y207 l0_0 l0_1 l0_2 a1_0 a1_1) = some (r1, r2) := by rw [if_pos rfl] at H; exact H
      clear H
      have H := H1
      clear H1
      have H' := mk_ H
      clear H
      try go_wp2_with (first | ((with_reducible refine gd_ 33 rfl ?_); (try (refine gate_guard (by rfl) ?_; dsimp only)); refine Kd.R_lit k60 _ 60 ?hg (N := 33) ?hd (xs := ([] : List (S60))) (inner := []) (ok := fun _ => True) (okp := fun _ => True) ?hr ?hp (fun _ hk => hk) trivial (Below.refl _ _) (Nat.le_refl _) (by simp) ?_; (case hd => rfl); (case hg => rfl); (case hr => exact hr_); (case hp => exact (Reps.none _ _)); intro v205 w32 ho33 hb hg_ hnew_; clear hg_ hnew_; (first | rw [← Ny204.out] at ho33 | (simp only [Int.reduceToNat] at ho33; rw [← Ny204.out] at ho33)); replace HO_10 := rb_ HO_10 hb; have HO206 := mk_ (Kd.R_lower ho33 (below_size (by exact HB.out))); replace BK196 := bl_ BK196 hb; replace BK197 := bl_ BK197 hb; replace HB := bp_ HB hb; clear hb ho33) | ((with_reducible refine gate_builtin (b := .append) (xs := #[.tmp 33, .tmp 34]) rfl ?_); (try (refine gate_guard (by rfl) ?_; dsimp only)); at_builtin; refine Kd.R_append_rows k60 (w0 := w) w.heap.size rfl (.tmp 33) (.tmp 34) 37 60 (.agg #[(.int .i64 0), (.int .i64 0)]) 16 rfl Try.underlying37 info60 rfl (by decide) (by omega) v205 y204 l2 _ _ _ (fun _ => True) (fun _ => False) rfl rfl ?aO ?aR (fun _ _ h => h) (fun _ h => h.elim) ?aF ?aB ?aS ?aL ?_; (case aR => exact cw_ (Kd.C_below HR2.out HB.out)); (case aB => exact (by exact HB.out)); (case aF => exact (fun _ _ => trivial)); (case aO => exact (by exact HO206.out)); (case aS => exact (below_size (by exact HB.out))); (case aL => have := LMc28.out; omega); intro v208 w34 ho hb hg hat; rw [← Ny207.out] at ho; replace HO_10 := mk_ (Kd.R_over' (by exact HO_10.out) (Kd.R_typed (by exact HO206.out)) (by decide) hg); replace BK196 := mk_ (blk_grown (g := gb196) (o := .cells #[.slice A0_0 l0_0.length c0_0, .slice A0_1 l0_1.length c0_1, .slice A0_2 l0_2.length c0_2] 33 (0, 0)) (by exact BK196.out) hg (Kd.R_ne HO206.out BK196.out (by decide))); replace BK197 := mk_ (blk_grown (g := gb197) (o := .cells #[.int .i64 a1_0, .int .i64 a1_1] 35 (0, 0)) (by exact BK197.out) hg (Kd.R_ne HO206.out BK197.out (by decide))); replace HB := mk_ (hb); have HO209 := mk_ (ho); clear HO206; clear ho hb hg hat))
      replace HO_10 := dR_ HO_10; replace HO209 := dR_ HO209; replace BK196 := dB_ BK196; replace BK197 := dB_ BK197; replace HB := dH_ HB
      obtain ⟨Ao36, co36, eo36⟩ := Kd.R_slice HO209.out
      (first | subst eo36 | (injection eo36 with f1_ f2_ f3_; have f4_ := f1_.symm; have f5_ := f3_.symm; clear f1_ f2_ f3_; subst f4_; subst f5_))
      refine start_ (n := 6) (S := fun w' => w'.cell? ⟨gb196, 0, none⟩ = some (.slice A0_0 l0_0.length c0_0) ∧ w'.cell? ⟨gb196, 1, none⟩ = some (.slice A0_1 l0_1.length c0_1) ∧ w'.cell? ⟨gb196, 2, none⟩ = some (.slice A0_2 l0_2.length c0_2) ∧ w'.cell? ⟨gb197, 0, none⟩ = some (.int .i64 a1_0) ∧ w'.cell? ⟨gb197, 1, none⟩ = some (.int .i64 a1_1)) (ds := []) (bs_ 6 0) (by kernel_rfl) rfl (by kernel_rfl) ⟨bc0_ BK196, bc1_ BK196, bc2_ BK196, bc0_ BK197, bc1_ BK197⟩ (fun hHeld => ?_)
      generalize w34.drew = w35 at HO_10 HO209 BK196 BK197 HB hHeld ⊢
      refine pu0_ 2 38 (bs_ 6 4) ?_; refine tk0_ 0 36 (bs_ 6 5) hHeld ?_; refine tk0_ 1 37 (bs_ 6 7) hHeld ?_
      refine one_ (i := 3) (N := some 39) (bs_ 6 15) rfl rfl (by kernel_rfl) (by decide) (fun K hK => ?_)
      refine gs_ Try.func34 #[.agg #[.int .i64 a1_0, .int .i64 a1_1], .slice Ao36 y207.length co36] ?_
      with_reducible refine (spec_l2With.calls kj4 a1_0 a1_1 _ _ y207 t210 t211 _ ?side1 ?side2 A29.out).mono ?_
      (case side1 => exact cw_ (rr_ HO209))
      (case side2 => exact (Kd.R_reads' HO209.out).2.1)
      rintro e w37 ⟨rfl, hb⟩
      refine ⟨_, rfl, ?_⟩
      replace HO_10 := rk_ HO_10 hb; replace HO209 := rk_ HO209 hb; replace BK196 := bk_ BK196 hb; replace BK197 := bk_ BK197 hb; replace HB := hk_ HB hb
      (try clear hb); (try clear hb2); (try clear hk); (try clear hi)
      refine hK.out _ _ ⟨bc0_ BK196, bc1_ BK196, bc2_ BK196, bc0_ BK197, bc1_ BK197⟩ (fun hHeld => ?_)
      clear hK K; refine nm_ ?_
      refine one_ (i := 4) (N := some 40) (bs_ 6 31) rfl rfl (by kernel_rfl) (by decide) (fun K hK => ?_)
      refine gs_ Try.func33 #[.agg #[.slice A0_0 l0_0.length c0_0, .slice A0_1 l0_1.length c0_1, .slice A0_2 l0_2.length c0_2], .agg #[.int .i64 t210, .int .i64 t211]] ?_
      with_reducible refine (spec_Inside.calls kj4 _ _ l0_0 _ _ l0_1 _ _ l0_2 t210 t211 true _ ?side1 ?side2 ?side3 ?side4 ?side5 ?side6 A30.out).mono ?_
      (case side1 => exact cw_ (Kd.C_below HR0_0.out HB.out))
      (case side2 => exact HC0_0.out)
      (case side3 => exact cw_ (Kd.C_below HR0_1.out HB.out))
      (case side4 => exact HC0_1.out)
      (case side5 => exact cw_ (Kd.C_below HR0_2.out HB.out))
      (case side6 => exact HC0_2.out)
      rintro e w38 ⟨rfl, hb⟩
      refine ⟨_, rfl, ?_⟩
      replace HO_10 := rk_ HO_10 hb; replace HO209 := rk_ HO209 hb; replace BK196 := bk_ BK196 hb; replace BK197 := bk_ BK197 hb; replace HB := hk_ HB hb
      (try clear hb); (try clear hb2); (try clear hk); (try clear hi)
      refine hK.out _ _ ⟨bc0_ BK196, bc1_ BK196, bc2_ BK196, bc0_ BK197, bc1_ BK197⟩ (fun hHeld => ?_)
      clear hK K; refine nm_ ?_; refine pu0_ 5 41 (bs_ 6 63) ?_
      refine done_ (by kernel_rfl) ?_
      try go_wp2
      go_loopg [10] kj4 (fun kq v10 w' => ∃ (x10_2 : List (S62)) (x11_2 : List (S60)), Aside0 (spec_Order.l0 kq a3 x10_2 x11_2 l0_0 l0_1 l0_2 a1_0 a1_1 = some (r1, r2)) ∧ Aside0 (kq ≤ kj4) ∧ Aside0 (Kd.R k62 62 w' w.heap.size (fun _ => True) v10 x10_2) ∧ Aside0 (Kd.R k60 60 w' w.heap.size (fun _ => True) (.slice Ao36 y207.length co36) x11_2) ∧ Aside0 (w'.heap[gb196]? = some (.cells #[(.slice A0_0 l0_0.length c0_0), (.slice A0_1 l0_1.length c0_1), (.slice A0_2 l0_2.length c0_2)] 33 (0, 0))) ∧ Aside0 (w'.heap[gb197]? = some (.cells #[.int .i64 a1_0, .int .i64 a1_1] 35 (0, 0))) ∧ Aside0 (Below w.heap.size w w'))
      case atStart => exact ⟨(y198), (y207), H', ⟨Nat.le_refl _⟩, kw_ HO_10, kw_ HO209, bw_ BK196, bw_ BK197, ⟨hw_ HB⟩⟩
      case round =>
       clear H'; (try clear c2); (try clear c27); (try clear c28); (try clear c31)
       obtain ⟨x10_2, x11_2, HA, HK2, HO_10, HO_11, BK196, BK197, HB⟩ := hrel
       have hl11_2 := (Kd.R_reads' HO_11.out).1
       rw [hl11_2] at HO_11
       (try simp only [hl11_2])
       (try simp only [hl11_2] at BK196)
       (try simp only [hl11_2] at BK197)
       (try simp only [hl11_2] at HO_10)
       cases gk with
       | zero => exact absurd HA.out (by simp [spec_Order.l0])
       | succ k2 =>
        have H := HA.out; clear HA
        simp only [spec_Order.l0] at H
        have H' := mk_ H
        clear H; go_wp2
        go_loopg [12, 14] k2 (fun kq v12 v14 w' => ∃ (x12_3 : Int) (x14_3 : Int), v12 = .int .i64 x12_3 ∧ v14 = .int .i64 x14_3 ∧ Aside0 (spec_Order.l1 kq a3 x10_2 x11_2 x12_3 false x14_3 l0_0 l0_1 l0_2 a1_0 a1_1 = some (r1, r2)) ∧ Aside0 (kq ≤ k2) ∧ Aside0 (Kd.R k62 62 w' w.heap.size (fun _ => True) u10 x10_2) ∧ Aside0 (Kd.R k60 60 w' w.heap.size (fun _ => True) (.slice Ao36 x11_2.length co36) x11_2) ∧ Aside0 (w'.heap[gb196]? = some (.cells #[(.slice A0_0 l0_0.length c0_0), (.slice A0_1 l0_1.length c0_1), (.slice A0_2 l0_2.length c0_2)] 33 (0, 0))) ∧ Aside0 (w'.heap[gb197]? = some (.cells #[.int .i64 a1_0, .int .i64 a1_1] 35 (0, 0))) ∧ Aside0 (Below w.heap.size w w'))
        case atStart => exact ⟨(0), (0), rf_, rf_, H', ⟨Nat.le_refl _⟩, ⟨by (try simp only [hl11_2]); (with_reducible repeat (first | apply Kd.R_alloc | apply Kd.R_drewN | apply Kd.R_drew)); exact HO_10.out⟩, ⟨by (try simp only [hl11_2]); (with_reducible repeat (first | apply Kd.R_alloc | apply Kd.R_drewN | apply Kd.R_drew)); exact HO_11.out⟩, ⟨by (try simp only [hl11_2]); (with_reducible repeat (first | refine blk_drewN ?_ _ | refine blk_drew ?_ | refine blk_alloc ?_ _)); exact BK196.out⟩, ⟨by (try simp only [hl11_2]); (with_reducible repeat (first | refine blk_drewN ?_ _ | refine blk_drew ?_ | refine blk_alloc ?_ _)); exact BK197.out⟩, ⟨hw_ HB⟩⟩
        case round =>
         clear H'; (try clear c2); (try clear c27); (try clear c28); (try clear c31)
         obtain ⟨x12_3, x14_3, rfl, rfl, HA, HK3, HO_10, HO_11, BK196, BK197, HB⟩ := hrel
         cases gk with
         | zero => exact absurd HA.out (by simp [spec_Order.l1])
         | succ k3 =>
          have H := HA.out; clear HA
          simp only [spec_Order.l1] at H
          by_cases c39 : x14_3 < (x11_2.length : Int)
          ·rw [if_pos c39] at H; have c39b0 : decide (x14_3 < (x11_2.length : Int)) = true := decide_eq_true c39
           (try (have c39h2 := c39b0; rw [hl11_2] at c39h2))
           (try (have c39h4 := c39b0; rw [hl11_4] at c39h4))
           clear c39; by_cases c40 : 0 ≤ x14_3
           ·rw [if_pos c40] at H; have c40b0 : decide (0 ≤ x14_3) = true := decide_eq_true c40; clear c40
            have H' := mk_ H
            clear H
            have p213 : 0 ≤ (x14_3 : Int) := od_
            have q213 : x14_3 < (x11_2.length : Int) := od_
            obtain ⟨ad213, e213, hx213_0, hx213_1⟩ := at_T60 (rr_ HO_11) x14_3 p213 q213; cases e213; replace p213 := eq_true p213; replace q213 := eq_true q213; go_wp2; go_roundg k3
            case measure => have := HJ4.out; have := HK2.out; have := HK3.out; omega
            case rel => exact ⟨(wrap64 (x12_3 + ((rd_T60 x11_2 x14_3).f0))), (wrap64 (x14_3 + 1)), rf_, rf_, H', ⟨by have := HJ4.out; have := HK2.out; have := HK3.out; omega⟩, ⟨by (try simp only [hl11_2]); (with_reducible repeat (first | apply Kd.R_alloc | apply Kd.R_drewN | apply Kd.R_drew)); exact HO_10.out⟩, ⟨by (try simp only [hl11_2]); (with_reducible repeat (first | apply Kd.R_alloc | apply Kd.R_drewN | apply Kd.R_drew)); exact HO_11.out⟩, ⟨by (try simp only [hl11_2]); (with_reducible repeat (first | refine blk_drewN ?_ _ | refine blk_drew ?_ | refine blk_alloc ?_ _)); exact BK196.out⟩, ⟨by (try simp only [hl11_2]); (with_reducible repeat (first | refine blk_drewN ?_ _ | refine blk_drew ?_ | refine blk_alloc ?_ _)); exact BK197.out⟩, ⟨hw_ HB⟩⟩
           ·rw [if_neg c40] at H
            exact absurd H (by simp)
          ·rw [if_neg c39] at H; have c39b0 : decide (x14_3 < (x11_2.length : Int)) = false := decide_eq_false c39
           (try (have c39h2 := c39b0; rw [hl11_2] at c39h2))
           (try (have c39h4 := c39b0; rw [hl11_4] at c39h4))
           clear c39; by_cases c41 : x12_3 = 0
           ·rw [if_pos c41] at H; have c41b0 : (x12_3 == 0) = true := beq_iff_eq.mpr c41; have c41b1 : (x12_3 != 0) = false := bne_eq_false_iff_eq.mpr c41; clear c41
            simp only [Option.some.injEq, Prod.mk.injEq] at H
            obtain ⟨rfl, rfl⟩ := H; go_wp2
            go_ret2
            exact ⟨_, re_, by (with_reducible repeat (first | apply Kd.R_alloc | apply Kd.R_drewN | apply Kd.R_drew)); exact HO_10.out, hw_ HB⟩
           ·rw [if_neg c41] at H; have c41b0 : (x12_3 == 0) = false := beq_eq_false_iff_ne.mpr c41; have c41b1 : (x12_3 != 0) = true := bne_iff_ne.mpr c41
            have H' := mk_ H
            clear H; go_wp2
            go_loopg [10, 13, 15] k3 (fun kq v10 v13 v15 w' => ∃ (x10_4 : List (S62)) (x11_4 : List (S60)) (x13_4 : Bool) (x15_4 : Int), v13 = .bool x13_4 ∧ v15 = .int .i64 x15_4 ∧ Aside0 (spec_Order.l2 kq a3 x10_4 x11_4 x13_4 x15_4 l0_0 l0_1 l0_2 a1_0 a1_1 = some (r1, r2)) ∧ Aside0 (kq ≤ k3) ∧ Aside0 (Kd.R k62 62 w' w.heap.size (fun _ => True) v10 x10_4) ∧ Aside0 (Kd.R k60 60 w' w.heap.size (fun _ => True) (.slice Ao36 x11_2.length co36) x11_4) ∧ Aside0 (w'.heap[gb196]? = some (.cells #[(.slice A0_0 l0_0.length c0_0), (.slice A0_1 l0_1.length c0_1), (.slice A0_2 l0_2.length c0_2)] 33 (0, 0))) ∧ Aside0 (w'.heap[gb197]? = some (.cells #[.int .i64 a1_0, .int .i64 a1_1] 35 (0, 0))) ∧ Aside0 (Below w.heap.size w w'))
            case atStart => exact ⟨(x10_2), (x11_2), (false), (0), rf_, rf_, H', ⟨Nat.le_refl _⟩, ⟨by (try simp only [hl11_2]); (with_reducible repeat (first | apply Kd.R_alloc | apply Kd.R_drewN | apply Kd.R_drew)); exact HO_10.out⟩, ⟨by (try simp only [hl11_2]); (with_reducible repeat (first | apply Kd.R_alloc | apply Kd.R_drewN | apply Kd.R_drew)); exact HO_11.out⟩, ⟨by (try simp only [hl11_2]); (with_reducible repeat (first | refine blk_drewN ?_ _ | refine blk_drew ?_ | refine blk_alloc ?_ _)); exact BK196.out⟩, ⟨by (try simp only [hl11_2]); (with_reducible repeat (first | refine blk_drewN ?_ _ | refine blk_drew ?_ | refine blk_alloc ?_ _)); exact BK197.out⟩, ⟨hw_ HB⟩⟩
            case round =>
             clear H'; (try clear c2); (try clear c27); (try clear c28); (try clear c31); (try clear c39); (try clear c39b0); (try clear c41)
             obtain ⟨x10_4, x11_4, x13_4, x15_4, rfl, rfl, HA, HK4, HO_10, HO_11, BK196, BK197, HB⟩ := hrel
             have hl11_4 := (Kd.R_reads' HO_11.out).1
             rw [hl11_4] at HO_11
             (try simp only [hl11_4])
             (try simp only [hl11_4] at BK196)
             (try simp only [hl11_4] at BK197)
             (try simp only [hl11_4] at HO_10)
             cases gk with
             | zero => exact absurd HA.out (by simp [spec_Order.l2])
             | succ k4 =>
              have H := HA.out; clear HA
              simp only [spec_Order.l2] at H
              have HC42 := mk_ H; clear H
              go_upto_region 15 with (fail)
              go_cut [71] (fun v71 wc => ∃ (kq : Nat) (x71_41 : Bool), v71 = .bool x71_41 ∧ Aside0 (spec_Order.j4 kq a3 x10_4 x11_4 x13_4 x15_4 x71_41 l0_0 l0_1 l0_2 a1_0 a1_1 = some (r1, r2)) ∧ Aside0 (kq ≤ k4) ∧ Aside0 (Kd.R k62 62 wc w.heap.size (fun _ => True) u10 x10_4) ∧ Aside0 (Kd.R k60 60 wc w.heap.size (fun _ => True) (.slice Ao36 x11_4.length co36) x11_4) ∧ Aside0 (wc.heap[gb196]? = some (.cells #[(.slice A0_0 l0_0.length c0_0), (.slice A0_1 l0_1.length c0_1), (.slice A0_2 l0_2.length c0_2)] 33 (0, 0))) ∧ Aside0 (wc.heap[gb197]? = some (.cells #[.int .i64 a1_0, .int .i64 a1_1] 35 (0, 0))) ∧ Aside0 (Below w.heap.size w wc))
              case first =>
               have H := HC42.out; clear HC42; by_cases c43 : x15_4 < (x11_4.length : Int)
               ·rw [if_pos c43] at H; have c43b0 : decide (x15_4 < (x11_4.length : Int)) = true := decide_eq_true c43
                (try (have c43h2 := c43b0; rw [hl11_2] at c43h2))
                (try (have c43h4 := c43b0; rw [hl11_4] at c43h4))
                clear c43
                (first | rw [c43b0] | (simp only [i64_w, i32_w]; rw [c43b0]) | skip)
                by_cases c44 : x13_4 = true
                ·subst c44
                 have H1 : (spec_Order.j4 k4 a3 x10_4 x11_4 true x15_4 false l0_0 l0_1 l0_2 a1_0 a1_1) = some (r1, r2) := by rw [if_pos rfl] at H; exact H
                 clear H
                 have H := H1
                 clear H1
                 have H' := mk_ H
                 clear H; go_wp2; go_meet
                 case rel => exact ⟨_, (false), rf_, H', ⟨by have := HJ4.out; have := HK2.out; have := HK3.out; have := HK4.out; first | omega | exact Nat.le_refl _⟩, ⟨by (try simp only [hl11_2]); (try simp only [hl11_4]); (with_reducible repeat (first | apply Kd.R_alloc | apply Kd.R_drewN | apply Kd.R_drew)); exact HO_10.out⟩, ⟨by (try simp only [hl11_2]); (try simp only [hl11_4]); (with_reducible repeat (first | apply Kd.R_alloc | apply Kd.R_drewN | apply Kd.R_drew)); exact HO_11.out⟩, ⟨by (try simp only [hl11_2]); (try simp only [hl11_4]); (with_reducible repeat (first | refine blk_drewN ?_ _ | refine blk_drew ?_ | refine blk_alloc ?_ _)); exact BK196.out⟩, ⟨by (try simp only [hl11_2]); (try simp only [hl11_4]); (with_reducible repeat (first | refine blk_drewN ?_ _ | refine blk_drew ?_ | refine blk_alloc ?_ _)); exact BK197.out⟩, ⟨hw_ HB⟩⟩
                ·replace c44 := Bool.eq_false_iff.mpr c44; subst c44
                 have H1 : (spec_Order.j4 k4 a3 x10_4 x11_4 false x15_4 (decide ((x10_4.length : Int) < 60)) l0_0 l0_1 l0_2 a1_0 a1_1) = some (r1, r2) := by rw [if_neg (show ¬ (false = true) by decide)] at H; exact H
                 clear H
                 have H := H1
                 clear H1
                 have H' := mk_ H
                 clear H; obtain ⟨Ao45, co45, eo45⟩ := Kd.R_slice HO_10.out; subst eo45; go_wp2; go_meet
                 case rel => exact ⟨_, (decide ((x10_4.length : Int) < 60)), rf_, H', ⟨by have := HJ4.out; have := HK2.out; have := HK3.out; have := HK4.out; first | omega | exact Nat.le_refl _⟩, ⟨by (try simp only [hl11_2]); (try simp only [hl11_4]); (with_reducible repeat (first | apply Kd.R_alloc | apply Kd.R_drewN | apply Kd.R_drew)); exact HO_10.out⟩, ⟨by (try simp only [hl11_2]); (try simp only [hl11_4]); (with_reducible repeat (first | apply Kd.R_alloc | apply Kd.R_drewN | apply Kd.R_drew)); exact HO_11.out⟩, ⟨by (try simp only [hl11_2]); (try simp only [hl11_4]); (with_reducible repeat (first | refine blk_drewN ?_ _ | refine blk_drew ?_ | refine blk_alloc ?_ _)); exact BK196.out⟩, ⟨by (try simp only [hl11_2]); (try simp only [hl11_4]); (with_reducible repeat (first | refine blk_drewN ?_ _ | refine blk_drew ?_ | refine blk_alloc ?_ _)); exact BK197.out⟩, ⟨hw_ HB⟩⟩
               ·rw [if_neg c43] at H; have c43b0 : decide (x15_4 < (x11_4.length : Int)) = false := decide_eq_false c43
                (try (have c43h2 := c43b0; rw [hl11_2] at c43h2))
                (try (have c43h4 := c43b0; rw [hl11_4] at c43h4))
                clear c43
                (first | rw [c43b0] | (simp only [i64_w, i32_w]; rw [c43b0]) | skip)
                have H' := mk_ H
                clear H; go_wp2; go_meet
                case rel => exact ⟨_, (false), rf_, H', ⟨by have := HJ4.out; have := HK2.out; have := HK3.out; have := HK4.out; first | omega | exact Nat.le_refl _⟩, ⟨by (try simp only [hl11_2]); (try simp only [hl11_4]); (with_reducible repeat (first | apply Kd.R_alloc | apply Kd.R_drewN | apply Kd.R_drew)); exact HO_10.out⟩, ⟨by (try simp only [hl11_2]); (try simp only [hl11_4]); (with_reducible repeat (first | apply Kd.R_alloc | apply Kd.R_drewN | apply Kd.R_drew)); exact HO_11.out⟩, ⟨by (try simp only [hl11_2]); (try simp only [hl11_4]); (with_reducible repeat (first | refine blk_drewN ?_ _ | refine blk_drew ?_ | refine blk_alloc ?_ _)); exact BK196.out⟩, ⟨by (try simp only [hl11_2]); (try simp only [hl11_4]); (with_reducible repeat (first | refine blk_drewN ?_ _ | refine blk_drew ?_ | refine blk_alloc ?_ _)); exact BK197.out⟩, ⟨hw_ HB⟩⟩
              case rest =>
               clear HC42; (try clear c2); (try clear c27); (try clear c28); (try clear c31); (try clear c39); (try clear c39b0); (try clear c41)
               obtain ⟨kq, x71_41, rfl, HA, HJ41, HO_10, HO_11, BK196, BK197, HB⟩ := hcut
               cases kq with
               | zero => exact absurd HA.out (by simp [spec_Order.j4])
               | succ kj41 =>
                have H := HA.out; clear HA
                simp only [spec_Order.j4] at H
                by_cases c46 : x71_41 = true
                ·subst c46
                 have H1 : (if 0 ≤ x15_4 then (if x15_4 < (x11_4.length : Int) then ((spec_l1Min.f a3 ((rd_T60 x11_4 x15_4).f0)).bind fun t215 => (if t215 = 0 then (spec_Order.l2 kj41 a3 x10_4 x11_4 x13_4 (wrap64 (x15_4 + 1)) l0_0 l0_1 l0_2 a1_0 a1_1) else ((some (x11_4.set (x15_4 : Int).toNat (⟨wrap64 (((rd_T60 x11_4 x15_4).f0) - t215), (rd_T60 x11_4 x15_4).f1⟩ : S60) : List (S60))).bind fun y217 => ((spec_l2With.f kj41 a1_0 a1_1 y217).bind fun bt218 => ((spec_Inside.f kj41 l0_0 l0_1 l0_2 bt218.1 bt218.2).bind fun t220 => (if t220 = true then (if x10_4.length < 8796093022208 then (spec_Order.l2 kj41 a3 (x10_4 ++ [(⟨x15_4, t215⟩ : S62)]) y217 true (wrap64 (x15_4 + 1)) l0_0 l0_1 l0_2 a1_0 a1_1) else (none)) else (spec_Order.l2 kj41 a3 x10_4 (y217.set (x15_4 : Int).toNat (⟨wrap64 (((rd_T60 y217 x15_4).f0) + t215), (rd_T60 y217 x15_4).f1⟩ : S60)) x13_4 (wrap64 (x15_4 + 1)) l0_0 l0_1 l0_2 a1_0 a1_1))))))) else (none)) else (none)) = some (r1, r2) := by rw [if_pos rfl] at H; exact H
                 clear H
                 have H := H1
                 clear H1; by_cases c47 : 0 ≤ x15_4
                 ·rw [if_pos c47] at H; have c47b0 : decide (0 ≤ x15_4) = true := decide_eq_true c47; clear c47; by_cases c48 : x15_4 < (x11_4.length : Int)
                  ·rw [if_pos c48] at H; have c48b0 : decide (x15_4 < (x11_4.length : Int)) = true := decide_eq_true c48
                   (try (have c48h2 := c48b0; rw [hl11_2] at c48h2))
                   (try (have c48h4 := c48b0; rw [hl11_4] at c48h4))
                   clear c48; replace H := Option.bind_eq_some_iff.mp H; obtain ⟨t215, A490, H⟩ := H
                   replace H : (if t215 = 0 then (spec_Order.l2 kj41 a3 x10_4 x11_4 x13_4 (wrap64 (x15_4 + 1)) l0_0 l0_1 l0_2 a1_0 a1_1) else ((some (x11_4.set (x15_4 : Int).toNat (⟨wrap64 (((rd_T60 x11_4 x15_4).f0) - t215), (rd_T60 x11_4 x15_4).f1⟩ : S60) : List (S60))).bind fun y217 => ((spec_l2With.f kj41 a1_0 a1_1 y217).bind fun bt218 => ((spec_Inside.f kj41 l0_0 l0_1 l0_2 bt218.1 bt218.2).bind fun t220 => (if t220 = true then (if x10_4.length < 8796093022208 then (spec_Order.l2 kj41 a3 (x10_4 ++ [(⟨x15_4, t215⟩ : S62)]) y217 true (wrap64 (x15_4 + 1)) l0_0 l0_1 l0_2 a1_0 a1_1) else (none)) else (spec_Order.l2 kj41 a3 x10_4 (y217.set (x15_4 : Int).toNat (⟨wrap64 (((rd_T60 y217 x15_4).f0) + t215), (rd_T60 y217 x15_4).f1⟩ : S60)) x13_4 (wrap64 (x15_4 + 1)) l0_0 l0_1 l0_2 a1_0 a1_1)))))) = some (r1, r2) := H
                   have A49 := mk_ A490; clear A490; by_cases c50 : t215 = 0
                   ·rw [if_pos c50] at H; have c50b0 : (t215 == 0) = true := beq_iff_eq.mpr c50; have c50b1 : (t215 != 0) = false := bne_eq_false_iff_eq.mpr c50; clear c50
                    have H' := mk_ H
                    clear H
                    have p214 : 0 ≤ (x15_4 : Int) := od_
                    have q214 : x15_4 < (x11_4.length : Int) := od_
                    obtain ⟨ad214, e214, hx214_0, hx214_1⟩ := at_T60 (rr_ HO_11) x15_4 p214 q214; cases e214; replace p214 := eq_true p214; replace q214 := eq_true q214
                    go_wp2_with (first | ((with_reducible refine gc_ 47 rfl ?_); refine gl_ (some 80) rfl Try.func47 #[.int .i64 a3, .int .i64 ((rd_T60 x11_4 x15_4).f0)] ?_; (with_reducible refine (spec_l1Min.calls a3 ((rd_T60 x11_4 x15_4).f0) t215 _ A49.out).mono ?_); rintro e w' ⟨rfl, ⟨nd, rfl⟩⟩; refine ⟨_, rfl, ?_⟩))
                    (try simp only [← hl11_4])
                    go_roundg kj41
                    case measure => have := HJ4.out; have := HK2.out; have := HK3.out; have := HK4.out; have := HJ41.out; omega
                    case rel => exact ⟨(x10_4), (x11_4), (x13_4), (wrap64 (x15_4 + 1)), rf_, rf_, H', ⟨by have := HJ4.out; have := HK2.out; have := HK3.out; have := HK4.out; have := HJ41.out; omega⟩, ⟨by (try simp only [hl11_2]); (try simp only [hl11_4]); (with_reducible repeat (first | apply Kd.R_alloc | apply Kd.R_drewN | apply Kd.R_drew)); exact HO_10.out⟩, ⟨by (try simp only [hl11_2]); (try simp only [hl11_4]); (with_reducible repeat (first | apply Kd.R_alloc | apply Kd.R_drewN | apply Kd.R_drew)); exact HO_11.out⟩, ⟨by (try simp only [hl11_2]); (try simp only [hl11_4]); (with_reducible repeat (first | refine blk_drewN ?_ _ | refine blk_drew ?_ | refine blk_alloc ?_ _)); exact BK196.out⟩, ⟨by (try simp only [hl11_2]); (try simp only [hl11_4]); (with_reducible repeat (first | refine blk_drewN ?_ _ | refine blk_drew ?_ | refine blk_alloc ?_ _)); exact BK197.out⟩, ⟨hw_ HB⟩⟩
                   ·rw [if_neg c50] at H; have c50b0 : (t215 == 0) = false := beq_eq_false_iff_ne.mpr c50; have c50b1 : (t215 != 0) = true := bne_iff_ne.mpr c50
                    obtain ⟨y217, hy217⟩ : ∃ y_ : List (S60), y_ = (x11_4.set (x15_4 : Int).toNat (⟨wrap64 (((rd_T60 x11_4 x15_4).f0) - t215), (rd_T60 x11_4 x15_4).f1⟩ : S60)) := ⟨_, rfl⟩
                    replace H : ((spec_l2With.f kj41 a1_0 a1_1 y217).bind fun bt218 => ((spec_Inside.f kj41 l0_0 l0_1 l0_2 bt218.1 bt218.2).bind fun t220 => (if t220 = true then (if x10_4.length < 8796093022208 then (spec_Order.l2 kj41 a3 (x10_4 ++ [(⟨x15_4, t215⟩ : S62)]) y217 true (wrap64 (x15_4 + 1)) l0_0 l0_1 l0_2 a1_0 a1_1) else (none)) else (spec_Order.l2 kj41 a3 x10_4 (y217.set (x15_4 : Int).toNat (⟨wrap64 (((rd_T60 y217 x15_4).f0) + t215), (rd_T60 y217 x15_4).f1⟩ : S60)) x13_4 (wrap64 (x15_4 + 1)) l0_0 l0_1 l0_2 a1_0 a1_1)))) = some (r1, r2) := by first | (rw [hy217]; with_reducible exact H) | (have H2_ := (Option.bind_some _ _).symm.trans H; rw [hy217]; with_reducible exact H2_) | (have H2_ := (Option.bind_some _ _).symm.trans H; with_reducible exact H2_) | with_reducible exact H | (rw [hy217]; exact H) | exact H
                    have Ny217 := mk_ hy217; clear hy217; replace H := Option.bind_eq_some_iff.mp H; obtain ⟨⟨t218, t219⟩, A520, H⟩ := H
                    replace H : ((spec_Inside.f kj41 l0_0 l0_1 l0_2 t218 t219).bind fun t220 => (if t220 = true then (if x10_4.length < 8796093022208 then (spec_Order.l2 kj41 a3 (x10_4 ++ [(⟨x15_4, t215⟩ : S62)]) y217 true (wrap64 (x15_4 + 1)) l0_0 l0_1 l0_2 a1_0 a1_1) else (none)) else (spec_Order.l2 kj41 a3 x10_4 (y217.set (x15_4 : Int).toNat (⟨wrap64 (((rd_T60 y217 x15_4).f0) + t215), (rd_T60 y217 x15_4).f1⟩ : S60)) x13_4 (wrap64 (x15_4 + 1)) l0_0 l0_1 l0_2 a1_0 a1_1))) = some (r1, r2) := H
                    have A52 := mk_ A520; clear A520; replace H := Option.bind_eq_some_iff.mp H; obtain ⟨t220, A530, H⟩ := H
                    replace H : (if t220 = true then (if x10_4.length < 8796093022208 then (spec_Order.l2 kj41 a3 (x10_4 ++ [(⟨x15_4, t215⟩ : S62)]) y217 true (wrap64 (x15_4 + 1)) l0_0 l0_1 l0_2 a1_0 a1_1) else (none)) else (spec_Order.l2 kj41 a3 x10_4 (y217.set (x15_4 : Int).toNat (⟨wrap64 (((rd_T60 y217 x15_4).f0) + t215), (rd_T60 y217 x15_4).f1⟩ : S60)) x13_4 (wrap64 (x15_4 + 1)) l0_0 l0_1 l0_2 a1_0 a1_1)) = some (r1, r2) := H
                    have A53 := mk_ A530; clear A530; by_cases c54 : t220 = true
                    ·subst c54
                     have H1 : (if x10_4.length < 8796093022208 then (spec_Order.l2 kj41 a3 (x10_4 ++ [(⟨x15_4, t215⟩ : S62)]) y217 true (wrap64 (x15_4 + 1)) l0_0 l0_1 l0_2 a1_0 a1_1) else (none)) = some (r1, r2) := by rw [if_pos rfl] at H; exact H
                     clear H
                     have H := H1
                     clear H1; by_cases c55 : x10_4.length < 8796093022208
                     ·rw [if_pos c55] at H; have LMc55 := mk_ c55; clear c55
                      obtain ⟨y221, hy221⟩ : ∃ y_ : List (S62), y_ = (x10_4 ++ [(⟨x15_4, t215⟩ : S62)]) := ⟨_, rfl⟩
                      replace H : (spec_Order.l2 kj41 a3 y221 y217 true (wrap64 (x15_4 + 1)) l0_0 l0_1 l0_2 a1_0 a1_1) = some (r1, r2) := by first | (rw [hy221]; with_reducible exact H) | (have H2_ := (Option.bind_some _ _).symm.trans H; rw [hy221]; with_reducible exact H2_) | (have H2_ := (Option.bind_some _ _).symm.trans H; with_reducible exact H2_) | with_reducible exact H | (rw [hy221]; exact H) | exact H
                      have Ny221 := mk_ hy221; clear hy221
                      have H' := mk_ H
                      clear H
                      have p214 : 0 ≤ (x15_4 : Int) := od_
                      have q214 : x15_4 < (x11_4.length : Int) := od_
                      obtain ⟨ad214, e214, hx214_0, hx214_1⟩ := at_T60 (rr_ HO_11) x15_4 p214 q214; cases e214; replace p214 := eq_true p214; replace q214 := eq_true q214
                      try go_wp2_with (first | ((with_reducible refine gc_ 47 rfl ?_); refine gl_ (some 80) rfl Try.func47 #[.int .i64 a3, .int .i64 ((rd_T60 x11_4 x15_4).f0)] ?_; (with_reducible refine (spec_l1Min.calls a3 ((rd_T60 x11_4 x15_4).f0) t215 _ A49.out).mono ?_); rintro e w' ⟨rfl, ⟨nd, rfl⟩⟩; refine ⟨_, rfl, ?_⟩; (try (rw [drewN_self wc]; generalize hq_ : World.drewN wc _ = wc; have n0_ := qR_ hq_ HO_10; have n1_ := qR_ hq_ HO_11; have n2_ := qB_ hq_ BK196; have n3_ := qB_ hq_ BK197; have n4_ := qH_ hq_ HB; clear HO_10 HO_11 BK196 BK197 HB hq_; have HO_10 := n0_; have HO_11 := n1_; have BK196 := n2_; have BK197 := n3_; have HB := n4_; clear n0_ n1_ n2_ n3_ n4_)); have p216 : 0 ≤ (x15_4 : Int) := od_; have q216 : x15_4 < (x11_4.length : Int) := od_; obtain ⟨ad216, e216, hx216_0, hx216_1⟩ := at_T60 (rr_ HO_11) x15_4 p216 q216; obtain rfl : ad214 = ad216 := (by injection e216); replace p216 := eq_true p216; replace q216 := eq_true q216; have p51 : 0 ≤ (x15_4 : Int) := od_; have q51 : (x15_4 : Int) < ((x11_4.length : Int) : Int) := od_; obtain ⟨go51, co51, eo51, gb51, gl51, cl51, HG51⟩ := Kd.R_form HO_11.out (by omega); (first | cases eo51 | (injection eo51 with ea_ en_ ec_; (first | subst ea_ | (injection ea_ with ea_; subst ea_)); subst ec_; clear en_)); have GB51 := mk_ gb51; have GG51 := mk_ HG51; clear gb51 gl51 HG51; (first | simp only [add_plain] at hx214_0 | skip); (first | simp only [add_plain] at hx214_1 | skip); (first | simp only [add_plain] at hx216_0 | skip); (first | simp only [add_plain] at hx216_1 | skip); obtain ⟨ce51, hcl51, hM51, hcc51, hfr51⟩ := Kd.R_elem HO_11.out z60 (x15_4 : Int) p51 q51; obtain rfl := k60_openM hM51; have hx51_0 : wc.cell? ⟨go51, (x15_4 : Int).toNat * 2, none⟩ = some (.int .i64 ((rd_T60 x11_4 x15_4).f0)) := hcc51 0 _ rfl; have hx51_1 : wc.cell? ⟨go51, (x15_4 : Int).toNat * 2 + 1, none⟩ = some (.int .i64 ((rd_T60 x11_4 x15_4).f1)) := hcc51 1 _ rfl; have hf51_0 : wc.frozen? ⟨go51, (x15_4 : Int).toNat * 2, none⟩ = false := hfr51 0; have hf51_1 : wc.frozen? ⟨go51, (x15_4 : Int).toNat * 2 + 1, none⟩ = false := hfr51 1; clear hcl51 hcc51 hfr51; (try clear hM51); replace p51 := eq_true p51; replace q51 := eq_true q51; have HX56 := mk_ (show Kd.R k60 60 wc w.heap.size (fun _ => True) (.slice (some ⟨go51, 0, none⟩) x11_4.length co36) x11_4 from (by exact HO_11.out)); obtain ⟨ce56, hcl56, hM56, hcc56, hfr56⟩ := Kd.R_elem HX56.out z60 (x15_4 : Int) (od_) (by have h_ : (x15_4 : Int) < ((x11_4.length : Int) : Int) := od_; first | exact h_ | (have e_ := (Kd.R_reads' HO_11.out).1; omega) | simpa using h_); obtain rfl := k60_openM hM56; have HP56 := Kd.R_seg HX56.out (x15_4 : Int) (od_) (by have h_ : (x15_4 : Int) < ((x11_4.length : Int) : Int) := od_; first | exact h_ | (have e_ := (Kd.R_reads' HO_11.out).1; omega) | simpa using h_) (seg := [.int .i64 (wrap64 (((rd_T60 x11_4 x15_4).f0) - t215))]) (j := 0) hcl56 hcc56 (show 1 ≤ 2 from by decide) (x' := (⟨wrap64 (((rd_T60 x11_4 x15_4).f0) - t215), (rd_T60 x11_4 x15_4).f1⟩ : S60)) (k60_mkM _ _ _ (⟨wrap64 (((rd_T60 x11_4 x15_4).f0) - t215), (rd_T60 x11_4 x15_4).f1⟩ : S60) ) (fun _ hk => hk); have hx56_0 := hcc56 0 _ rfl; (try simp only [show (k60).sz = 2 from rfl, Nat.mul_one, Nat.add_zero] at hx56_0); have hf56_0 := hfr56 0; (try simp only [show (k60).sz = 2 from rfl, Nat.mul_one, Nat.add_zero] at hf56_0); clear hcl56 hcc56 hfr56; (try clear hM56)) | ((with_reducible refine gate_store (t := 3) (p := 93) rfl ?_); refine store_event (t := 3) (p := 93) (v := ?vo_w57) (w1 := (wc.setCell ⟨go51, (x15_4 : Int).toNat * 2, none⟩ (.int .i64 (wrap64 (((rd_T60 x11_4 x15_4).f0) - t215))))) ?hg ?ho ?hn ?hr ?_; (case ho => rfl); (case hg => rfl); (case hn => rfl); (case hr => exact hr_); intro w57 hw; have hg : wc.grownBy w57 (some go51) := (by rw [hw]; exact HP56.2); have hp_ : Kd.R k60 60 w57 w.heap.size (fun _ => True) (.slice (some ⟨go51, 0, none⟩) x11_4.length co36) y217 := (by rw [hw, Ny217.out]; exact HP56.1); clear HP56; replace HO_10 := mk_ (Kd.R_over' (v := (.slice (some ⟨go51, 0, none⟩) x11_4.length co36)) (by exact HO_10.out) (Kd.R_typed HO_11.out) (by decide) hg); replace BK196 := mk_ (blk_grown (g := gb196) (o := .cells #[.slice A0_0 l0_0.length c0_0, .slice A0_1 l0_1.length c0_1, .slice A0_2 l0_2.length c0_2] 33 (0, 0)) (by exact BK196.out) hg (Kd.R_ne HO_11.out BK196.out (by decide))); replace BK197 := mk_ (blk_grown (g := gb197) (o := .cells #[.int .i64 a1_0, .int .i64 a1_1] 35 (0, 0)) (by exact BK197.out) hg (Kd.R_ne HO_11.out BK197.out (by decide))); replace HO_11 := mk_ (hp_); replace HB := mk_ ((by rw [hw]; exact below_set (HB.out) GB51.out : Below w.heap.size w w57)); clear hg hw hp_))
                      replace HO_10 := dR_ HO_10; replace HO_11 := dR_ HO_11; replace BK196 := dB_ BK196; replace BK197 := dB_ BK197; replace HB := dH_ HB
                      refine start_ (n := 5) (S := fun w' => w'.cell? ⟨gb196, 0, none⟩ = some (.slice A0_0 l0_0.length c0_0) ∧ w'.cell? ⟨gb196, 1, none⟩ = some (.slice A0_1 l0_1.length c0_1) ∧ w'.cell? ⟨gb196, 2, none⟩ = some (.slice A0_2 l0_2.length c0_2) ∧ w'.cell? ⟨gb197, 0, none⟩ = some (.int .i64 a1_0) ∧ w'.cell? ⟨gb197, 1, none⟩ = some (.int .i64 a1_1)) (ds := []) (bs_ 5 0) (by kernel_rfl) rfl (by kernel_rfl) ⟨bc0_ BK196, bc1_ BK196, bc2_ BK196, bc0_ BK197, bc1_ BK197⟩ (fun hHeld => ?_)
                      generalize w57.drew = w58 at HO_10 HO_11 BK196 BK197 HB hHeld ⊢
                      refine pu0_ 2 96 (bs_ 5 4) ?_; refine tk0_ 0 94 (bs_ 5 5) hHeld ?_; refine tk0_ 1 95 (bs_ 5 7) hHeld ?_
                      refine one_ (i := 3) (N := some 97) (bs_ 5 15) rfl rfl (by kernel_rfl) (by decide) (fun K hK => ?_)
                      refine goes_ Try.func34 (by kernel_rfl) rfl #[.agg #[.int .i64 a1_0, .int .i64 a1_1], .slice (some ⟨go51, 0, none⟩) y217.length co36] (by rfl) rfl rfl (by (try simp only [List.map_toArray, List.map_cons, List.map_nil]); first | done | (rw [show y217.length = x11_4.length from (Kd.R_reads' HO_11.out).1.symm] <;> rfl) | rfl | (simp only [List.length_drop, List.length_take]; rfl)) ?_
                      with_reducible refine (spec_l2With.calls kj41 a1_0 a1_1 _ _ y217 t218 t219 _ ?side1 ?side2 A52.out).mono ?_
                      (case side1 => exact cw_ (rr_ HO_11))
                      (case side2 => rw [show y217.length = x11_4.length from (Kd.R_reads' HO_11.out).1.symm]; exact (Kd.R_reads' HO_11.out).2.1)
                      rintro e w59 ⟨rfl, hb⟩
                      refine ⟨_, rfl, ?_⟩
                      replace HO_10 := rk_ HO_10 hb; replace HO_11 := rk_ HO_11 hb; replace BK196 := bk_ BK196 hb; replace BK197 := bk_ BK197 hb; replace HB := hk_ HB hb
                      (try clear hb); (try clear hb2); (try clear hk); (try clear hi)
                      refine hK.out _ _ ⟨bc0_ BK196, bc1_ BK196, bc2_ BK196, bc0_ BK197, bc1_ BK197⟩ (fun hHeld => ?_)
                      clear hK K; refine nm_ ?_
                      refine one_ (i := 4) (N := some 98) (bs_ 5 31) rfl rfl (by kernel_rfl) (by decide) (fun K hK => ?_)
                      refine gs_ Try.func33 #[.agg #[.slice A0_0 l0_0.length c0_0, .slice A0_1 l0_1.length c0_1, .slice A0_2 l0_2.length c0_2], .agg #[.int .i64 t218, .int .i64 t219]] ?_
                      with_reducible refine (spec_Inside.calls kj41 _ _ l0_0 _ _ l0_1 _ _ l0_2 t218 t219 true _ ?side1 ?side2 ?side3 ?side4 ?side5 ?side6 A53.out).mono ?_
                      (case side1 => exact cw_ (Kd.C_below HR0_0.out HB.out))
                      (case side2 => exact HC0_0.out)
                      (case side3 => exact cw_ (Kd.C_below HR0_1.out HB.out))
                      (case side4 => exact HC0_1.out)
                      (case side5 => exact cw_ (Kd.C_below HR0_2.out HB.out))
                      (case side6 => exact HC0_2.out)
                      rintro e w60 ⟨rfl, hb⟩
                      refine ⟨_, rfl, ?_⟩
                      replace HO_10 := rk_ HO_10 hb; replace HO_11 := rk_ HO_11 hb; replace BK196 := bk_ BK196 hb; replace BK197 := bk_ BK197 hb; replace HB := hk_ HB hb
                      (try clear hb); (try clear hb2); (try clear hk); (try clear hi)
                      refine hK.out _ _ ⟨bc0_ BK196, bc1_ BK196, bc2_ BK196, bc0_ BK197, bc1_ BK197⟩ (fun hHeld => ?_)
                      clear hK K; refine nm_ ?_
                      refine done_ (by kernel_rfl) ?_
                      try go_wp2_with (first | ((with_reducible refine gate_builtin (b := .append) (xs := #[.tmp 99, .tmp 103]) rfl ?_); (try (refine gate_guard (by rfl) ?_; dsimp only)); at_builtin; refine Kd.R_append k62 (w0 := w) w.heap.size rfl (.tmp 99) (.tmp 103) 39 62 (.agg #[(.int .i64 0), (.int .i64 0)]) 16 rfl Try.underlying39 info62 rfl (by decide) (by omega) u10 x10_4 (⟨x15_4, t215⟩ : S62) [.int .i64 x15_4, .int .i64 t215] (fun _ => True) (fun _ => False) rfl rfl ?aP (fun _ hk => hk.elim) ?aF ?aO ?aB ?aS ?aL ?_; (case aP => exact k62_mkM _ _ _ (⟨x15_4, t215⟩ : S62) ); (case aB => exact (by exact HB.out)); (case aF => exact (fun _ _ => trivial)); (case aO => exact (by exact HO_10.out)); (case aS => exact (below_size (by exact HB.out))); (case aL => have := LMc55.out; omega); intro v222 w61 ho hb hg hat; rw [← Ny221.out] at ho; replace HO_11 := mk_ (Kd.R_over' (by exact HO_11.out) (Kd.R_typed (by exact HO_10.out)) (by decide) hg); replace BK196 := mk_ (blk_grown (g := gb196) (o := .cells #[.slice A0_0 l0_0.length c0_0, .slice A0_1 l0_1.length c0_1, .slice A0_2 l0_2.length c0_2] 33 (0, 0)) (by exact BK196.out) hg (Kd.R_ne HO_10.out BK196.out (by decide))); replace BK197 := mk_ (blk_grown (g := gb197) (o := .cells #[.int .i64 a1_0, .int .i64 a1_1] 35 (0, 0)) (by exact BK197.out) hg (Kd.R_ne HO_10.out BK197.out (by decide))); replace HB := mk_ (hb); have HO223 := mk_ (ho); clear HO_10; clear ho hb hg hat))
                      (try simp only [← hl11_4])
                      go_roundg kj41
                      case measure => have := HJ4.out; have := HK2.out; have := HK3.out; have := HK4.out; have := HJ41.out; omega
                      case rel => exact ⟨(y221), (y217), (true), (wrap64 (x15_4 + 1)), rf_, rf_, H', ⟨by have := HJ4.out; have := HK2.out; have := HK3.out; have := HK4.out; have := HJ41.out; omega⟩, ⟨by (try simp only [hl11_2]); (try simp only [hl11_4]); (with_reducible repeat (first | apply Kd.R_alloc | apply Kd.R_drewN | apply Kd.R_drew)); exact HO223.out⟩, ⟨by (try simp only [hl11_2]); (try simp only [hl11_4]); (with_reducible repeat (first | apply Kd.R_alloc | apply Kd.R_drewN | apply Kd.R_drew)); exact HO_11.out⟩, ⟨by (try simp only [hl11_2]); (try simp only [hl11_4]); (with_reducible repeat (first | refine blk_drewN ?_ _ | refine blk_drew ?_ | refine blk_alloc ?_ _)); exact BK196.out⟩, ⟨by (try simp only [hl11_2]); (try simp only [hl11_4]); (with_reducible repeat (first | refine blk_drewN ?_ _ | refine blk_drew ?_ | refine blk_alloc ?_ _)); exact BK197.out⟩, ⟨hw_ HB⟩⟩
                     ·rw [if_neg c55] at H
                      exact absurd H (by simp)
                    ·replace c54 := Bool.eq_false_iff.mpr c54; subst c54
                     have H1 : (spec_Order.l2 kj41 a3 x10_4 (y217.set (x15_4 : Int).toNat (⟨wrap64 (((rd_T60 y217 x15_4).f0) + t215), (rd_T60 y217 x15_4).f1⟩ : S60)) x13_4 (wrap64 (x15_4 + 1)) l0_0 l0_1 l0_2 a1_0 a1_1) = some (r1, r2) := by rw [if_neg (show ¬ (false = true) by decide)] at H; exact H
                     clear H
                     have H := H1
                     clear H1
                     obtain ⟨y225, hy225⟩ : ∃ y_ : List (S60), y_ = (y217.set (x15_4 : Int).toNat (⟨wrap64 (((rd_T60 y217 x15_4).f0) + t215), (rd_T60 y217 x15_4).f1⟩ : S60)) := ⟨_, rfl⟩
                     replace H : (spec_Order.l2 kj41 a3 x10_4 y225 x13_4 (wrap64 (x15_4 + 1)) l0_0 l0_1 l0_2 a1_0 a1_1) = some (r1, r2) := by first | (rw [hy225]; with_reducible exact H) | (have H2_ := (Option.bind_some _ _).symm.trans H; rw [hy225]; with_reducible exact H2_) | (have H2_ := (Option.bind_some _ _).symm.trans H; with_reducible exact H2_) | with_reducible exact H | (rw [hy225]; exact H) | exact H
                     have Ny225 := mk_ hy225; clear hy225
                     have H' := mk_ H
                     clear H
                     have p214 : 0 ≤ (x15_4 : Int) := od_
                     have q214 : x15_4 < (x11_4.length : Int) := od_
                     obtain ⟨ad214, e214, hx214_0, hx214_1⟩ := at_T60 (rr_ HO_11) x15_4 p214 q214; cases e214; replace p214 := eq_true p214; replace q214 := eq_true q214
                     try go_wp2_with (first | ((with_reducible refine gc_ 47 rfl ?_); refine gl_ (some 80) rfl Try.func47 #[.int .i64 a3, .int .i64 ((rd_T60 x11_4 x15_4).f0)] ?_; (with_reducible refine (spec_l1Min.calls a3 ((rd_T60 x11_4 x15_4).f0) t215 _ A49.out).mono ?_); rintro e w' ⟨rfl, ⟨nd, rfl⟩⟩; refine ⟨_, rfl, ?_⟩; (try (rw [drewN_self wc]; generalize hq_ : World.drewN wc _ = wc; have n0_ := qR_ hq_ HO_10; have n1_ := qR_ hq_ HO_11; have n2_ := qB_ hq_ BK196; have n3_ := qB_ hq_ BK197; have n4_ := qH_ hq_ HB; clear HO_10 HO_11 BK196 BK197 HB hq_; have HO_10 := n0_; have HO_11 := n1_; have BK196 := n2_; have BK197 := n3_; have HB := n4_; clear n0_ n1_ n2_ n3_ n4_)); have p216 : 0 ≤ (x15_4 : Int) := od_; have q216 : x15_4 < (x11_4.length : Int) := od_; obtain ⟨ad216, e216, hx216_0, hx216_1⟩ := at_T60 (rr_ HO_11) x15_4 p216 q216; obtain rfl : ad214 = ad216 := (by injection e216); replace p216 := eq_true p216; replace q216 := eq_true q216; have p51 : 0 ≤ (x15_4 : Int) := od_; have q51 : (x15_4 : Int) < ((x11_4.length : Int) : Int) := od_; obtain ⟨go51, co51, eo51, gb51, gl51, cl51, HG51⟩ := Kd.R_form HO_11.out (by omega); (first | cases eo51 | (injection eo51 with ea_ en_ ec_; (first | subst ea_ | (injection ea_ with ea_; subst ea_)); subst ec_; clear en_)); have GB51 := mk_ gb51; have GG51 := mk_ HG51; clear gb51 gl51 HG51; (first | simp only [add_plain] at hx214_0 | skip); (first | simp only [add_plain] at hx214_1 | skip); (first | simp only [add_plain] at hx216_0 | skip); (first | simp only [add_plain] at hx216_1 | skip); obtain ⟨ce51, hcl51, hM51, hcc51, hfr51⟩ := Kd.R_elem HO_11.out z60 (x15_4 : Int) p51 q51; obtain rfl := k60_openM hM51; have hx51_0 : wc.cell? ⟨go51, (x15_4 : Int).toNat * 2, none⟩ = some (.int .i64 ((rd_T60 x11_4 x15_4).f0)) := hcc51 0 _ rfl; have hx51_1 : wc.cell? ⟨go51, (x15_4 : Int).toNat * 2 + 1, none⟩ = some (.int .i64 ((rd_T60 x11_4 x15_4).f1)) := hcc51 1 _ rfl; have hf51_0 : wc.frozen? ⟨go51, (x15_4 : Int).toNat * 2, none⟩ = false := hfr51 0; have hf51_1 : wc.frozen? ⟨go51, (x15_4 : Int).toNat * 2 + 1, none⟩ = false := hfr51 1; clear hcl51 hcc51 hfr51; (try clear hM51); replace p51 := eq_true p51; replace q51 := eq_true q51; have HX63 := mk_ (show Kd.R k60 60 wc w.heap.size (fun _ => True) (.slice (some ⟨go51, 0, none⟩) x11_4.length co36) x11_4 from (by exact HO_11.out)); obtain ⟨ce63, hcl63, hM63, hcc63, hfr63⟩ := Kd.R_elem HX63.out z60 (x15_4 : Int) (od_) (by have h_ : (x15_4 : Int) < ((x11_4.length : Int) : Int) := od_; first | exact h_ | (have e_ := (Kd.R_reads' HO_11.out).1; omega) | simpa using h_); obtain rfl := k60_openM hM63; have HP63 := Kd.R_seg HX63.out (x15_4 : Int) (od_) (by have h_ : (x15_4 : Int) < ((x11_4.length : Int) : Int) := od_; first | exact h_ | (have e_ := (Kd.R_reads' HO_11.out).1; omega) | simpa using h_) (seg := [.int .i64 (wrap64 (((rd_T60 x11_4 x15_4).f0) - t215))]) (j := 0) hcl63 hcc63 (show 1 ≤ 2 from by decide) (x' := (⟨wrap64 (((rd_T60 x11_4 x15_4).f0) - t215), (rd_T60 x11_4 x15_4).f1⟩ : S60)) (k60_mkM _ _ _ (⟨wrap64 (((rd_T60 x11_4 x15_4).f0) - t215), (rd_T60 x11_4 x15_4).f1⟩ : S60) ) (fun _ hk => hk); have hx63_0 := hcc63 0 _ rfl; (try simp only [show (k60).sz = 2 from rfl, Nat.mul_one, Nat.add_zero] at hx63_0); have hf63_0 := hfr63 0; (try simp only [show (k60).sz = 2 from rfl, Nat.mul_one, Nat.add_zero] at hf63_0); clear hcl63 hcc63 hfr63; (try clear hM63)) | ((with_reducible refine gate_store (t := 3) (p := 93) rfl ?_); refine store_event (t := 3) (p := 93) (v := ?vo_w64) (w1 := (wc.setCell ⟨go51, (x15_4 : Int).toNat * 2, none⟩ (.int .i64 (wrap64 (((rd_T60 x11_4 x15_4).f0) - t215))))) ?hg ?ho ?hn ?hr ?_; (case ho => rfl); (case hg => rfl); (case hn => rfl); (case hr => exact hr_); intro w64 hw; have hg : wc.grownBy w64 (some go51) := (by rw [hw]; exact HP63.2); have hp_ : Kd.R k60 60 w64 w.heap.size (fun _ => True) (.slice (some ⟨go51, 0, none⟩) x11_4.length co36) y217 := (by rw [hw, Ny217.out]; exact HP63.1); clear HP63; replace HO_10 := mk_ (Kd.R_over' (v := (.slice (some ⟨go51, 0, none⟩) x11_4.length co36)) (by exact HO_10.out) (Kd.R_typed HO_11.out) (by decide) hg); replace BK196 := mk_ (blk_grown (g := gb196) (o := .cells #[.slice A0_0 l0_0.length c0_0, .slice A0_1 l0_1.length c0_1, .slice A0_2 l0_2.length c0_2] 33 (0, 0)) (by exact BK196.out) hg (Kd.R_ne HO_11.out BK196.out (by decide))); replace BK197 := mk_ (blk_grown (g := gb197) (o := .cells #[.int .i64 a1_0, .int .i64 a1_1] 35 (0, 0)) (by exact BK197.out) hg (Kd.R_ne HO_11.out BK197.out (by decide))); replace HO_11 := mk_ (hp_); replace HB := mk_ ((by rw [hw]; exact below_set (HB.out) GB51.out : Below w.heap.size w w64)); clear hg hw hp_))
                     replace HO_10 := dR_ HO_10; replace HO_11 := dR_ HO_11; replace BK196 := dB_ BK196; replace BK197 := dB_ BK197; replace HB := dH_ HB
                     refine start_ (n := 5) (S := fun w' => w'.cell? ⟨gb196, 0, none⟩ = some (.slice A0_0 l0_0.length c0_0) ∧ w'.cell? ⟨gb196, 1, none⟩ = some (.slice A0_1 l0_1.length c0_1) ∧ w'.cell? ⟨gb196, 2, none⟩ = some (.slice A0_2 l0_2.length c0_2) ∧ w'.cell? ⟨gb197, 0, none⟩ = some (.int .i64 a1_0) ∧ w'.cell? ⟨gb197, 1, none⟩ = some (.int .i64 a1_1)) (ds := []) (bs_ 5 0) (by kernel_rfl) rfl (by kernel_rfl) ⟨bc0_ BK196, bc1_ BK196, bc2_ BK196, bc0_ BK197, bc1_ BK197⟩ (fun hHeld => ?_)
                     generalize w64.drew = w65 at HO_10 HO_11 BK196 BK197 HB hHeld ⊢
                     refine pu0_ 2 96 (bs_ 5 4) ?_; refine tk0_ 0 94 (bs_ 5 5) hHeld ?_; refine tk0_ 1 95 (bs_ 5 7) hHeld ?_
                     refine one_ (i := 3) (N := some 97) (bs_ 5 15) rfl rfl (by kernel_rfl) (by decide) (fun K hK => ?_)
                     refine goes_ Try.func34 (by kernel_rfl) rfl #[.agg #[.int .i64 a1_0, .int .i64 a1_1], .slice (some ⟨go51, 0, none⟩) y217.length co36] (by rfl) rfl rfl (by (try simp only [List.map_toArray, List.map_cons, List.map_nil]); first | done | (rw [show y217.length = x11_4.length from (Kd.R_reads' HO_11.out).1.symm] <;> rfl) | rfl | (simp only [List.length_drop, List.length_take]; rfl)) ?_
                     with_reducible refine (spec_l2With.calls kj41 a1_0 a1_1 _ _ y217 t218 t219 _ ?side1 ?side2 A52.out).mono ?_
                     (case side1 => exact cw_ (rr_ HO_11))
                     (case side2 => rw [show y217.length = x11_4.length from (Kd.R_reads' HO_11.out).1.symm]; exact (Kd.R_reads' HO_11.out).2.1)
                     rintro e w66 ⟨rfl, hb⟩
                     refine ⟨_, rfl, ?_⟩
                     replace HO_10 := rk_ HO_10 hb; replace HO_11 := rk_ HO_11 hb; replace BK196 := bk_ BK196 hb; replace BK197 := bk_ BK197 hb; replace HB := hk_ HB hb
                     (try clear hb); (try clear hb2); (try clear hk); (try clear hi)
                     refine hK.out _ _ ⟨bc0_ BK196, bc1_ BK196, bc2_ BK196, bc0_ BK197, bc1_ BK197⟩ (fun hHeld => ?_)
                     clear hK K; refine nm_ ?_
                     refine one_ (i := 4) (N := some 98) (bs_ 5 31) rfl rfl (by kernel_rfl) (by decide) (fun K hK => ?_)
                     refine gs_ Try.func33 #[.agg #[.slice A0_0 l0_0.length c0_0, .slice A0_1 l0_1.length c0_1, .slice A0_2 l0_2.length c0_2], .agg #[.int .i64 t218, .int .i64 t219]] ?_
                     with_reducible refine (spec_Inside.calls kj41 _ _ l0_0 _ _ l0_1 _ _ l0_2 t218 t219 false _ ?side1 ?side2 ?side3 ?side4 ?side5 ?side6 A53.out).mono ?_
                     (case side1 => exact cw_ (Kd.C_below HR0_0.out HB.out))
                     (case side2 => exact HC0_0.out)
                     (case side3 => exact cw_ (Kd.C_below HR0_1.out HB.out))
                     (case side4 => exact HC0_1.out)
                     (case side5 => exact cw_ (Kd.C_below HR0_2.out HB.out))
                     (case side6 => exact HC0_2.out)
                     rintro e w67 ⟨rfl, hb⟩
                     refine ⟨_, rfl, ?_⟩
                     replace HO_10 := rk_ HO_10 hb; replace HO_11 := rk_ HO_11 hb; replace BK196 := bk_ BK196 hb; replace BK197 := bk_ BK197 hb; replace HB := hk_ HB hb
                     (try clear hb); (try clear hb2); (try clear hk); (try clear hi)
                     refine hK.out _ _ ⟨bc0_ BK196, bc1_ BK196, bc2_ BK196, bc0_ BK197, bc1_ BK197⟩ (fun hHeld => ?_)
                     clear hK K; refine nm_ ?_
                     refine done_ (by kernel_rfl) ?_
                     have p224 : 0 ≤ (x15_4 : Int) := od_
                     have q224 : x15_4 < (y217.length : Int) := (by have h_ : (x15_4 : Int) < ((x11_4.length : Int) : Int) := od_; first | (have e_ := (Kd.R_reads' HO_11.out).1; omega) | simpa only [Ny217.out, List.length_set] using h_)
                     have ql224 : ((x15_4 : Int) < ((x11_4.length : Int) : Int)) = True := eq_true (od_)
                     obtain ⟨ad224, e224, hx224_0, hx224_1⟩ := at_T60 (rr_ HO_11) x15_4 p224 q224
                     obtain rfl : (⟨go51, 0, none⟩ : Addr) = ad224 := (by injection e224)
                     (first | simp only [add_plain] at hx224_0 | simp only [add_at] at hx224_0 | simp only [Addr.add, Nat.zero_add] at hx224_0 | skip)
                     (first | simp only [add_plain] at hx224_1 | simp only [add_at] at hx224_1 | simp only [Addr.add, Nat.zero_add] at hx224_1 | skip)
                     replace p224 := eq_true p224; replace q224 := eq_true q224
                     have p62 : 0 ≤ (x15_4 : Int) := od_
                     have q62 : (x15_4 : Int) < ((x11_4.length : Int) : Int) := od_
                     obtain ⟨ce62, hcl62, hM62, hcc62, hfr62⟩ := Kd.R_elem HO_11.out z60 (x15_4 : Int) p62 q62
                     obtain rfl := k60_openM hM62
                     have hx62_0 : w67.cell? ⟨go51, (x15_4 : Int).toNat * 2, none⟩ = some (.int .i64 ((rd_T60 y217 x15_4).f0)) := hcc62 0 _ rfl
                     have hx62_1 : w67.cell? ⟨go51, (x15_4 : Int).toNat * 2 + 1, none⟩ = some (.int .i64 ((rd_T60 y217 x15_4).f1)) := hcc62 1 _ rfl
                     have hf62_0 : w67.frozen? ⟨go51, (x15_4 : Int).toNat * 2, none⟩ = false := hfr62 0
                     have hf62_1 : w67.frozen? ⟨go51, (x15_4 : Int).toNat * 2 + 1, none⟩ = false := hfr62 1
                     clear hcl62 hcc62 hfr62; (try clear hM62); replace p62 := eq_true p62; replace q62 := eq_true q62; have HX68 := mk_ (show Kd.R k60 60 w67 w.heap.size (fun _ => True) (.slice (some ⟨go51, 0, none⟩) x11_4.length co36) y217 from (by exact HO_11.out))
                     obtain ⟨ce68, hcl68, hM68, hcc68, hfr68⟩ := Kd.R_elem HX68.out z60 (x15_4 : Int) (od_) (by have h_ : (x15_4 : Int) < ((x11_4.length : Int) : Int) := od_; first | exact h_ | (have e_ := (Kd.R_reads' HO_11.out).1; omega) | simpa using h_)
                     obtain rfl := k60_openM hM68
                     have HP68 := Kd.R_seg HX68.out (x15_4 : Int) (od_) (by have h_ : (x15_4 : Int) < ((x11_4.length : Int) : Int) := od_; first | exact h_ | (have e_ := (Kd.R_reads' HO_11.out).1; omega) | simpa using h_) (seg := [.int .i64 (wrap64 (((rd_T60 y217 x15_4).f0) + t215))]) (j := 0) hcl68 hcc68 (show 1 ≤ 2 from by decide) (x' := (⟨wrap64 (((rd_T60 y217 x15_4).f0) + t215), (rd_T60 y217 x15_4).f1⟩ : S60)) (k60_mkM _ _ _ (⟨wrap64 (((rd_T60 y217 x15_4).f0) + t215), (rd_T60 y217 x15_4).f1⟩ : S60) ) (fun _ hk => hk)
                     have hx68_0 := hcc68 0 _ rfl
                     (try simp only [show (k60).sz = 2 from rfl, Nat.mul_one, Nat.add_zero] at hx68_0)
                     have hf68_0 := hfr68 0
                     (try simp only [show (k60).sz = 2 from rfl, Nat.mul_one, Nat.add_zero] at hf68_0)
                     clear hcl68 hcc68 hfr68; (try clear hM68)
                     try go_wp2_with (first | ((with_reducible refine gate_store (t := 3) (p := 115) rfl ?_); refine store_event (t := 3) (p := 115) (v := ?vo_w69) (w1 := (w67.setCell ⟨go51, (x15_4 : Int).toNat * 2, none⟩ (.int .i64 (wrap64 (((rd_T60 y217 x15_4).f0) + t215))))) ?hg ?ho ?hn ?hr ?_; (case ho => rfl); (case hg => rfl); (case hn => rfl); (case hr => exact hr_); intro w69 hw; have hg : w67.grownBy w69 (some go51) := (by rw [hw]; exact HP68.2); have hp_ : Kd.R k60 60 w69 w.heap.size (fun _ => True) (.slice (some ⟨go51, 0, none⟩) x11_4.length co36) y225 := (by rw [hw, Ny225.out]; exact HP68.1); clear HP68; replace HO_10 := mk_ (Kd.R_over' (v := (.slice (some ⟨go51, 0, none⟩) x11_4.length co36)) (by exact HO_10.out) (Kd.R_typed HO_11.out) (by decide) hg); replace BK196 := mk_ (blk_grown (g := gb196) (o := .cells #[.slice A0_0 l0_0.length c0_0, .slice A0_1 l0_1.length c0_1, .slice A0_2 l0_2.length c0_2] 33 (0, 0)) (by exact BK196.out) hg (Kd.R_ne HO_11.out BK196.out (by decide))); replace BK197 := mk_ (blk_grown (g := gb197) (o := .cells #[.int .i64 a1_0, .int .i64 a1_1] 35 (0, 0)) (by exact BK197.out) hg (Kd.R_ne HO_11.out BK197.out (by decide))); replace HO_11 := mk_ (hp_); replace HB := mk_ ((by rw [hw]; exact below_set (HB.out) GB51.out : Below w.heap.size w w69)); clear hg hw hp_))
                     (try simp only [← hl11_4])
                     go_roundg kj41
                     case measure => have := HJ4.out; have := HK2.out; have := HK3.out; have := HK4.out; have := HJ41.out; omega
                     case rel => exact ⟨(x10_4), (y225), (x13_4), (wrap64 (x15_4 + 1)), rf_, rf_, H', ⟨by have := HJ4.out; have := HK2.out; have := HK3.out; have := HK4.out; have := HJ41.out; omega⟩, ⟨by (try simp only [hl11_2]); (try simp only [hl11_4]); (with_reducible repeat (first | apply Kd.R_alloc | apply Kd.R_drewN | apply Kd.R_drew)); exact HO_10.out⟩, ⟨by (try simp only [hl11_2]); (try simp only [hl11_4]); (with_reducible repeat (first | apply Kd.R_alloc | apply Kd.R_drewN | apply Kd.R_drew)); exact HO_11.out⟩, ⟨by (try simp only [hl11_2]); (try simp only [hl11_4]); (with_reducible repeat (first | refine blk_drewN ?_ _ | refine blk_drew ?_ | refine blk_alloc ?_ _)); exact BK196.out⟩, ⟨by (try simp only [hl11_2]); (try simp only [hl11_4]); (with_reducible repeat (first | refine blk_drewN ?_ _ | refine blk_drew ?_ | refine blk_alloc ?_ _)); exact BK197.out⟩, ⟨hw_ HB⟩⟩
                  ·rw [if_neg c48] at H
                   exact absurd H (by simp)
                 ·rw [if_neg c47] at H
                  exact absurd H (by simp)
                ·replace c46 := Bool.eq_false_iff.mpr c46; subst c46
                 have H1 : (if x13_4 = true then (spec_Order.l0 kj41 a3 x10_4 x11_4 l0_0 l0_1 l0_2 a1_0 a1_1) else (some (x10_4, false))) = some (r1, r2) := by rw [if_neg (show ¬ (false = true) by decide)] at H; exact H
                 clear H
                 have H := H1
                 clear H1; by_cases c70 : x13_4 = true
                 ·subst c70
                  have H1 : (spec_Order.l0 kj41 a3 x10_4 x11_4 l0_0 l0_1 l0_2 a1_0 a1_1) = some (r1, r2) := by rw [if_pos rfl] at H; exact H
                  clear H
                  have H := H1
                  clear H1
                  have H' := mk_ H
                  clear H; go_wp2
                  (try simp only [← hl11_2, ← hl11_4])
                  go_roundg kj41
                  case measure => have := HJ4.out; have := HK2.out; have := HK3.out; have := HK4.out; have := HJ41.out; omega
                  case rel => exact ⟨(x10_4), (x11_4), H', ⟨by have := HJ4.out; have := HK2.out; have := HK3.out; have := HK4.out; have := HJ41.out; omega⟩, ⟨by (try simp only [hl11_2]); (try simp only [hl11_4]); (with_reducible repeat (first | apply Kd.R_alloc | apply Kd.R_drewN | apply Kd.R_drew)); exact HO_10.out⟩, ⟨by (try simp only [hl11_2]); (try simp only [hl11_4]); (with_reducible repeat (first | apply Kd.R_alloc | apply Kd.R_drewN | apply Kd.R_drew)); exact HO_11.out⟩, ⟨by (try simp only [hl11_2]); (try simp only [hl11_4]); (with_reducible repeat (first | refine blk_drewN ?_ _ | refine blk_drew ?_ | refine blk_alloc ?_ _)); exact BK196.out⟩, ⟨by (try simp only [hl11_2]); (try simp only [hl11_4]); (with_reducible repeat (first | refine blk_drewN ?_ _ | refine blk_drew ?_ | refine blk_alloc ?_ _)); exact BK197.out⟩, ⟨hw_ HB⟩⟩
                 ·replace c70 := Bool.eq_false_iff.mpr c70; subst c70
                  have H1 : (some (x10_4, false)) = some (r1, r2) := by rw [if_neg (show ¬ (false = true) by decide)] at H; exact H
                  clear H
                  have H := H1
                  clear H1
                  simp only [Option.some.injEq, Prod.mk.injEq] at H
                  obtain ⟨rfl, rfl⟩ := H; go_wp2
                  go_ret2
                  exact ⟨_, re_, by (with_reducible repeat (first | apply Kd.R_alloc | apply Kd.R_drewN | apply Kd.R_drew)); exact HO_10.out, hw_ HB⟩
     ·replace c31 := Bool.eq_false_iff.mpr c31; subst c31
      have H1 : (some (y198, false)) = some (r1, r2) := by rw [if_neg (show ¬ (false = true) by decide)] at H; exact H
      clear H
      have H := H1
      clear H1
      simp only [Option.some.injEq, Prod.mk.injEq] at H
      obtain ⟨rfl, rfl⟩ := H
      try go_wp2_with (first | ((with_reducible refine gd_ 33 rfl ?_); (try (refine gate_guard (by rfl) ?_; dsimp only)); refine Kd.R_lit k60 _ 60 ?hg (N := 33) ?hd (xs := ([] : List (S60))) (inner := []) (ok := fun _ => True) (okp := fun _ => True) ?hr ?hp (fun _ hk => hk) trivial (Below.refl _ _) (Nat.le_refl _) (by simp) ?_; (case hd => rfl); (case hg => rfl); (case hr => exact hr_); (case hp => exact (Reps.none _ _)); intro v205 w71 ho72 hb hg_ hnew_; clear hg_ hnew_; (first | rw [← Ny204.out] at ho72 | (simp only [Int.reduceToNat] at ho72; rw [← Ny204.out] at ho72)); replace HO_10 := rb_ HO_10 hb; have HO206 := mk_ (Kd.R_lower ho72 (below_size (by exact HB.out))); replace BK196 := bl_ BK196 hb; replace BK197 := bl_ BK197 hb; replace HB := bp_ HB hb; clear hb ho72) | ((with_reducible refine gate_builtin (b := .append) (xs := #[.tmp 33, .tmp 34]) rfl ?_); (try (refine gate_guard (by rfl) ?_; dsimp only)); at_builtin; refine Kd.R_append_rows k60 (w0 := w) w.heap.size rfl (.tmp 33) (.tmp 34) 37 60 (.agg #[(.int .i64 0), (.int .i64 0)]) 16 rfl Try.underlying37 info60 rfl (by decide) (by omega) v205 y204 l2 _ _ _ (fun _ => True) (fun _ => False) rfl rfl ?aO ?aR (fun _ _ h => h) (fun _ h => h.elim) ?aF ?aB ?aS ?aL ?_; (case aR => exact cw_ (Kd.C_below HR2.out HB.out)); (case aB => exact (by exact HB.out)); (case aF => exact (fun _ _ => trivial)); (case aO => exact (by exact HO206.out)); (case aS => exact (below_size (by exact HB.out))); (case aL => have := LMc28.out; omega); intro v208 w73 ho hb hg hat; rw [← Ny207.out] at ho; replace HO_10 := mk_ (Kd.R_over' (by exact HO_10.out) (Kd.R_typed (by exact HO206.out)) (by decide) hg); replace BK196 := mk_ (blk_grown (g := gb196) (o := .cells #[.slice A0_0 l0_0.length c0_0, .slice A0_1 l0_1.length c0_1, .slice A0_2 l0_2.length c0_2] 33 (0, 0)) (by exact BK196.out) hg (Kd.R_ne HO206.out BK196.out (by decide))); replace BK197 := mk_ (blk_grown (g := gb197) (o := .cells #[.int .i64 a1_0, .int .i64 a1_1] 35 (0, 0)) (by exact BK197.out) hg (Kd.R_ne HO206.out BK197.out (by decide))); replace HB := mk_ (hb); have HO209 := mk_ (ho); clear HO206; clear ho hb hg hat))
      replace HO_10 := dR_ HO_10; replace HO209 := dR_ HO209; replace BK196 := dB_ BK196; replace BK197 := dB_ BK197; replace HB := dH_ HB
      obtain ⟨Ao75, co75, eo75⟩ := Kd.R_slice HO209.out
      (first | subst eo75 | (injection eo75 with f1_ f2_ f3_; have f4_ := f1_.symm; have f5_ := f3_.symm; clear f1_ f2_ f3_; subst f4_; subst f5_))
      refine start_ (n := 6) (S := fun w' => w'.cell? ⟨gb196, 0, none⟩ = some (.slice A0_0 l0_0.length c0_0) ∧ w'.cell? ⟨gb196, 1, none⟩ = some (.slice A0_1 l0_1.length c0_1) ∧ w'.cell? ⟨gb196, 2, none⟩ = some (.slice A0_2 l0_2.length c0_2) ∧ w'.cell? ⟨gb197, 0, none⟩ = some (.int .i64 a1_0) ∧ w'.cell? ⟨gb197, 1, none⟩ = some (.int .i64 a1_1)) (ds := []) (bs_ 6 0) (by kernel_rfl) rfl (by kernel_rfl) ⟨bc0_ BK196, bc1_ BK196, bc2_ BK196, bc0_ BK197, bc1_ BK197⟩ (fun hHeld => ?_)
      generalize w73.drew = w74 at HO_10 HO209 BK196 BK197 HB hHeld ⊢
      refine pu0_ 2 38 (bs_ 6 4) ?_; refine tk0_ 0 36 (bs_ 6 5) hHeld ?_; refine tk0_ 1 37 (bs_ 6 7) hHeld ?_
      refine one_ (i := 3) (N := some 39) (bs_ 6 15) rfl rfl (by kernel_rfl) (by decide) (fun K hK => ?_)
      refine gs_ Try.func34 #[.agg #[.int .i64 a1_0, .int .i64 a1_1], .slice Ao75 y207.length co75] ?_
      with_reducible refine (spec_l2With.calls kj4 a1_0 a1_1 _ _ y207 t210 t211 _ ?side1 ?side2 A29.out).mono ?_
      (case side1 => exact cw_ (rr_ HO209))
      (case side2 => exact (Kd.R_reads' HO209.out).2.1)
      rintro e w76 ⟨rfl, hb⟩
      refine ⟨_, rfl, ?_⟩
      replace HO_10 := rk_ HO_10 hb; replace HO209 := rk_ HO209 hb; replace BK196 := bk_ BK196 hb; replace BK197 := bk_ BK197 hb; replace HB := hk_ HB hb
      (try clear hb); (try clear hb2); (try clear hk); (try clear hi)
      refine hK.out _ _ ⟨bc0_ BK196, bc1_ BK196, bc2_ BK196, bc0_ BK197, bc1_ BK197⟩ (fun hHeld => ?_)
      clear hK K; refine nm_ ?_
      refine one_ (i := 4) (N := some 40) (bs_ 6 31) rfl rfl (by kernel_rfl) (by decide) (fun K hK => ?_)
      refine gs_ Try.func33 #[.agg #[.slice A0_0 l0_0.length c0_0, .slice A0_1 l0_1.length c0_1, .slice A0_2 l0_2.length c0_2], .agg #[.int .i64 t210, .int .i64 t211]] ?_
      with_reducible refine (spec_Inside.calls kj4 _ _ l0_0 _ _ l0_1 _ _ l0_2 t210 t211 false _ ?side1 ?side2 ?side3 ?side4 ?side5 ?side6 A30.out).mono ?_
      (case side1 => exact cw_ (Kd.C_below HR0_0.out HB.out))
      (case side2 => exact HC0_0.out)
      (case side3 => exact cw_ (Kd.C_below HR0_1.out HB.out))
      (case side4 => exact HC0_1.out)
      (case side5 => exact cw_ (Kd.C_below HR0_2.out HB.out))
      (case side6 => exact HC0_2.out)
      rintro e w77 ⟨rfl, hb⟩
      refine ⟨_, rfl, ?_⟩
      replace HO_10 := rk_ HO_10 hb; replace HO209 := rk_ HO209 hb; replace BK196 := bk_ BK196 hb; replace BK197 := bk_ BK197 hb; replace HB := hk_ HB hb
      (try clear hb); (try clear hb2); (try clear hk); (try clear hi)
      refine hK.out _ _ ⟨bc0_ BK196, bc1_ BK196, bc2_ BK196, bc0_ BK197, bc1_ BK197⟩ (fun hHeld => ?_)
      clear hK K; refine nm_ ?_; refine pu0_ 5 41 (bs_ 6 63) ?_
      refine done_ (by kernel_rfl) ?_
      try go_wp2
      go_ret2
      exact ⟨_, re_, by (with_reducible repeat (first | apply Kd.R_alloc | apply Kd.R_drewN | apply Kd.R_drew)); exact HO_10.out, hw_ HB⟩
    ·rw [if_neg c28] at H
     exact absurd H (by simp)

end Go.Proofs.Yteedbciobdcmaaa.QFnExactOrder
-- squeezed
