-- PRINTED BY print.sh 35421559b90ae4d0a3588c463048766b98c2df88dd9212a6774a882060cdf62d: not written by this session
import Derived.Test.YtceepcjpelcbgaaPFnCracksx0
import Derived.Test.YtceepcjpelcbgaaPFnCracksx1
namespace Go.Proofs.Ytceepcjpelcbgaa.PFnCracks
open Go.RowKit Go.Proofs.YtceepcjpelcbgaaW.PrintWords Go.Proofs.YtceepcjpelcbgaaW.PrintLast Go.Proofs.YtceepcjpelcbgaaW.PrintMore
attribute [local go_sem] max2_int min2_int max_two min_two max_three min_three max_four min_four   -- for this text's walks alone
set_option linter.unusedVariables false
set_option linter.unusedSimpArgs false

/-! ### laws_FnCracks: function 6 -/
mutual
def laws_FnCracks.j0 : Nat → List Int → Int → Bool → Int → Int → Int → Option (Bool)
  | 0, _, _, _, _, _, _ => none
  | k + 1, x0, x4, x36, x119000, x119001, x119002 => if x36 = true then (some false) else (laws_FnCracks.l0 k x0 x4 x119000 0 x119000 x119001 x119002)
def laws_FnCracks.l0 : Nat → List Int → Int → Int → Int → Int → Int → Int → Option (Bool)
  | 0, _, _, _, _, _, _, _ => none
  | k + 1, x0, x4, x6, x7, x119000, x119001, x119002 => if x7 < x4 then (if x6 > x119001 then (some false) else (laws_FnCracks.l0 k x0 x4 (wrap64 (x6 + (wrap64 (Int.tdiv (wrap64 ((wrap64 (x6 * x119002)) + 999)) 1000)))) (wrap64 (x7 + 1)) x119000 x119001 x119002)) else ((laws_at.f x0 3).bind fun t121 => ((impl_Inspect.f k x119000 x119001 x119002 x119000 (wrap64 (1 + (Int.tmod t121 5)))).bind fun bt122 => (if bt122.2 = true then (if x6 > x119001 then (if bt122.1 > 0 then (some (decide ((wrap64 (bt122.1 * (wrap64 (1 + (Int.tmod t121 5))))) < x4))) else (some false)) else (some false)) else (if x6 > x119001 then (some (decide ((wrap64 (x4 - 1)) < (wrap64 (1 + (Int.tmod t121 5)))))) else (some false)))))
end
def laws_FnCracks.f (k : Nat) (l0 : List Int) : Option (Bool) := (laws_big.f l0).bind fun t114 => (if t114 = true then (some true) else ((laws_at.f l0 0).bind fun t115 => ((laws_at.f l0 1).bind fun t116 => ((laws_at.f l0 2).bind fun t117 => ((impl_Flights.f k (wrap64 (1 + (Int.tmod t115 90))) (wrap64 (90 + (wrap64 (t116 * 4)))) (wrap64 (1 + (Int.tmod t117 100)))).bind fun bt119 => (if bt119.2 = true then (laws_FnCracks.j0 k l0 bt119.1 (decide (bt119.1 < 1)) (wrap64 (1 + (Int.tmod t115 90))) (wrap64 (90 + (wrap64 (t116 * 4)))) (wrap64 (1 + (Int.tmod t117 100)))) else (laws_FnCracks.j0 k l0 bt119.1 true (wrap64 (1 + (Int.tmod t115 90))) (wrap64 (90 + (wrap64 (t116 * 4)))) (wrap64 (1 + (Int.tmod t117 100))))))))))
theorem laws_FnCracks.mono_l : ∀ k, (∀ y0 y1 y2 y3 y4 y5, LeO (laws_FnCracks.j0 k y0 y1 y2 y3 y4 y5) (laws_FnCracks.j0 (k + 1) y0 y1 y2 y3 y4 y5)) ∧ (∀ y0 y1 y2 y3 y4 y5 y6, LeO (laws_FnCracks.l0 k y0 y1 y2 y3 y4 y5 y6) (laws_FnCracks.l0 (k + 1) y0 y1 y2 y3 y4 y5 y6))
  | 0 => ⟨fun _ _ _ _ _ _ r h => by simp [laws_FnCracks.j0] at h, fun _ _ _ _ _ _ _ r h => by simp [laws_FnCracks.l0] at h⟩
  | k + 1 => by
    obtain ⟨ih0, ih1⟩ := laws_FnCracks.mono_l k
    refine ⟨?_, ?_⟩
    · intro y0 y1 y2 y3 y4 y5
      unfold laws_FnCracks.j0
      repeat' first
      | (with_reducible exact ih0 _ _ _ _ _ _)
      | (with_reducible exact ih1 _ _ _ _ _ _ _)
      | (with_reducible exact impl_Flights.mono _ _ _ _)
      | (with_reducible exact impl_Inspect.mono _ _ _ _ _ _)
      | (with_reducible exact LeO.refl _)
      | (with_reducible exact LeO.none _)
      | (with_reducible refine LeO.ite ?_ ?_)
      | (with_reducible refine LeO.bind ?_ (fun _ => ?_))
      | exact ih0 _ _ _ _ _ _
      | exact ih1 _ _ _ _ _ _ _
      | exact impl_Flights.mono _ _ _ _
      | exact impl_Inspect.mono _ _ _ _ _ _
      | exact LeO.none _
      | refine LeO.ite ?_ ?_
      | refine LeO.bind ?_ (fun _ => ?_)
    · intro y0 y1 y2 y3 y4 y5 y6
      unfold laws_FnCracks.l0
      repeat' first
      | (with_reducible exact ih0 _ _ _ _ _ _)
      | (with_reducible exact ih1 _ _ _ _ _ _ _)
      | (with_reducible exact impl_Flights.mono _ _ _ _)
      | (with_reducible exact impl_Inspect.mono _ _ _ _ _ _)
      | (with_reducible exact LeO.refl _)
      | (with_reducible exact LeO.none _)
      | (with_reducible refine LeO.ite ?_ ?_)
      | (with_reducible refine LeO.bind ?_ (fun _ => ?_))
      | exact ih0 _ _ _ _ _ _
      | exact ih1 _ _ _ _ _ _ _
      | exact impl_Flights.mono _ _ _ _
      | exact impl_Inspect.mono _ _ _ _ _ _
      | exact LeO.none _
      | refine LeO.ite ?_ ?_
      | refine LeO.bind ?_ (fun _ => ?_)
theorem laws_FnCracks.mono : ∀ a0 k, LeO (laws_FnCracks.f k a0) (laws_FnCracks.f (k + 1) a0) := by
  intro a0 k
  obtain ⟨ih0, ih1⟩ := laws_FnCracks.mono_l k
  unfold laws_FnCracks.f
  repeat' first
      | (with_reducible exact ih0 _ _ _ _ _ _)
      | (with_reducible exact ih1 _ _ _ _ _ _ _)
      | (with_reducible exact impl_Flights.mono _ _ _ _)
      | (with_reducible exact impl_Inspect.mono _ _ _ _ _ _)
      | (with_reducible exact LeO.refl _)
      | (with_reducible exact LeO.none _)
      | (with_reducible refine LeO.ite ?_ ?_)
      | (with_reducible refine LeO.bind ?_ (fun _ => ?_))
      | exact ih0 _ _ _ _ _ _
      | exact ih1 _ _ _ _ _ _ _
      | exact impl_Flights.mono _ _ _ _
      | exact impl_Inspect.mono _ _ _ _ _ _
      | exact LeO.none _
      | refine LeO.ite ?_ ?_
      | refine LeO.bind ?_ (fun _ => ?_)
set_option maxHeartbeats 8000000 in
set_option maxRecDepth 100000 in
theorem laws_FnCracks.calls (k : Nat) (A0 : Option Addr) (c0 : Nat) (l0 : List Int) (r : Bool) (w : World) (hr0 : Kd.C (Kd.int .u8) w A0 l0.length l0) (hc0 : l0.length ≤ c0) (h : laws_FnCracks.f k l0 = some r) :
    Calls Try.prog 6 #[.slice A0 l0.length c0] w fun e w' => e = .returned (.bool r) ∧ Below w.heap.size w w' := by
  have hu47 := Try.underlying47
  have HR0 := Aside0.mk hr0
  have HC0 := Aside0.mk hc0
  clear hr0 hc0
  have HB := Aside0.mk (Below.refl w.heap.size w)
  have H : ((laws_big.f l0).bind fun t114 => (if t114 = true then (some true) else ((laws_at.f l0 0).bind fun t115 => ((laws_at.f l0 1).bind fun t116 => ((laws_at.f l0 2).bind fun t117 => ((impl_Flights.f k (wrap64 (1 + (Int.tmod t115 90))) (wrap64 (90 + (wrap64 (t116 * 4)))) (wrap64 (1 + (Int.tmod t117 100)))).bind fun bt119 => (if bt119.2 = true then (laws_FnCracks.j0 k l0 bt119.1 (decide (bt119.1 < 1)) (wrap64 (1 + (Int.tmod t115 90))) (wrap64 (90 + (wrap64 (t116 * 4)))) (wrap64 (1 + (Int.tmod t117 100)))) else (laws_FnCracks.j0 k l0 bt119.1 true (wrap64 (1 + (Int.tmod t115 90))) (wrap64 (90 + (wrap64 (t116 * 4)))) (wrap64 (1 + (Int.tmod t117 100))))))))))) = some r := h
  clear h
  replace H := Option.bind_eq_some_iff.mp H
  obtain ⟨t114, A20, H⟩ := H
  replace H : (if t114 = true then (some true) else ((laws_at.f l0 0).bind fun t115 => ((laws_at.f l0 1).bind fun t116 => ((laws_at.f l0 2).bind fun t117 => ((impl_Flights.f k (wrap64 (1 + (Int.tmod t115 90))) (wrap64 (90 + (wrap64 (t116 * 4)))) (wrap64 (1 + (Int.tmod t117 100)))).bind fun bt119 => (if bt119.2 = true then (laws_FnCracks.j0 k l0 bt119.1 (decide (bt119.1 < 1)) (wrap64 (1 + (Int.tmod t115 90))) (wrap64 (90 + (wrap64 (t116 * 4)))) (wrap64 (1 + (Int.tmod t117 100)))) else (laws_FnCracks.j0 k l0 bt119.1 true (wrap64 (1 + (Int.tmod t115 90))) (wrap64 (90 + (wrap64 (t116 * 4)))) (wrap64 (1 + (Int.tmod t117 100)))))))))) = some r := H
  have A2 := Aside0.mk A20
  clear A20
  by_cases c3 : t114 = true
  · subst c3
    have H1 : (some true) = some r := by rw [if_pos rfl] at H; exact H
    clear H
    have H := H1
    clear H1
    obtain rfl := Option.some.inj H
    go_enter Try.func6, Try.ntmps6
    go_wp2_with (first | ((with_reducible refine gate_callee (f := 26) rfl ?_); refine goesL_ (some 12) rfl rfl Try.func26 (by kernel_rfl) rfl #[.slice A0 l0.length c0] rfl (by (try simp only [List.map_toArray, List.map_cons, List.map_nil]); first | done | rfl | (simp only [List.length_drop, List.length_take]; rfl)) ?_; (with_reducible refine (laws_big.calls _ _ l0 true _ ?side1 ?side2 A2.out).mono ?_); (case side1 => repeat (first | exact HR0.out | (with_reducible refine Kd.C_alloc ?_ _) | (with_reducible refine Kd.C_drewN ?_ _) | (with_reducible refine Kd.C_drew ?_))); (case side2 => exact HC0.out); rintro e w' ⟨rfl, ⟨nd, rfl⟩⟩; refine ⟨_, rfl, ?_⟩))
    go_ret
    exact ⟨by first | rfl | (simp [errW_none, errW_some] <;> rfl) | (simp [*, errW_none, errW_some] <;> rfl), by repeat (first | (with_reducible first | exact HB.out | apply below_alloc | apply pw_below_drewN | apply below_drew1) | exact HB.out)⟩
  · replace c3 := Bool.eq_false_iff.mpr c3
    subst c3
    have H1 : ((laws_at.f l0 0).bind fun t115 => ((laws_at.f l0 1).bind fun t116 => ((laws_at.f l0 2).bind fun t117 => ((impl_Flights.f k (wrap64 (1 + (Int.tmod t115 90))) (wrap64 (90 + (wrap64 (t116 * 4)))) (wrap64 (1 + (Int.tmod t117 100)))).bind fun bt119 => (if bt119.2 = true then (laws_FnCracks.j0 k l0 bt119.1 (decide (bt119.1 < 1)) (wrap64 (1 + (Int.tmod t115 90))) (wrap64 (90 + (wrap64 (t116 * 4)))) (wrap64 (1 + (Int.tmod t117 100)))) else (laws_FnCracks.j0 k l0 bt119.1 true (wrap64 (1 + (Int.tmod t115 90))) (wrap64 (90 + (wrap64 (t116 * 4)))) (wrap64 (1 + (Int.tmod t117 100))))))))) = some r := by rw [if_neg (show ¬ (false = true) by decide)] at H; exact H
    clear H
    have H := H1
    clear H1
    replace H := Option.bind_eq_some_iff.mp H
    obtain ⟨t115, A40, H⟩ := H
    replace H : ((laws_at.f l0 1).bind fun t116 => ((laws_at.f l0 2).bind fun t117 => ((impl_Flights.f k (wrap64 (1 + (Int.tmod t115 90))) (wrap64 (90 + (wrap64 (t116 * 4)))) (wrap64 (1 + (Int.tmod t117 100)))).bind fun bt119 => (if bt119.2 = true then (laws_FnCracks.j0 k l0 bt119.1 (decide (bt119.1 < 1)) (wrap64 (1 + (Int.tmod t115 90))) (wrap64 (90 + (wrap64 (t116 * 4)))) (wrap64 (1 + (Int.tmod t117 100)))) else (laws_FnCracks.j0 k l0 bt119.1 true (wrap64 (1 + (Int.tmod t115 90))) (wrap64 (90 + (wrap64 (t116 * 4)))) (wrap64 (1 + (Int.tmod t117 100)))))))) = some r := H
    have A4 := Aside0.mk A40
    clear A40
    replace H := Option.bind_eq_some_iff.mp H
    obtain ⟨t116, A50, H⟩ := H
    replace H : ((laws_at.f l0 2).bind fun t117 => ((impl_Flights.f k (wrap64 (1 + (Int.tmod t115 90))) (wrap64 (90 + (wrap64 (t116 * 4)))) (wrap64 (1 + (Int.tmod t117 100)))).bind fun bt119 => (if bt119.2 = true then (laws_FnCracks.j0 k l0 bt119.1 (decide (bt119.1 < 1)) (wrap64 (1 + (Int.tmod t115 90))) (wrap64 (90 + (wrap64 (t116 * 4)))) (wrap64 (1 + (Int.tmod t117 100)))) else (laws_FnCracks.j0 k l0 bt119.1 true (wrap64 (1 + (Int.tmod t115 90))) (wrap64 (90 + (wrap64 (t116 * 4)))) (wrap64 (1 + (Int.tmod t117 100))))))) = some r := H
    have A5 := Aside0.mk A50
    clear A50
    replace H := Option.bind_eq_some_iff.mp H
    obtain ⟨t117, A60, H⟩ := H
    replace H : ((impl_Flights.f k (wrap64 (1 + (Int.tmod t115 90))) (wrap64 (90 + (wrap64 (t116 * 4)))) (wrap64 (1 + (Int.tmod t117 100)))).bind fun bt119 => (if bt119.2 = true then (laws_FnCracks.j0 k l0 bt119.1 (decide (bt119.1 < 1)) (wrap64 (1 + (Int.tmod t115 90))) (wrap64 (90 + (wrap64 (t116 * 4)))) (wrap64 (1 + (Int.tmod t117 100)))) else (laws_FnCracks.j0 k l0 bt119.1 true (wrap64 (1 + (Int.tmod t115 90))) (wrap64 (90 + (wrap64 (t116 * 4)))) (wrap64 (1 + (Int.tmod t117 100)))))) = some r := H
    have A6 := Aside0.mk A60
    clear A60
    replace H := Option.bind_eq_some_iff.mp H
    obtain ⟨⟨t119, t120⟩, A70, H⟩ := H
    replace H : (if t120 = true then (laws_FnCracks.j0 k l0 t119 (decide (t119 < 1)) (wrap64 (1 + (Int.tmod t115 90))) (wrap64 (90 + (wrap64 (t116 * 4)))) (wrap64 (1 + (Int.tmod t117 100)))) else (laws_FnCracks.j0 k l0 t119 true (wrap64 (1 + (Int.tmod t115 90))) (wrap64 (90 + (wrap64 (t116 * 4)))) (wrap64 (1 + (Int.tmod t117 100))))) = some r := H
    have A7 := Aside0.mk A70
    clear A70
    have HC8 := Aside0.mk H
    clear H
    go_enter Try.func6, Try.ntmps6
    go_upto_region 5 with (first | ((with_reducible refine gate_callee (f := 26) rfl ?_); refine goesL_ (some 12) rfl rfl Try.func26 (by kernel_rfl) rfl #[.slice A0 l0.length c0] rfl (by (try simp only [List.map_toArray, List.map_cons, List.map_nil]); first | done | rfl | (simp only [List.length_drop, List.length_take]; rfl)) ?_; (with_reducible refine (laws_big.calls _ _ l0 false _ ?side1 ?side2 A2.out).mono ?_); (case side1 => repeat (first | exact HR0.out | (with_reducible refine Kd.C_alloc ?_ _) | (with_reducible refine Kd.C_drewN ?_ _) | (with_reducible refine Kd.C_drew ?_))); (case side2 => exact HC0.out); rintro e w' ⟨rfl, ⟨nd, rfl⟩⟩; refine ⟨_, rfl, ?_⟩) | ((with_reducible refine gate_callee (f := 27) rfl ?_); refine goesL_ (some 14) rfl rfl Try.func27 (by kernel_rfl) rfl #[.slice A0 l0.length c0, .int .i64 0] rfl (by (try simp only [List.map_toArray, List.map_cons, List.map_nil]); first | done | rfl | (simp only [List.length_drop, List.length_take]; rfl)) ?_; (with_reducible refine (laws_at.calls _ _ l0 0 t115 _ ?side1 ?side2 A4.out).mono ?_); (case side1 => repeat (first | exact HR0.out | (with_reducible refine Kd.C_alloc ?_ _) | (with_reducible refine Kd.C_drewN ?_ _) | (with_reducible refine Kd.C_drew ?_))); (case side2 => exact HC0.out); rintro e w' ⟨rfl, ⟨nd, rfl⟩⟩; refine ⟨_, rfl, ?_⟩) | ((with_reducible refine gate_callee (f := 27) rfl ?_); refine goesL_ (some 18) rfl rfl Try.func27 (by kernel_rfl) rfl #[.slice A0 l0.length c0, .int .i64 1] rfl (by (try simp only [List.map_toArray, List.map_cons, List.map_nil]); first | done | rfl | (simp only [List.length_drop, List.length_take]; rfl)) ?_; (with_reducible refine (laws_at.calls _ _ l0 1 t116 _ ?side1 ?side2 A5.out).mono ?_); (case side1 => repeat (first | exact HR0.out | (with_reducible refine Kd.C_alloc ?_ _) | (with_reducible refine Kd.C_drewN ?_ _) | (with_reducible refine Kd.C_drew ?_))); (case side2 => exact HC0.out); rintro e w' ⟨rfl, ⟨nd, rfl⟩⟩; refine ⟨_, rfl, ?_⟩) | ((with_reducible refine gate_callee (f := 27) rfl ?_); refine goesL_ (some 22) rfl rfl Try.func27 (by kernel_rfl) rfl #[.slice A0 l0.length c0, .int .i64 2] rfl (by (try simp only [List.map_toArray, List.map_cons, List.map_nil]); first | done | rfl | (simp only [List.length_drop, List.length_take]; rfl)) ?_; (with_reducible refine (laws_at.calls _ _ l0 2 t117 _ ?side1 ?side2 A6.out).mono ?_); (case side1 => repeat (first | exact HR0.out | (with_reducible refine Kd.C_alloc ?_ _) | (with_reducible refine Kd.C_drewN ?_ _) | (with_reducible refine Kd.C_drew ?_))); (case side2 => exact HC0.out); rintro e w' ⟨rfl, ⟨nd, rfl⟩⟩; refine ⟨_, rfl, ?_⟩) | ((with_reducible refine gate_dst (N := 3) rfl ?_); refine box_event ?hg (N := 3) ?hd (cs := #[.int .i64 0, .int .i64 0, .int .i64 0]) (t := 47) ?hr ?_; (case hd => rfl); (case hg => rfl); (case hr => first | (go_simp; done) | (go_simp; rfl)); intro gb118 hg w9 hbox hb; have n0_ := Aside0.mk (below_step (by repeat (first | (with_reducible first | exact HB.out | apply below_alloc | apply pw_below_drewN | apply below_drew1) | exact HB.out)) hb); have n1_ := Aside0.mk (hbox); have n2_ := Aside0.mk ((by rw [hg]; exact (below_size (by repeat (first | (with_reducible first | exact HB.out | apply below_alloc | apply pw_below_drewN | apply below_drew1) | exact HB.out))) : w.heap.size ≤ gb118)); have n3_ := Aside0.mk ((by rw [hg]; exact (below_size (by repeat (first | (with_reducible first | exact HB.out | apply below_alloc | apply pw_below_drewN | apply below_drew1) | exact HB.out))) : w.heap.size ≤ gb118)); clear HB; have HB := n0_; have BK118 := n1_; have GW118 := n2_; have GE118 := n3_; clear n0_ n1_ n2_ n3_; clear hb hbox hg; have hcz10_0 : w9.cell? ⟨gb118, 0, none⟩ = some (.int .i64 0) := (blk_cell BK118.out 0).trans rfl; have hcz10_1 : w9.cell? ⟨gb118, 1, none⟩ = some (.int .i64 0) := (blk_cell BK118.out 1).trans rfl; have hcz10_2 : w9.cell? ⟨gb118, 2, none⟩ = some (.int .i64 0) := (blk_cell BK118.out 2).trans rfl; have hfz10_0 := blk_frozen BK118.out 0; have hfz10_1 := blk_frozen BK118.out 1; have hfz10_2 := blk_frozen BK118.out 2) | ((with_reducible refine gate_callee (f := 28) rfl ?_); refine goesL_ (some 28) rfl rfl Try.func28 (by kernel_rfl) rfl #[.agg #[.int .i64 (wrap64 (1 + (Int.tmod t115 90))), .int .i64 (wrap64 (90 + (wrap64 (t116 * 4)))), .int .i64 (wrap64 (1 + (Int.tmod t117 100)))]] rfl (by (try simp only [List.map_toArray, List.map_cons, List.map_nil]); first | done | rfl | (simp only [List.length_drop, List.length_take]; rfl)) ?_; (with_reducible refine (impl_Flights.calls k (wrap64 (1 + (Int.tmod t115 90))) (wrap64 (90 + (wrap64 (t116 * 4)))) (wrap64 (1 + (Int.tmod t117 100))) t119 t120 _ A7.out).mono ?_); rintro e w11 ⟨rfl, hb⟩; refine ⟨_, rfl, ?_⟩; have n0_ := Aside0.mk (blk_below (g := gb118) (o := .cells #[.int .i64 (wrap64 (1 + (Int.tmod t115 90))), .int .i64 (wrap64 (90 + (wrap64 (t116 * 4)))), .int .i64 (wrap64 (1 + (Int.tmod t117 100)))] 47 (0, 0)) (by (with_reducible repeat (first | refine blk_drewN ?_ _ | refine blk_drew ?_ | refine blk_alloc ?_ _)); refine blk_put (cs := #[.int .i64 (wrap64 (1 + (Int.tmod t115 90))), .int .i64 (wrap64 (90 + (wrap64 (t116 * 4)))), .int .i64 0]) ?_ 2 _ rfl; (with_reducible repeat (first | refine blk_drewN ?_ _ | refine blk_drew ?_ | refine blk_alloc ?_ _)); refine blk_put (cs := #[.int .i64 (wrap64 (1 + (Int.tmod t115 90))), .int .i64 0, .int .i64 0]) ?_ 1 _ rfl; (with_reducible repeat (first | refine blk_drewN ?_ _ | refine blk_drew ?_ | refine blk_alloc ?_ _)); refine blk_put (cs := #[.int .i64 0, .int .i64 0, .int .i64 0]) ?_ 0 _ rfl; (with_reducible repeat (first | refine blk_drewN ?_ _ | refine blk_drew ?_ | refine blk_alloc ?_ _)); exact BK118.out) hb); have n1_ := Aside0.mk (below_step (by repeat (first | (with_reducible first | exact HB.out | apply below_alloc | apply pw_below_drewN | apply below_drew1 | refine below_set ?_ GE118.out) | exact HB.out)) hb); clear BK118; clear HB; have BK118 := n0_; have HB := n1_; clear n0_ n1_; (try clear hb); (try clear hb2); (try clear hk); (try clear hi)))
    (try simp only [Act.put, List.setIfInBounds_toArray, List.set_cons_zero, List.set_cons_succ])
    go_cut [36] (fun v36 wc => ∃ (kq : Nat) (x36_7 : Bool), v36 = .bool x36_7 ∧ Aside0 (laws_FnCracks.j0 kq l0 t119 x36_7 (wrap64 (1 + (Int.tmod t115 90))) (wrap64 (90 + (wrap64 (t116 * 4)))) (wrap64 (1 + (Int.tmod t117 100))) = some r) ∧ Aside0 (kq ≤ k) ∧ Aside0 (wc.heap[gb118]? = some (.cells #[.int .i64 (wrap64 (1 + (Int.tmod t115 90))), .int .i64 (wrap64 (90 + (wrap64 (t116 * 4)))), .int .i64 (wrap64 (1 + (Int.tmod t117 100)))] 47 (0, 0))) ∧ Aside0 (Below w.heap.size w wc))
    case first =>
      have H := HC8.out
      clear HC8
      by_cases c12 : t120 = true
      · subst c12
        have H1 : (laws_FnCracks.j0 k l0 t119 (decide (t119 < 1)) (wrap64 (1 + (Int.tmod t115 90))) (wrap64 (90 + (wrap64 (t116 * 4)))) (wrap64 (1 + (Int.tmod t117 100)))) = some r := by rw [if_pos rfl] at H; exact H
        clear H
        have H := H1
        clear H1
        have H' := Aside0.mk H
        clear H
        go_wp2
        go_meet
        case rel => exact ⟨_, (decide (t119 < 1)), (by first | rfl | (simp; done) | (simp [*]; done)), H', ⟨by first | omega | exact Nat.le_refl _⟩, ⟨by (with_reducible repeat (first | refine blk_drewN ?_ _ | refine blk_drew ?_ | refine blk_alloc ?_ _)); exact BK118.out⟩, ⟨by repeat (first | (with_reducible first | exact HB.out | apply below_alloc | apply pw_below_drewN | apply below_drew1 | refine below_set ?_ GE118.out) | exact HB.out)⟩⟩
      · replace c12 := Bool.eq_false_iff.mpr c12
        subst c12
        have H1 : (laws_FnCracks.j0 k l0 t119 true (wrap64 (1 + (Int.tmod t115 90))) (wrap64 (90 + (wrap64 (t116 * 4)))) (wrap64 (1 + (Int.tmod t117 100)))) = some r := by rw [if_neg (show ¬ (false = true) by decide)] at H; exact H
        clear H
        have H := H1
        clear H1
        have H' := Aside0.mk H
        clear H
        go_wp2
        go_meet
        case rel => exact ⟨_, (true), (by first | rfl | (simp; done) | (simp [*]; done)), H', ⟨by first | omega | exact Nat.le_refl _⟩, ⟨by (with_reducible repeat (first | refine blk_drewN ?_ _ | refine blk_drew ?_ | refine blk_alloc ?_ _)); exact BK118.out⟩, ⟨by repeat (first | (with_reducible first | exact HB.out | apply below_alloc | apply pw_below_drewN | apply below_drew1 | refine below_set ?_ GE118.out) | exact HB.out)⟩⟩
    case rest =>
      clear HC8
      try clear c1
      try clear c2
      try clear p2
      try clear c3
      try clear c6
      try clear p6
      try clear c12
      try clear hcz10_0
      try clear hcz10_1
      try clear hcz10_2
      try clear hfz10_0
      try clear hfz10_1
      try clear hfz10_2
      obtain ⟨kq, x36_7, rfl, HA, HJ7, BK118, HB⟩ := hcut
      cases kq with
      | zero => exact absurd HA.out (by simp [laws_FnCracks.j0])
      | succ kj7 =>
        have H := HA.out
        clear HA
        simp only [laws_FnCracks.j0] at H
        by_cases c13 : x36_7 = true
        · subst c13
          have H1 : (some false) = some r := by rw [if_pos rfl] at H; exact H
          clear H
          have H := H1
          clear H1
          obtain rfl := Option.some.inj H
          go_wp2
          go_ret
          exact ⟨by first | rfl | (simp [errW_none, errW_some] <;> rfl) | (simp [*, errW_none, errW_some] <;> rfl), by repeat (first | (with_reducible first | exact HB.out | apply below_alloc | apply pw_below_drewN | apply below_drew1 | refine below_set ?_ GE118.out) | exact HB.out)⟩
        · replace c13 := Bool.eq_false_iff.mpr c13
          subst c13
          have H1 : (laws_FnCracks.l0 kj7 l0 t119 (wrap64 (1 + (Int.tmod t115 90))) 0 (wrap64 (1 + (Int.tmod t115 90))) (wrap64 (90 + (wrap64 (t116 * 4)))) (wrap64 (1 + (Int.tmod t117 100)))) = some r := by rw [if_neg (show ¬ (false = true) by decide)] at H; exact H
          clear H
          have H := H1
          clear H1
          have H' := Aside0.mk H
          clear H
          have hcz14_0 : wc.cell? ⟨gb118, 0, none⟩ = some (.int .i64 (wrap64 (1 + (Int.tmod t115 90)))) := (blk_cell BK118.out 0).trans rfl
          have hcz14_1 : wc.cell? ⟨gb118, 1, none⟩ = some (.int .i64 (wrap64 (90 + (wrap64 (t116 * 4))))) := (blk_cell BK118.out 1).trans rfl
          have hcz14_2 : wc.cell? ⟨gb118, 2, none⟩ = some (.int .i64 (wrap64 (1 + (Int.tmod t117 100)))) := (blk_cell BK118.out 2).trans rfl
          have hfz14_0 := blk_frozen BK118.out 0
          have hfz14_1 := blk_frozen BK118.out 1
          have hfz14_2 := blk_frozen BK118.out 2
          go_wp2
          go_loopg [6, 7] kj7 (fun kq v6 v7 w' => ∃ (x6_2 : Int) (x7_2 : Int), v6 = .int .i64 x6_2 ∧ v7 = .int .i64 x7_2 ∧ Aside0 (laws_FnCracks.l0 kq l0 t119 x6_2 x7_2 (wrap64 (1 + (Int.tmod t115 90))) (wrap64 (90 + (wrap64 (t116 * 4)))) (wrap64 (1 + (Int.tmod t117 100))) = some r) ∧ Aside0 (kq ≤ kj7) ∧ Aside0 (w'.heap[gb118]? = some (.cells #[.int .i64 (wrap64 (1 + (Int.tmod t115 90))), .int .i64 (wrap64 (90 + (wrap64 (t116 * 4)))), .int .i64 (wrap64 (1 + (Int.tmod t117 100)))] 47 (0, 0))) ∧ Aside0 (Below w.heap.size w w'))
          case atStart => exact ⟨((wrap64 (1 + (Int.tmod t115 90)))), (0), (by first | rfl | (simp; done) | (simp [*]; done)), (by first | rfl | (simp; done) | (simp [*]; done)), H', ⟨Nat.le_refl _⟩, ⟨by (with_reducible repeat (first | refine blk_drewN ?_ _ | refine blk_drew ?_ | refine blk_alloc ?_ _)); exact BK118.out⟩, ⟨by repeat (first | (with_reducible first | exact HB.out | apply below_alloc | apply pw_below_drewN | apply below_drew1 | refine below_set ?_ GE118.out) | exact HB.out)⟩⟩
          case round =>
            clear H'
            try clear c1
            try clear c2
            try clear p2
            try clear c3
            try clear c6
            try clear p6
            try clear c12
            try clear c13
            try clear hcz10_0
            try clear hcz10_1
            try clear hcz10_2
            try clear hcz14_0
            try clear hcz14_1
            try clear hcz14_2
            try clear hfz10_0
            try clear hfz10_1
            try clear hfz10_2
            try clear hfz14_0
            try clear hfz14_1
            try clear hfz14_2
            try clear p2
            try clear p6
            obtain ⟨x6_2, x7_2, rfl, rfl, HA, HK2, BK118, HB⟩ := hrel
            cases gk with
            | zero => exact absurd HA.out (by simp [laws_FnCracks.l0])
            | succ k2 =>
              have H := HA.out
              clear HA
              simp only [laws_FnCracks.l0] at H
              by_cases c15 : x7_2 < t119
              · rw [if_pos c15] at H
                have c15b0 : decide (x7_2 < t119) = true := decide_eq_true c15
                clear c15
                by_cases c16 : x6_2 > (wrap64 (90 + (wrap64 (t116 * 4))))
                · rw [if_pos c16] at H
                  have c16b0 : decide ((wrap64 (90 + (wrap64 (t116 * 4)))) < x6_2) = true := decide_eq_true c16
                  clear c16
                  obtain rfl := Option.some.inj H
                  have hcz17_0 : wr.cell? ⟨gb118, 0, none⟩ = some (.int .i64 (wrap64 (1 + (Int.tmod t115 90)))) := (blk_cell BK118.out 0).trans rfl
                  have hcz17_1 : wr.cell? ⟨gb118, 1, none⟩ = some (.int .i64 (wrap64 (90 + (wrap64 (t116 * 4))))) := (blk_cell BK118.out 1).trans rfl
                  have hcz17_2 : wr.cell? ⟨gb118, 2, none⟩ = some (.int .i64 (wrap64 (1 + (Int.tmod t117 100)))) := (blk_cell BK118.out 2).trans rfl
                  have hfz17_0 := blk_frozen BK118.out 0
                  have hfz17_1 := blk_frozen BK118.out 1
                  have hfz17_2 := blk_frozen BK118.out 2
                  go_wp2
                  go_ret
                  exact ⟨by first | rfl | (simp [errW_none, errW_some] <;> rfl) | (simp [*, errW_none, errW_some] <;> rfl), by repeat (first | (with_reducible first | exact HB.out | apply below_alloc | apply pw_below_drewN | apply below_drew1 | refine below_set ?_ GE118.out) | exact HB.out)⟩
                · rw [if_neg c16] at H
                  have c16b0 : decide ((wrap64 (90 + (wrap64 (t116 * 4)))) < x6_2) = false := decide_eq_false c16
                  clear c16
                  have H' := Aside0.mk H
                  clear H
                  have hcz18_0 : wr.cell? ⟨gb118, 0, none⟩ = some (.int .i64 (wrap64 (1 + (Int.tmod t115 90)))) := (blk_cell BK118.out 0).trans rfl
                  have hcz18_1 : wr.cell? ⟨gb118, 1, none⟩ = some (.int .i64 (wrap64 (90 + (wrap64 (t116 * 4))))) := (blk_cell BK118.out 1).trans rfl
                  have hcz18_2 : wr.cell? ⟨gb118, 2, none⟩ = some (.int .i64 (wrap64 (1 + (Int.tmod t117 100)))) := (blk_cell BK118.out 2).trans rfl
                  have hfz18_0 := blk_frozen BK118.out 0
                  have hfz18_1 := blk_frozen BK118.out 1
                  have hfz18_2 := blk_frozen BK118.out 2
                  go_wp2
                  go_roundg k2
                  case measure => have := HJ7.out; have := HK2.out; omega
                  case rel => exact ⟨(wrap64 (x6_2 + (wrap64 (Int.tdiv (wrap64 ((wrap64 (x6_2 * (wrap64 (1 + (Int.tmod t117 100))))) + 999)) 1000)))), (wrap64 (x7_2 + 1)), (by first | rfl | (simp; done) | (simp [*]; done)), (by first | rfl | (simp; done) | (simp [*]; done)), H', ⟨by have := HJ7.out; have := HK2.out; omega⟩, ⟨by (with_reducible repeat (first | refine blk_drewN ?_ _ | refine blk_drew ?_ | refine blk_alloc ?_ _)); exact BK118.out⟩, ⟨by repeat (first | (with_reducible first | exact HB.out | apply below_alloc | apply pw_below_drewN | apply below_drew1 | refine below_set ?_ GE118.out) | exact HB.out)⟩⟩
              · rw [if_neg c15] at H
                have c15b0 : decide (x7_2 < t119) = false := decide_eq_false c15
                clear c15
                replace H := Option.bind_eq_some_iff.mp H
                obtain ⟨t121, A190, H⟩ := H
                replace H : ((impl_Inspect.f k2 (wrap64 (1 + (Int.tmod t115 90))) (wrap64 (90 + (wrap64 (t116 * 4)))) (wrap64 (1 + (Int.tmod t117 100))) (wrap64 (1 + (Int.tmod t115 90))) (wrap64 (1 + (Int.tmod t121 5)))).bind fun bt122 => (if bt122.2 = true then (if x6_2 > (wrap64 (90 + (wrap64 (t116 * 4)))) then (if bt122.1 > 0 then (some (decide ((wrap64 (bt122.1 * (wrap64 (1 + (Int.tmod t121 5))))) < t119))) else (some false)) else (some false)) else (if x6_2 > (wrap64 (90 + (wrap64 (t116 * 4)))) then (some (decide ((wrap64 (t119 - 1)) < (wrap64 (1 + (Int.tmod t121 5)))))) else (some false)))) = some r := H
                have A19 := Aside0.mk A190
                clear A190
                replace H := Option.bind_eq_some_iff.mp H
                obtain ⟨⟨t122, t123⟩, A200, H⟩ := H
                replace H : (if t123 = true then (if x6_2 > (wrap64 (90 + (wrap64 (t116 * 4)))) then (if t122 > 0 then (some (decide ((wrap64 (t122 * (wrap64 (1 + (Int.tmod t121 5))))) < t119))) else (some false)) else (some false)) else (if x6_2 > (wrap64 (90 + (wrap64 (t116 * 4)))) then (some (decide ((wrap64 (t119 - 1)) < (wrap64 (1 + (Int.tmod t121 5)))))) else (some false))) = some r := H
                have A20 := Aside0.mk A200
                clear A200
                by_cases c21 : t123 = true
                · subst c21
                  have H1 : (if x6_2 > (wrap64 (90 + (wrap64 (t116 * 4)))) then (if t122 > 0 then (some (decide ((wrap64 (t122 * (wrap64 (1 + (Int.tmod t121 5))))) < t119))) else (some false)) else (some false)) = some r := by rw [if_pos rfl] at H; exact H
                  clear H
                  have H := H1
                  clear H1
                  by_cases c22 : x6_2 > (wrap64 (90 + (wrap64 (t116 * 4))))
                  · rw [if_pos c22] at H
                    have c22b0 : decide ((wrap64 (90 + (wrap64 (t116 * 4)))) < x6_2) = true := decide_eq_true c22
                    clear c22
                    by_cases c23 : t122 > 0
                    · rw [if_pos c23] at H
                      have c23b0 : decide (0 < t122) = true := decide_eq_true c23
                      clear c23
                      obtain rfl := Option.some.inj H
                      go_wp2_with (first | ((with_reducible refine gate_callee (f := 27) rfl ?_); refine goesL_ (some 57) rfl rfl Try.func27 (by kernel_rfl) rfl #[.slice A0 l0.length c0, .int .i64 3] rfl (by (try simp only [List.map_toArray, List.map_cons, List.map_nil]); first | done | rfl | (simp only [List.length_drop, List.length_take]; rfl)) ?_; (with_reducible refine (laws_at.calls _ _ l0 3 t121 _ ?side1 ?side2 A19.out).mono ?_); (case side1 => repeat (first | exact (Kd.C_below HR0.out HB.out) | (with_reducible refine Kd.C_alloc ?_ _) | (with_reducible refine Kd.C_drewN ?_ _) | (with_reducible refine Kd.C_drew ?_))); (case side2 => exact HC0.out); rintro e w' ⟨rfl, ⟨nd, rfl⟩⟩; refine ⟨_, rfl, ?_⟩; have hcz24_0 : wr.cell? ⟨gb118, 0, none⟩ = some (.int .i64 (wrap64 (1 + (Int.tmod t115 90)))) := (blk_cell BK118.out 0).trans rfl; have hcz24_1 : wr.cell? ⟨gb118, 1, none⟩ = some (.int .i64 (wrap64 (90 + (wrap64 (t116 * 4))))) := (blk_cell BK118.out 1).trans rfl; have hcz24_2 : wr.cell? ⟨gb118, 2, none⟩ = some (.int .i64 (wrap64 (1 + (Int.tmod t117 100)))) := (blk_cell BK118.out 2).trans rfl; have hfz24_0 := blk_frozen BK118.out 0; have hfz24_1 := blk_frozen BK118.out 1; have hfz24_2 := blk_frozen BK118.out 2) | ((with_reducible refine gate_callee (f := 29) rfl ?_); refine goesL_ (some 65) rfl rfl Try.func29 (by kernel_rfl) rfl #[.agg #[.int .i64 (wrap64 (1 + (Int.tmod t115 90))), .int .i64 (wrap64 (90 + (wrap64 (t116 * 4)))), .int .i64 (wrap64 (1 + (Int.tmod t117 100)))], .int .i64 (wrap64 (1 + (Int.tmod t115 90))), .int .i64 (wrap64 (1 + (Int.tmod t121 5)))] rfl (by (try simp only [List.map_toArray, List.map_cons, List.map_nil]); first | done | rfl | (simp only [List.length_drop, List.length_take]; rfl)) ?_; (with_reducible refine (impl_Inspect.calls k2 (wrap64 (1 + (Int.tmod t115 90))) (wrap64 (90 + (wrap64 (t116 * 4)))) (wrap64 (1 + (Int.tmod t117 100))) (wrap64 (1 + (Int.tmod t115 90))) (wrap64 (1 + (Int.tmod t121 5))) t122 true _ A20.out).mono ?_); rintro e w25 ⟨rfl, hb⟩; refine ⟨_, rfl, ?_⟩; have n0_ := Aside0.mk (blk_below (g := gb118) (o := .cells #[.int .i64 (wrap64 (1 + (Int.tmod t115 90))), .int .i64 (wrap64 (90 + (wrap64 (t116 * 4)))), .int .i64 (wrap64 (1 + (Int.tmod t117 100)))] 47 (0, 0)) (by (with_reducible repeat (first | refine blk_drewN ?_ _ | refine blk_drew ?_ | refine blk_alloc ?_ _)); exact BK118.out) hb); have n1_ := Aside0.mk (below_step (by repeat (first | (with_reducible first | exact HB.out | apply below_alloc | apply pw_below_drewN | apply below_drew1 | refine below_set ?_ GE118.out) | exact HB.out)) hb); clear BK118; clear HB; have BK118 := n0_; have HB := n1_; clear n0_ n1_; (try clear hb); (try clear hb2); (try clear hk); (try clear hi); have hcz26_0 : w25.cell? ⟨gb118, 0, none⟩ = some (.int .i64 (wrap64 (1 + (Int.tmod t115 90)))) := (blk_cell BK118.out 0).trans rfl; have hcz26_1 : w25.cell? ⟨gb118, 1, none⟩ = some (.int .i64 (wrap64 (90 + (wrap64 (t116 * 4))))) := (blk_cell BK118.out 1).trans rfl; have hcz26_2 : w25.cell? ⟨gb118, 2, none⟩ = some (.int .i64 (wrap64 (1 + (Int.tmod t117 100)))) := (blk_cell BK118.out 2).trans rfl; have hfz26_0 := blk_frozen BK118.out 0; have hfz26_1 := blk_frozen BK118.out 1; have hfz26_2 := blk_frozen BK118.out 2))
                      go_ret
                      exact ⟨by first | rfl | (simp [errW_none, errW_some] <;> rfl) | (simp [*, errW_none, errW_some] <;> rfl), by repeat (first | (with_reducible first | exact HB.out | apply below_alloc | apply pw_below_drewN | apply below_drew1 | refine below_set ?_ GE118.out) | exact HB.out)⟩
                    · rw [if_neg c23] at H
                      have c23b0 : decide (0 < t122) = false := decide_eq_false c23
                      clear c23
                      obtain rfl := Option.some.inj H
                      go_wp2_with (first | ((with_reducible refine gate_callee (f := 27) rfl ?_); refine goesL_ (some 57) rfl rfl Try.func27 (by kernel_rfl) rfl #[.slice A0 l0.length c0, .int .i64 3] rfl (by (try simp only [List.map_toArray, List.map_cons, List.map_nil]); first | done | rfl | (simp only [List.length_drop, List.length_take]; rfl)) ?_; (with_reducible refine (laws_at.calls _ _ l0 3 t121 _ ?side1 ?side2 A19.out).mono ?_); (case side1 => repeat (first | exact (Kd.C_below HR0.out HB.out) | (with_reducible refine Kd.C_alloc ?_ _) | (with_reducible refine Kd.C_drewN ?_ _) | (with_reducible refine Kd.C_drew ?_))); (case side2 => exact HC0.out); rintro e w' ⟨rfl, ⟨nd, rfl⟩⟩; refine ⟨_, rfl, ?_⟩; have hcz27_0 : wr.cell? ⟨gb118, 0, none⟩ = some (.int .i64 (wrap64 (1 + (Int.tmod t115 90)))) := (blk_cell BK118.out 0).trans rfl; have hcz27_1 : wr.cell? ⟨gb118, 1, none⟩ = some (.int .i64 (wrap64 (90 + (wrap64 (t116 * 4))))) := (blk_cell BK118.out 1).trans rfl; have hcz27_2 : wr.cell? ⟨gb118, 2, none⟩ = some (.int .i64 (wrap64 (1 + (Int.tmod t117 100)))) := (blk_cell BK118.out 2).trans rfl; have hfz27_0 := blk_frozen BK118.out 0; have hfz27_1 := blk_frozen BK118.out 1; have hfz27_2 := blk_frozen BK118.out 2) | ((with_reducible refine gate_callee (f := 29) rfl ?_); refine goesL_ (some 65) rfl rfl Try.func29 (by kernel_rfl) rfl #[.agg #[.int .i64 (wrap64 (1 + (Int.tmod t115 90))), .int .i64 (wrap64 (90 + (wrap64 (t116 * 4)))), .int .i64 (wrap64 (1 + (Int.tmod t117 100)))], .int .i64 (wrap64 (1 + (Int.tmod t115 90))), .int .i64 (wrap64 (1 + (Int.tmod t121 5)))] rfl (by (try simp only [List.map_toArray, List.map_cons, List.map_nil]); first | done | rfl | (simp only [List.length_drop, List.length_take]; rfl)) ?_; (with_reducible refine (impl_Inspect.calls k2 (wrap64 (1 + (Int.tmod t115 90))) (wrap64 (90 + (wrap64 (t116 * 4)))) (wrap64 (1 + (Int.tmod t117 100))) (wrap64 (1 + (Int.tmod t115 90))) (wrap64 (1 + (Int.tmod t121 5))) t122 true _ A20.out).mono ?_); rintro e w28 ⟨rfl, hb⟩; refine ⟨_, rfl, ?_⟩; have n0_ := Aside0.mk (blk_below (g := gb118) (o := .cells #[.int .i64 (wrap64 (1 + (Int.tmod t115 90))), .int .i64 (wrap64 (90 + (wrap64 (t116 * 4)))), .int .i64 (wrap64 (1 + (Int.tmod t117 100)))] 47 (0, 0)) (by (with_reducible repeat (first | refine blk_drewN ?_ _ | refine blk_drew ?_ | refine blk_alloc ?_ _)); exact BK118.out) hb); have n1_ := Aside0.mk (below_step (by repeat (first | (with_reducible first | exact HB.out | apply below_alloc | apply pw_below_drewN | apply below_drew1 | refine below_set ?_ GE118.out) | exact HB.out)) hb); clear BK118; clear HB; have BK118 := n0_; have HB := n1_; clear n0_ n1_; (try clear hb); (try clear hb2); (try clear hk); (try clear hi); have hcz29_0 : w28.cell? ⟨gb118, 0, none⟩ = some (.int .i64 (wrap64 (1 + (Int.tmod t115 90)))) := (blk_cell BK118.out 0).trans rfl; have hcz29_1 : w28.cell? ⟨gb118, 1, none⟩ = some (.int .i64 (wrap64 (90 + (wrap64 (t116 * 4))))) := (blk_cell BK118.out 1).trans rfl; have hcz29_2 : w28.cell? ⟨gb118, 2, none⟩ = some (.int .i64 (wrap64 (1 + (Int.tmod t117 100)))) := (blk_cell BK118.out 2).trans rfl; have hfz29_0 := blk_frozen BK118.out 0; have hfz29_1 := blk_frozen BK118.out 1; have hfz29_2 := blk_frozen BK118.out 2))
                      go_ret
                      exact ⟨by first | rfl | (simp [errW_none, errW_some] <;> rfl) | (simp [*, errW_none, errW_some] <;> rfl), by repeat (first | (with_reducible first | exact HB.out | apply below_alloc | apply pw_below_drewN | apply below_drew1 | refine below_set ?_ GE118.out) | exact HB.out)⟩
                  · rw [if_neg c22] at H
                    have c22b0 : decide ((wrap64 (90 + (wrap64 (t116 * 4)))) < x6_2) = false := decide_eq_false c22
                    clear c22
                    obtain rfl := Option.some.inj H
                    go_wp2_with (first | ((with_reducible refine gate_callee (f := 27) rfl ?_); refine goesL_ (some 57) rfl rfl Try.func27 (by kernel_rfl) rfl #[.slice A0 l0.length c0, .int .i64 3] rfl (by (try simp only [List.map_toArray, List.map_cons, List.map_nil]); first | done | rfl | (simp only [List.length_drop, List.length_take]; rfl)) ?_; (with_reducible refine (laws_at.calls _ _ l0 3 t121 _ ?side1 ?side2 A19.out).mono ?_); (case side1 => repeat (first | exact (Kd.C_below HR0.out HB.out) | (with_reducible refine Kd.C_alloc ?_ _) | (with_reducible refine Kd.C_drewN ?_ _) | (with_reducible refine Kd.C_drew ?_))); (case side2 => exact HC0.out); rintro e w' ⟨rfl, ⟨nd, rfl⟩⟩; refine ⟨_, rfl, ?_⟩; have hcz30_0 : wr.cell? ⟨gb118, 0, none⟩ = some (.int .i64 (wrap64 (1 + (Int.tmod t115 90)))) := (blk_cell BK118.out 0).trans rfl; have hcz30_1 : wr.cell? ⟨gb118, 1, none⟩ = some (.int .i64 (wrap64 (90 + (wrap64 (t116 * 4))))) := (blk_cell BK118.out 1).trans rfl; have hcz30_2 : wr.cell? ⟨gb118, 2, none⟩ = some (.int .i64 (wrap64 (1 + (Int.tmod t117 100)))) := (blk_cell BK118.out 2).trans rfl; have hfz30_0 := blk_frozen BK118.out 0; have hfz30_1 := blk_frozen BK118.out 1; have hfz30_2 := blk_frozen BK118.out 2) | ((with_reducible refine gate_callee (f := 29) rfl ?_); refine goesL_ (some 65) rfl rfl Try.func29 (by kernel_rfl) rfl #[.agg #[.int .i64 (wrap64 (1 + (Int.tmod t115 90))), .int .i64 (wrap64 (90 + (wrap64 (t116 * 4)))), .int .i64 (wrap64 (1 + (Int.tmod t117 100)))], .int .i64 (wrap64 (1 + (Int.tmod t115 90))), .int .i64 (wrap64 (1 + (Int.tmod t121 5)))] rfl (by (try simp only [List.map_toArray, List.map_cons, List.map_nil]); first | done | rfl | (simp only [List.length_drop, List.length_take]; rfl)) ?_; (with_reducible refine (impl_Inspect.calls k2 (wrap64 (1 + (Int.tmod t115 90))) (wrap64 (90 + (wrap64 (t116 * 4)))) (wrap64 (1 + (Int.tmod t117 100))) (wrap64 (1 + (Int.tmod t115 90))) (wrap64 (1 + (Int.tmod t121 5))) t122 true _ A20.out).mono ?_); rintro e w31 ⟨rfl, hb⟩; refine ⟨_, rfl, ?_⟩; have n0_ := Aside0.mk (blk_below (g := gb118) (o := .cells #[.int .i64 (wrap64 (1 + (Int.tmod t115 90))), .int .i64 (wrap64 (90 + (wrap64 (t116 * 4)))), .int .i64 (wrap64 (1 + (Int.tmod t117 100)))] 47 (0, 0)) (by (with_reducible repeat (first | refine blk_drewN ?_ _ | refine blk_drew ?_ | refine blk_alloc ?_ _)); exact BK118.out) hb); have n1_ := Aside0.mk (below_step (by repeat (first | (with_reducible first | exact HB.out | apply below_alloc | apply pw_below_drewN | apply below_drew1 | refine below_set ?_ GE118.out) | exact HB.out)) hb); clear BK118; clear HB; have BK118 := n0_; have HB := n1_; clear n0_ n1_; (try clear hb); (try clear hb2); (try clear hk); (try clear hi); have hcz32_0 : w31.cell? ⟨gb118, 0, none⟩ = some (.int .i64 (wrap64 (1 + (Int.tmod t115 90)))) := (blk_cell BK118.out 0).trans rfl; have hcz32_1 : w31.cell? ⟨gb118, 1, none⟩ = some (.int .i64 (wrap64 (90 + (wrap64 (t116 * 4))))) := (blk_cell BK118.out 1).trans rfl; have hcz32_2 : w31.cell? ⟨gb118, 2, none⟩ = some (.int .i64 (wrap64 (1 + (Int.tmod t117 100)))) := (blk_cell BK118.out 2).trans rfl; have hfz32_0 := blk_frozen BK118.out 0; have hfz32_1 := blk_frozen BK118.out 1; have hfz32_2 := blk_frozen BK118.out 2))
                    go_ret
                    exact ⟨by first | rfl | (simp [errW_none, errW_some] <;> rfl) | (simp [*, errW_none, errW_some] <;> rfl), by repeat (first | (with_reducible first | exact HB.out | apply below_alloc | apply pw_below_drewN | apply below_drew1 | refine below_set ?_ GE118.out) | exact HB.out)⟩
                · replace c21 := Bool.eq_false_iff.mpr c21
                  subst c21
                  have H1 : (if x6_2 > (wrap64 (90 + (wrap64 (t116 * 4)))) then (some (decide ((wrap64 (t119 - 1)) < (wrap64 (1 + (Int.tmod t121 5)))))) else (some false)) = some r := by rw [if_neg (show ¬ (false = true) by decide)] at H; exact H
                  clear H
                  have H := H1
                  clear H1
                  by_cases c33 : x6_2 > (wrap64 (90 + (wrap64 (t116 * 4))))
                  · rw [if_pos c33] at H
                    have c33b0 : decide ((wrap64 (90 + (wrap64 (t116 * 4)))) < x6_2) = true := decide_eq_true c33
                    clear c33
                    obtain rfl := Option.some.inj H
                    go_wp2_with (first | ((with_reducible refine gate_callee (f := 27) rfl ?_); refine goesL_ (some 57) rfl rfl Try.func27 (by kernel_rfl) rfl #[.slice A0 l0.length c0, .int .i64 3] rfl (by (try simp only [List.map_toArray, List.map_cons, List.map_nil]); first | done | rfl | (simp only [List.length_drop, List.length_take]; rfl)) ?_; (with_reducible refine (laws_at.calls _ _ l0 3 t121 _ ?side1 ?side2 A19.out).mono ?_); (case side1 => repeat (first | exact (Kd.C_below HR0.out HB.out) | (with_reducible refine Kd.C_alloc ?_ _) | (with_reducible refine Kd.C_drewN ?_ _) | (with_reducible refine Kd.C_drew ?_))); (case side2 => exact HC0.out); rintro e w' ⟨rfl, ⟨nd, rfl⟩⟩; refine ⟨_, rfl, ?_⟩; have hcz34_0 : wr.cell? ⟨gb118, 0, none⟩ = some (.int .i64 (wrap64 (1 + (Int.tmod t115 90)))) := (blk_cell BK118.out 0).trans rfl; have hcz34_1 : wr.cell? ⟨gb118, 1, none⟩ = some (.int .i64 (wrap64 (90 + (wrap64 (t116 * 4))))) := (blk_cell BK118.out 1).trans rfl; have hcz34_2 : wr.cell? ⟨gb118, 2, none⟩ = some (.int .i64 (wrap64 (1 + (Int.tmod t117 100)))) := (blk_cell BK118.out 2).trans rfl; have hfz34_0 := blk_frozen BK118.out 0; have hfz34_1 := blk_frozen BK118.out 1; have hfz34_2 := blk_frozen BK118.out 2) | ((with_reducible refine gate_callee (f := 29) rfl ?_); refine goesL_ (some 65) rfl rfl Try.func29 (by kernel_rfl) rfl #[.agg #[.int .i64 (wrap64 (1 + (Int.tmod t115 90))), .int .i64 (wrap64 (90 + (wrap64 (t116 * 4)))), .int .i64 (wrap64 (1 + (Int.tmod t117 100)))], .int .i64 (wrap64 (1 + (Int.tmod t115 90))), .int .i64 (wrap64 (1 + (Int.tmod t121 5)))] rfl (by (try simp only [List.map_toArray, List.map_cons, List.map_nil]); first | done | rfl | (simp only [List.length_drop, List.length_take]; rfl)) ?_; (with_reducible refine (impl_Inspect.calls k2 (wrap64 (1 + (Int.tmod t115 90))) (wrap64 (90 + (wrap64 (t116 * 4)))) (wrap64 (1 + (Int.tmod t117 100))) (wrap64 (1 + (Int.tmod t115 90))) (wrap64 (1 + (Int.tmod t121 5))) t122 false _ A20.out).mono ?_); rintro e w35 ⟨rfl, hb⟩; refine ⟨_, rfl, ?_⟩; have n0_ := Aside0.mk (blk_below (g := gb118) (o := .cells #[.int .i64 (wrap64 (1 + (Int.tmod t115 90))), .int .i64 (wrap64 (90 + (wrap64 (t116 * 4)))), .int .i64 (wrap64 (1 + (Int.tmod t117 100)))] 47 (0, 0)) (by (with_reducible repeat (first | refine blk_drewN ?_ _ | refine blk_drew ?_ | refine blk_alloc ?_ _)); exact BK118.out) hb); have n1_ := Aside0.mk (below_step (by repeat (first | (with_reducible first | exact HB.out | apply below_alloc | apply pw_below_drewN | apply below_drew1 | refine below_set ?_ GE118.out) | exact HB.out)) hb); clear BK118; clear HB; have BK118 := n0_; have HB := n1_; clear n0_ n1_; (try clear hb); (try clear hb2); (try clear hk); (try clear hi); have hcz36_0 : w35.cell? ⟨gb118, 0, none⟩ = some (.int .i64 (wrap64 (1 + (Int.tmod t115 90)))) := (blk_cell BK118.out 0).trans rfl; have hcz36_1 : w35.cell? ⟨gb118, 1, none⟩ = some (.int .i64 (wrap64 (90 + (wrap64 (t116 * 4))))) := (blk_cell BK118.out 1).trans rfl; have hcz36_2 : w35.cell? ⟨gb118, 2, none⟩ = some (.int .i64 (wrap64 (1 + (Int.tmod t117 100)))) := (blk_cell BK118.out 2).trans rfl; have hfz36_0 := blk_frozen BK118.out 0; have hfz36_1 := blk_frozen BK118.out 1; have hfz36_2 := blk_frozen BK118.out 2))
                    go_ret
                    exact ⟨by first | rfl | (simp [errW_none, errW_some] <;> rfl) | (simp [*, errW_none, errW_some] <;> rfl), by repeat (first | (with_reducible first | exact HB.out | apply below_alloc | apply pw_below_drewN | apply below_drew1 | refine below_set ?_ GE118.out) | exact HB.out)⟩
                  · rw [if_neg c33] at H
                    have c33b0 : decide ((wrap64 (90 + (wrap64 (t116 * 4)))) < x6_2) = false := decide_eq_false c33
                    clear c33
                    obtain rfl := Option.some.inj H
                    go_wp2_with (first | ((with_reducible refine gate_callee (f := 27) rfl ?_); refine goesL_ (some 57) rfl rfl Try.func27 (by kernel_rfl) rfl #[.slice A0 l0.length c0, .int .i64 3] rfl (by (try simp only [List.map_toArray, List.map_cons, List.map_nil]); first | done | rfl | (simp only [List.length_drop, List.length_take]; rfl)) ?_; (with_reducible refine (laws_at.calls _ _ l0 3 t121 _ ?side1 ?side2 A19.out).mono ?_); (case side1 => repeat (first | exact (Kd.C_below HR0.out HB.out) | (with_reducible refine Kd.C_alloc ?_ _) | (with_reducible refine Kd.C_drewN ?_ _) | (with_reducible refine Kd.C_drew ?_))); (case side2 => exact HC0.out); rintro e w' ⟨rfl, ⟨nd, rfl⟩⟩; refine ⟨_, rfl, ?_⟩; have hcz37_0 : wr.cell? ⟨gb118, 0, none⟩ = some (.int .i64 (wrap64 (1 + (Int.tmod t115 90)))) := (blk_cell BK118.out 0).trans rfl; have hcz37_1 : wr.cell? ⟨gb118, 1, none⟩ = some (.int .i64 (wrap64 (90 + (wrap64 (t116 * 4))))) := (blk_cell BK118.out 1).trans rfl; have hcz37_2 : wr.cell? ⟨gb118, 2, none⟩ = some (.int .i64 (wrap64 (1 + (Int.tmod t117 100)))) := (blk_cell BK118.out 2).trans rfl; have hfz37_0 := blk_frozen BK118.out 0; have hfz37_1 := blk_frozen BK118.out 1; have hfz37_2 := blk_frozen BK118.out 2) | ((with_reducible refine gate_callee (f := 29) rfl ?_); refine goesL_ (some 65) rfl rfl Try.func29 (by kernel_rfl) rfl #[.agg #[.int .i64 (wrap64 (1 + (Int.tmod t115 90))), .int .i64 (wrap64 (90 + (wrap64 (t116 * 4)))), .int .i64 (wrap64 (1 + (Int.tmod t117 100)))], .int .i64 (wrap64 (1 + (Int.tmod t115 90))), .int .i64 (wrap64 (1 + (Int.tmod t121 5)))] rfl (by (try simp only [List.map_toArray, List.map_cons, List.map_nil]); first | done | rfl | (simp only [List.length_drop, List.length_take]; rfl)) ?_; (with_reducible refine (impl_Inspect.calls k2 (wrap64 (1 + (Int.tmod t115 90))) (wrap64 (90 + (wrap64 (t116 * 4)))) (wrap64 (1 + (Int.tmod t117 100))) (wrap64 (1 + (Int.tmod t115 90))) (wrap64 (1 + (Int.tmod t121 5))) t122 false _ A20.out).mono ?_); rintro e w38 ⟨rfl, hb⟩; refine ⟨_, rfl, ?_⟩; have n0_ := Aside0.mk (blk_below (g := gb118) (o := .cells #[.int .i64 (wrap64 (1 + (Int.tmod t115 90))), .int .i64 (wrap64 (90 + (wrap64 (t116 * 4)))), .int .i64 (wrap64 (1 + (Int.tmod t117 100)))] 47 (0, 0)) (by (with_reducible repeat (first | refine blk_drewN ?_ _ | refine blk_drew ?_ | refine blk_alloc ?_ _)); exact BK118.out) hb); have n1_ := Aside0.mk (below_step (by repeat (first | (with_reducible first | exact HB.out | apply below_alloc | apply pw_below_drewN | apply below_drew1 | refine below_set ?_ GE118.out) | exact HB.out)) hb); clear BK118; clear HB; have BK118 := n0_; have HB := n1_; clear n0_ n1_; (try clear hb); (try clear hb2); (try clear hk); (try clear hi); have hcz39_0 : w38.cell? ⟨gb118, 0, none⟩ = some (.int .i64 (wrap64 (1 + (Int.tmod t115 90)))) := (blk_cell BK118.out 0).trans rfl; have hcz39_1 : w38.cell? ⟨gb118, 1, none⟩ = some (.int .i64 (wrap64 (90 + (wrap64 (t116 * 4))))) := (blk_cell BK118.out 1).trans rfl; have hcz39_2 : w38.cell? ⟨gb118, 2, none⟩ = some (.int .i64 (wrap64 (1 + (Int.tmod t117 100)))) := (blk_cell BK118.out 2).trans rfl; have hfz39_0 := blk_frozen BK118.out 0; have hfz39_1 := blk_frozen BK118.out 1; have hfz39_2 := blk_frozen BK118.out 2))
                    go_ret
                    exact ⟨by first | rfl | (simp [errW_none, errW_some] <;> rfl) | (simp [*, errW_none, errW_some] <;> rfl), by repeat (first | (with_reducible first | exact HB.out | apply below_alloc | apply pw_below_drewN | apply below_drew1 | refine below_set ?_ GE118.out) | exact HB.out)⟩

/-- THE ONE PURE STATEMENT of laws_FnCracks: yours. -/
def laws_FnCracks.Pure : Prop := ∀ (l0 : List Int), l0.length ≤ maxLen → l0.length * 1 ≤ 140737488351232 → (∀ x ∈ l0, (Lit.int .u8 x).wf = true) → ∃ k, laws_FnCracks.f k l0 = some true
theorem laws_FnCracks.walk (P : laws_FnCracks.Pure) (a0 : Option Addr) (len0 cap0 : Nat) (z0 : List Int) (w : World) (w0 : (a0 = none ∧ len0 = 0 ∧ cap0 = 0 ∧ z0 = []) ∨ ∃ x, a0 = some x ∧ len0 ≤ cap0 ∧ cap0 ≤ maxLen ∧ z0.length = cap0 ∧ (∀ i, i < z0.length → w.cell? (x.add i) = some (.int .u8 (z0.getD i 0))) ∧ ∀ n ∈ z0, (Lit.int .u8 n).wf = true) (y0 : len0 * 1 ≤ 140737488351232) :
    Calls Try.prog 6 #[.slice a0 len0 cap0] w fun e w' => e = .returned (.bool true) ∧ Below w.heap.size w w' := by
  obtain ⟨l0, rfl, hr0, hm0, hw0, hc0⟩ := ReadsInt.ofRowC w0
  obtain ⟨k, h⟩ := P l0 hm0 y0 hw0
  refine (laws_FnCracks.calls k _ _ l0 true w (Kd.C_of_reads (d := (0 : Int)) (h1 := fun _ => rfl) hr0) hc0 h).mono ?_
  rintro e w' ⟨rfl, hd⟩
  exact ⟨rfl, hd⟩

end Go.Proofs.Ytceepcjpelcbgaa.PFnCracks
