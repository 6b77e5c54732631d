/- Lean functions that tell what the Go functions used by one law answer, and for each a proof that the Go code comes to just these answers; no condition. Printed by this session's own program over the kit's printer. -/
import Derived.Test.YteedbciobdcmaaaWSq
import Derived.Test.YteedbciobdcmaaaQFnExactLeavesx0
import Derived.Test.YteedbciobdcmaaaQFnExactLeavesx8
import Derived.Test.YteedbciobdcmaaaQFnExactLeavesx11
namespace Go.Proofs.Yteedbciobdcmaaa.QFnExactLeaves
open Go.RowKit Go.Proofs.YteedbciobdcmaaaW.PrintWords Go.Proofs.YteedbciobdcmaaaW.PrintLast Go.Proofs.YteedbciobdcmaaaW.PrintMore
attribute [local go_sem] max2_int min2_int max_two min_two max_three min_three max_four min_four   -- for this text's walks alone
attribute [local go_sem high] go_eql go_neq go_lss go_leq go_gtr go_geq go_store   -- for this text's walks alone
set_option linter.unusedVariables false
set_option linter.unusedSimpArgs false

/-! ### impl_inside: function 39 -/
def impl_inside.j0 : Nat → Bool → List Int → List Int → List Int → Int → Int → Option (Bool)
 | 0, _, _, _, _, _, _ => none
 | k + 1, x32, x268000, x268001, x268002, x269000, x269001 => if x32 = true then (some false) else ((impl_piece.f k x268000 x269000).bind fun t273 => (if 0 ≤ t273 then (if t273 < (x268000.length : Int) then (if 0 ≤ (wrap64 (t273 + 1)) then (if (wrap64 (t273 + 1)) < (x268000.length : Int) then (if t273 < (x268001.length : Int) then (if (wrap64 (t273 + 1)) < (x268001.length : Int) then ((impl_between.f (rd x268000 t273) (rd x268000 (wrap64 (t273 + 1))) (rd x268001 t273) (rd x268001 (wrap64 (t273 + 1))) x269000).bind fun bt278 => (if t273 < (x268002.length : Int) then (if (wrap64 (t273 + 1)) < (x268002.length : Int) then ((impl_between.f (rd x268000 t273) (rd x268000 (wrap64 (t273 + 1))) (rd x268002 t273) (rd x268002 (wrap64 (t273 + 1))) x269000).bind fun bt284 => (if (wrap64 (x269001 * bt278.2)) ≥ (wrap64 (bt278.1 * x269000)) then (some (decide ((wrap64 (x269001 * bt278.2)) ≤ (wrap64 (bt284.1 * x269000))))) else (some false))) else (none)) else (none))) else (none)) else (none)) else (none)) else (none)) else (none)) else (none)))
def impl_inside.f (k : Nat) (l0_0 : List Int) (l0_1 : List Int) (l0_2 : List Int) (a1_0 : Int) (a1_1 : Int) : Option (Bool) := if 0 < (l0_0.length : Int) then (if 0 ≤ (wrap64 ((l0_0.length : Int) - 1)) then (if (wrap64 ((l0_0.length : Int) - 1)) < (l0_0.length : Int) then ((impl_in.f a1_0 (mx (rd l0_0 0) 1) (rd l0_0 (wrap64 ((l0_0.length : Int) - 1)))).bind fun t271 => (if t271 = true then ((impl_in.f a1_1 (-1000000000) 1000000000).bind fun t272 => (impl_inside.j0 k (!t272) l0_0 l0_1 l0_2 a1_0 a1_1)) else (impl_inside.j0 k true l0_0 l0_1 l0_2 a1_0 a1_1))) else (none)) else (none)) else (none)
theorem impl_inside.mono_l : ∀ k, (∀ y0 y1 y2 y3 y4 y5, LeO (impl_inside.j0 k y0 y1 y2 y3 y4 y5) (impl_inside.j0 (k + 1) y0 y1 y2 y3 y4 y5))
 | 0 => fun _ _ _ _ _ _ r h => by simp [impl_inside.j0] at h
 | k + 1 => by
  have ih0 := impl_inside.mono_l k
  ·intro y0 y1 y2 y3 y4 y5
   unfold impl_inside.j0
   repeat' first
   | (with_reducible exact ih0 _ _ _ _ _ _)
   | (with_reducible exact impl_piece.mono _ _ _)
   | (with_reducible exact LeO.refl _)
   | (with_reducible exact LeO.none _)
   | (with_reducible refine LeO.ite ?_ ?_)
   | (with_reducible refine LeO.bind ?_ (fun _ => ?_))
   | exact ih0 _ _ _ _ _ _
   | exact impl_piece.mono _ _ _
   | exact LeO.none _
   | refine LeO.ite ?_ ?_
   | refine LeO.bind ?_ (fun _ => ?_)
theorem impl_inside.mono : ∀ a0 a1 a2 a3 a4 k, LeO (impl_inside.f k a0 a1 a2 a3 a4) (impl_inside.f (k + 1) a0 a1 a2 a3 a4) := by
 intro a0 a1 a2 a3 a4 k
 have ih0 := impl_inside.mono_l k
 unfold impl_inside.f
 repeat' first
   | (with_reducible exact ih0 _ _ _ _ _ _)
   | (with_reducible exact impl_piece.mono _ _ _)
   | (with_reducible exact LeO.refl _)
   | (with_reducible exact LeO.none _)
   | (with_reducible refine LeO.ite ?_ ?_)
   | (with_reducible refine LeO.bind ?_ (fun _ => ?_))
   | exact ih0 _ _ _ _ _ _
   | exact impl_piece.mono _ _ _
   | exact LeO.none _
   | refine LeO.ite ?_ ?_
   | refine LeO.bind ?_ (fun _ => ?_)
def impl_inside.T1 : Bool × List (List Nat × List Nat) := (true, [([], []), ([0], [0]), ([], []), ([2], [2]), ([3], [3]), ([4], [4]), ([5], [5]), ([], []), ([7], [7]), ([], []), ([9], [9]), ([10], [10]), ([11], [11]), ([8, 12], [8, 12]), ([13], [13]), ([1, 6, 14], [1, 6, 14]), ([15], [15]), ([16, 15], [16]), ([17], [17]), ([18, 17], [17, 18]), ([19, 17, 17], [17, 19]), ([20, 17], [17, 20]), ([17, 21], [17, 21])])
def impl_inside.B1 : List Nat := [0, 1, 0, 4, 12, 28, 60, 0, 128, 0, 512, 1536, 3584, 8064, 16256, 32767, 65535, 131071, 262143, 524287, 1048575, 2097151, 4194303]
theorem impl_inside.tab1 : rtab .any (opsOf Try.f39 1) = impl_inside.T1 := by kernel_rfl
theorem impl_inside.bits1 : waitsOk impl_inside.T1.2 impl_inside.B1 = true := by kernel_rfl
def impl_inside.T4 : Bool × List (List Nat × List Nat) := (true, [([], []), ([0], [0]), ([], []), ([1, 2], [1, 2]), ([3], [3]), ([], []), ([5], [5]), ([], []), ([7], [7]), ([6, 8], [6, 8]), ([9], [9]), ([], []), ([11], [11]), ([], []), ([12, 13], [12, 13]), ([14], [14]), ([], []), ([16], [16]), ([], []), ([18], [18]), ([17, 19], [17, 19]), ([20], [20]), ([], []), ([22], [22]), ([4, 10, 15, 21, 23], [4, 10, 15, 21, 23]), ([24], [24]), ([25], [25]), ([25], [25]), ([26, 24, 0, 1, 2, 3, 4, 5, 6, 7, 8, 9, 10, 11, 12, 13, 14, 15, 16, 17, 18, 19, 20, 21, 22, 23, 24, 25, 26], [26]), ([27, 28, 0, 1, 2, 3, 4, 5, 6, 7, 8, 9, 10, 11, 12, 13, 14, 15, 16, 17, 18, 19, 20, 21, 22, 23, 24, 25, 26, 27, 28], [27])])
def impl_inside.B4 : List Nat := [0, 1, 0, 7, 15, 0, 32, 0, 128, 480, 992, 0, 2048, 0, 14336, 30720, 0, 65536, 0, 262144, 983040, 2031616, 0, 4194304, 16777215, 33554431, 67108863, 67108863, 134217727, 536870911]
theorem impl_inside.tab4 : rtab .any (opsOf Try.f39 4) = impl_inside.T4 := by kernel_rfl
theorem impl_inside.bits4 : waitsOk impl_inside.T4.2 impl_inside.B4 = true := by kernel_rfl
def impl_inside.T5 : Bool × List (List Nat × List Nat) := (true, [([], []), ([0], [0]), ([], []), ([1, 2], [1, 2]), ([3], [3]), ([], []), ([5], [5]), ([], []), ([7], [7]), ([6, 8], [6, 8]), ([9], [9]), ([], []), ([11], [11]), ([], []), ([12, 13], [12, 13]), ([14], [14]), ([], []), ([16], [16]), ([], []), ([18], [18]), ([17, 19], [17, 19]), ([20], [20]), ([], []), ([22], [22]), ([4, 10, 15, 21, 23], [4, 10, 15, 21, 23]), ([24], [24]), ([25], [25]), ([25], [25]), ([26, 24, 0, 1, 2, 3, 4, 5, 6, 7, 8, 9, 10, 11, 12, 13, 14, 15, 16, 17, 18, 19, 20, 21, 22, 23, 24, 25, 26], [26]), ([27, 28, 0, 1, 2, 3, 4, 5, 6, 7, 8, 9, 10, 11, 12, 13, 14, 15, 16, 17, 18, 19, 20, 21, 22, 23, 24, 25, 26, 27, 28], [27])])
def impl_inside.B5 : List Nat := [0, 1, 0, 7, 15, 0, 32, 0, 128, 480, 992, 0, 2048, 0, 14336, 30720, 0, 65536, 0, 262144, 983040, 2031616, 0, 4194304, 16777215, 33554431, 67108863, 67108863, 134217727, 536870911]
theorem impl_inside.tab5 : rtab .any (opsOf Try.f39 5) = impl_inside.T5 := by kernel_rfl
theorem impl_inside.bits5 : waitsOk impl_inside.T5.2 impl_inside.B5 = true := by kernel_rfl
set_option maxHeartbeats 8000000 in
set_option maxRecDepth 100000 in
theorem impl_inside.calls (k : Nat) (A0_0 : Option Addr) (c0_0 : Nat) (l0_0 : List Int) (A0_1 : Option Addr) (c0_1 : Nat) (l0_1 : List Int) (A0_2 : Option Addr) (c0_2 : Nat) (l0_2 : List Int) (a1_0 : Int) (a1_1 : Int) (r : Bool) (w : World) (hr0_0 : Kd.C (Kd.int .i64) w A0_0 l0_0.length l0_0) (hc0_0 : l0_0.length ≤ c0_0) (hr0_1 : Kd.C (Kd.int .i64) w A0_1 l0_1.length l0_1) (hc0_1 : l0_1.length ≤ c0_1) (hr0_2 : Kd.C (Kd.int .i64) w A0_2 l0_2.length l0_2) (hc0_2 : l0_2.length ≤ c0_2) (h : impl_inside.f k l0_0 l0_1 l0_2 a1_0 a1_1 = some r) :
  Calls Try.prog 39 #[.agg #[.slice A0_0 l0_0.length c0_0, .slice A0_1 l0_1.length c0_1, .slice A0_2 l0_2.length c0_2], .agg #[.int .i64 a1_0, .int .i64 a1_1]] w fun e w' => e = .returned (.bool r) ∧ Below w.heap.size w w' := by
 have hu33 := Try.underlying33
 have hu35 := Try.underlying35
 have HR0_0 := mk_ hr0_0; have HC0_0 := mk_ hc0_0; clear hr0_0 hc0_0; have HR0_1 := mk_ hr0_1; have HC0_1 := mk_ hc0_1; clear hr0_1 hc0_1; have HR0_2 := mk_ hr0_2; have HC0_2 := mk_ hc0_2; clear hr0_2 hc0_2; have HB := mk_ (Below.refl w.heap.size w)
 have H : (if 0 < (l0_0.length : Int) then (if 0 ≤ (wrap64 ((l0_0.length : Int) - 1)) then (if (wrap64 ((l0_0.length : Int) - 1)) < (l0_0.length : Int) then ((impl_in.f a1_0 (mx (rd l0_0 0) 1) (rd l0_0 (wrap64 ((l0_0.length : Int) - 1)))).bind fun t271 => (if t271 = true then ((impl_in.f a1_1 (-1000000000) 1000000000).bind fun t272 => (impl_inside.j0 k (!t272) l0_0 l0_1 l0_2 a1_0 a1_1)) else (impl_inside.j0 k true l0_0 l0_1 l0_2 a1_0 a1_1))) else (none)) else (none)) else (none)) = some r := h
 clear h; have HC3 := mk_ H; clear H
 go_enter Try.func39, Try.ntmps39
 go_upto_region 1 with (first | ((with_reducible refine gd_ 2 rfl ?_); refine box_event ?hg (N := 2) ?hd (cs := #[.slice A0_0 l0_0.length c0_0, .slice A0_1 l0_1.length c0_1, .slice A0_2 l0_2.length c0_2]) (t := 33) ?hr ?_; (case hd => rfl); (case hg => rfl); (case hr => exact hr_); intro gb267 hg w4 hbox hb; have BK267 := mk_ (hbox); have GW267 := gb_ hg HB; replace HB := bp_ HB hb; have GE267 := GW267; clear hb hbox hg) | ((with_reducible refine gd_ 3 rfl ?_); refine box_event ?hg (N := 3) ?hd (cs := #[.int .i64 a1_0, .int .i64 a1_1]) (t := 35) ?hr ?_; (case hd => rfl); (case hg => rfl); (case hr => exact hr_); intro gb268 hg w5 hbox hb; have BK268 := mk_ (hbox); have GW268 := gb_ hg HB; replace HB := bp_ HB hb; have GE268 := GW268; have NB267_268 := nb_ hg BK267; replace BK267 := bl_ BK267 hb; have NB268_267 := ns_ NB267_268; clear hb hbox hg))
 (try simp only [Act.put, List.setIfInBounds_toArray, List.set_cons_zero, List.set_cons_succ])
 go_cut [32] (fun v32 wc => ∃ (kq : Nat) (x32_2 : Bool), v32 = .bool x32_2 ∧ Aside0 (impl_inside.j0 kq x32_2 l0_0 l0_1 l0_2 a1_0 a1_1 = some r) ∧ Aside0 (kq ≤ k) ∧ Aside0 (wc.heap[gb267]? = some (.cells #[(.slice A0_0 l0_0.length c0_0), (.slice A0_1 l0_1.length c0_1), (.slice A0_2 l0_2.length c0_2)] 33 (0, 0))) ∧ Aside0 (wc.heap[gb268]? = some (.cells #[.int .i64 a1_0, .int .i64 a1_1] 35 (0, 0))) ∧ Aside0 (Below w.heap.size w wc))
 case first =>
  have H := HC3.out; clear HC3; by_cases c6 : 0 < (l0_0.length : Int)
  ·rw [if_pos c6] at H; have c6b0 : decide (0 < (l0_0.length : Int)) = true := decide_eq_true c6; have c6b1 : decide (0 < l0_0.length) = true := decide_eq_true (by omega); clear c6
   (first | rw [c6b0] | (simp only [i64_w, i32_w]; rw [c6b0]) | skip)
   obtain ⟨ji7, hji7⟩ : ∃ j_ : Int, (mx (rd l0_0 0) 1) = j_ := ⟨_, rfl⟩
   replace H : (if 0 ≤ (wrap64 ((l0_0.length : Int) - 1)) then (if (wrap64 ((l0_0.length : Int) - 1)) < (l0_0.length : Int) then ((impl_in.f a1_0 (ji7) (rd l0_0 (wrap64 ((l0_0.length : Int) - 1)))).bind fun t271 => (if t271 = true then ((impl_in.f a1_1 (-1000000000) 1000000000).bind fun t272 => (impl_inside.j0 k (!t272) l0_0 l0_1 l0_2 a1_0 a1_1)) else (impl_inside.j0 k true l0_0 l0_1 l0_2 a1_0 a1_1))) else (none)) else (none)) = some r := by first | (rw [hji7] at H; exact H) | (simp only [hji7] at H ⊢; exact H)
   (try (have hji7l : 1 ≤ ji7 := by (rw [← hji7]; unfold mx; (repeat' split) <;> omega)))
   (try (have hji7m : 0 ≤ ji7 := by omega))
   have hji7_ : (if (rd l0_0 0) < 1 then 1 else (rd l0_0 0)) = ji7 := hji7
   obtain ⟨ji8, hji8⟩ : ∃ j_ : Int, (wrap64 ((l0_0.length : Int) - 1)) = j_ := ⟨_, rfl⟩
   replace H : (if 0 ≤ (ji8) then (if (ji8) < (l0_0.length : Int) then ((impl_in.f a1_0 (ji7) (rd l0_0 (ji8))).bind fun t271 => (if t271 = true then ((impl_in.f a1_1 (-1000000000) 1000000000).bind fun t272 => (impl_inside.j0 k (!t272) l0_0 l0_1 l0_2 a1_0 a1_1)) else (impl_inside.j0 k true l0_0 l0_1 l0_2 a1_0 a1_1))) else (none)) else (none)) = some r := by first | (rw [hji8] at H; exact H) | (simp only [hji8] at H ⊢; exact H)
   have hji8w : (IntKind.i64.wrap ((l0_0.length : Int) - 1)) = ji8 := (i64_w _).trans hji8
   by_cases c9 : 0 ≤ (ji8)
   ·rw [if_pos c9] at H; have c9b0 : decide (0 ≤ (ji8)) = true := decide_eq_true c9; clear c9; by_cases c10 : (ji8) < (l0_0.length : Int)
    ·rw [if_pos c10] at H; have c10b0 : decide ((ji8) < (l0_0.length : Int)) = true := decide_eq_true c10; clear c10; replace H := Option.bind_eq_some_iff.mp H; obtain ⟨t271, A110, H⟩ := H; (try dsimp only at H); have A11 := mk_ A110; clear A110; by_cases c12 : t271 = true
     ·subst c12; rw [if_pos rfl] at H
      replace H := Option.bind_eq_some_iff.mp H; obtain ⟨t272, A130, H⟩ := H
      (try dsimp only at H); have A13 := mk_ A130; clear A130
      have H' := mk_ H
      clear H
      try go_wp2
      replace BK267 := dB_ BK267; replace BK268 := dB_ BK268; replace HB := dH_ HB
      have p269 : 0 ≤ (0 : Int) := (by omega)
      have q269 : 0 < (l0_0.length : Int) := od_
      obtain ⟨ad269, e269, hx269_0⟩ := Kd.at_int HR0_0.out 0 p269 q269
      have hw269_0 := hx269_0
      (try rw [show ((0 : Int)).toNat = 0 from rfl] at hw269_0)
      (try rw [show 0 * 1 = 0 from rfl] at hw269_0)
      (try rw [Addr.add_zero'] at hw269_0)
      cases e269
      have qi269 : (0 < l0_0.length) = True := eq_true (by omega)
      (try rw [show ((0 : Int)).toNat = 0 from rfl] at hx269_0)
      (try rw [Addr.add_zero'] at hx269_0)
      replace hx269_0 := (HB.out.cell (World.block_lt_of_cell? w _ hx269_0)).trans hx269_0
      replace p269 := eq_true p269; replace q269 := eq_true q269
      have p270 : 0 ≤ ((ji8) : Int) := od_
      have q270 : (ji8) < (l0_0.length : Int) := od_
      obtain ⟨ad270, e270, hx270_0⟩ := Kd.at_int HR0_0.out (ji8) p270 q270
      have hw270_0 := hx270_0
      obtain rfl : ad269 = ad270 := (by injection e270)
      replace hx270_0 := (HB.out.cell (World.block_lt_of_cell? w _ hx270_0)).trans hx270_0
      replace p270 := eq_true p270; replace q270 := eq_true q270
      refine start_ (n := 23) (S := fun w' => w'.cell? ⟨gb268, 0, none⟩ = some (.int .i64 a1_0) ∧ w'.cell? ⟨gb268, 1, none⟩ = some (.int .i64 a1_1) ∧ w'.cell? ⟨gb267, 0, none⟩ = some (.slice (some ad269) l0_0.length c0_0) ∧ w'.cell? ⟨gb267, 1, none⟩ = some (.slice A0_1 l0_1.length c0_1) ∧ w'.cell? ⟨gb267, 2, none⟩ = some (.slice A0_2 l0_2.length c0_2) ∧ w'.cell? ad269 = some (.int .i64 (rd l0_0 0)) ∧ w'.cell? (ad269.add ((ji8)).toNat) = some (.int .i64 (rd l0_0 (ji8)))) (ds := []) (bs_ 23 0) (by kernel_rfl) rfl (by kernel_rfl) ⟨bc0_ BK268, bc1_ BK268, bc0_ BK267, bc1_ BK267, bc2_ BK267, ((HB.out.cell (World.block_lt_of_cell? w _ hw269_0)).trans hw269_0), ((HB.out.cell (World.block_lt_of_cell? w _ hw270_0)).trans hw270_0)⟩ (fun hHeld => ?_); refine with_tabW impl_inside.tab1 impl_inside.bits1 (fun HT_ HW_ => ?_)
      generalize w5.drew = w14 at BK267 BK268 HB hx269_0 hx270_0 hHeld ⊢
      refine pu_ HT_ 0 10 (bs_ 23 1) ?_; refine pu_ HT_ 2 12 (bs_ 23 5) ?_; refine pu_ HT_ 7 17 (bs_ 23 133) ?_; refine pu_ HT_ 9 19 (bs_ 23 645) ?_; refine tk_ HT_ HW_ 1 11 (bs_ 23 647) hHeld ?_; refine tk_ HT_ HW_ 3 13 (bs_ 23 655) hHeld ?_; refine pu_ HT_ 4 14 (bs_ 23 671) ?_; refine tk_ HT_ HW_ 5 15 (bs_ 23 703) hHeld ?_; refine pu_ HT_ 6 16 (bs_ 23 767) ?_; refine tk_ HT_ HW_ 8 18 (bs_ 23 1023) hHeld ?_; refine tk_ HT_ HW_ 10 20 (bs_ 23 2047) hHeld ?_; refine pu_ HT_ 11 21 (bs_ 23 4095) ?_; refine pu_ HT_ 12 22 (bs_ 23 8191) ?_; refine pu_ HT_ 13 23 (bs_ 23 16383) ?_; refine tk_ HT_ HW_ 14 24 (bs_ 23 32767) hHeld ?_
      refine one_ (i := 15) (N := some 25) (bs_ 23 65535) rfl rfl (one_of HT_.out (by kernel_rfl)) (by decide) (fun K hK => ?_)
      refine goes_ Try.func48 (by kernel_rfl) rfl #[.int .i64 a1_0, .int .i64 ji7, .int .i64 (rd l0_0 (ji8))] (by rfl) rfl rfl (by (try simp only [List.map_toArray, List.map_cons, List.map_nil]); first | done | (simp only [hji7, hji8]; rfl) | rfl | (simp only [List.length_drop, List.length_take]; rfl)) ?_
      with_reducible refine (impl_in.calls a1_0 ji7 (rd l0_0 (ji8)) true _ A11.out).mono ?_
      rintro e w' ⟨rfl, ⟨nd, rfl⟩⟩
      refine ⟨_, rfl, ?_⟩
      refine hK.out _ _ ⟨bc0_ BK268, bc1_ BK268, bc0_ BK267, bc1_ BK267, bc2_ BK267, ((HB.out.cell (World.block_lt_of_cell? w _ hw269_0)).trans hw269_0), ((HB.out.cell (World.block_lt_of_cell? w _ hw270_0)).trans hw270_0)⟩ (fun hHeld => ?_)
      clear hK K; refine nm_ ?_; refine pu_ HT_ 16 26 (bs_ 23 131071) ?_; refine pu_ HT_ 17 27 (bs_ 23 262143) ?_; refine pu_ HT_ 18 28 (bs_ 23 524287) ?_; refine tk_ HT_ HW_ 19 29 (bs_ 23 1048575) hHeld ?_
      refine one_ (i := 20) (N := some 30) (bs_ 23 2097151) rfl rfl (one_of HT_.out (by kernel_rfl)) (by decide) (fun K hK => ?_)
      refine gs_ Try.func48 #[.int .i64 a1_1, .int .i64 (-1000000000), .int .i64 1000000000] ?_
      with_reducible refine (impl_in.calls a1_1 (-1000000000) 1000000000 t272 _ A13.out).mono ?_
      rintro e w' ⟨rfl, ⟨nd, rfl⟩⟩
      refine ⟨_, rfl, ?_⟩
      refine hK.out _ _ ⟨bc0_ BK268, bc1_ BK268, bc0_ BK267, bc1_ BK267, bc2_ BK267, ((HB.out.cell (World.block_lt_of_cell? w _ hw269_0)).trans hw269_0), ((HB.out.cell (World.block_lt_of_cell? w _ hw270_0)).trans hw270_0)⟩ (fun hHeld => ?_)
      clear hK K; refine nm_ ?_; refine pu_ HT_ 21 31 (bs_ 23 4194303) ?_; refine pu_ HT_ 22 32 (bs_ 23 8388607) ?_
      refine done_ (done_of HT_.out (by kernel_rfl)) ?_
      try go_wp2
      go_meet
      case rel => exact ⟨_, (!t272), rf_, H', ⟨by first | omega | exact Nat.le_refl _⟩, bw_ BK267, bw_ BK268, ⟨hw_ HB⟩⟩
     ·replace c12 := Bool.eq_false_iff.mpr c12; subst c12; rw [if_neg (show ¬ (false = true) by decide)] at H
      have H' := mk_ H
      clear H
      try go_wp2
      replace BK267 := dB_ BK267; replace BK268 := dB_ BK268; replace HB := dH_ HB
      have p269 : 0 ≤ (0 : Int) := (by omega)
      have q269 : 0 < (l0_0.length : Int) := od_
      obtain ⟨ad269, e269, hx269_0⟩ := Kd.at_int HR0_0.out 0 p269 q269
      have hw269_0 := hx269_0
      (try rw [show ((0 : Int)).toNat = 0 from rfl] at hw269_0)
      (try rw [show 0 * 1 = 0 from rfl] at hw269_0)
      (try rw [Addr.add_zero'] at hw269_0)
      cases e269
      have qi269 : (0 < l0_0.length) = True := eq_true (by omega)
      (try rw [show ((0 : Int)).toNat = 0 from rfl] at hx269_0)
      (try rw [Addr.add_zero'] at hx269_0)
      replace hx269_0 := (HB.out.cell (World.block_lt_of_cell? w _ hx269_0)).trans hx269_0
      replace p269 := eq_true p269; replace q269 := eq_true q269
      have p270 : 0 ≤ ((ji8) : Int) := od_
      have q270 : (ji8) < (l0_0.length : Int) := od_
      obtain ⟨ad270, e270, hx270_0⟩ := Kd.at_int HR0_0.out (ji8) p270 q270
      have hw270_0 := hx270_0
      obtain rfl : ad269 = ad270 := (by injection e270)
      replace hx270_0 := (HB.out.cell (World.block_lt_of_cell? w _ hx270_0)).trans hx270_0
      replace p270 := eq_true p270; replace q270 := eq_true q270
      refine start_ (n := 23) (S := fun w' => w'.cell? ⟨gb268, 0, none⟩ = some (.int .i64 a1_0) ∧ w'.cell? ⟨gb268, 1, none⟩ = some (.int .i64 a1_1) ∧ w'.cell? ⟨gb267, 0, none⟩ = some (.slice (some ad269) l0_0.length c0_0) ∧ w'.cell? ⟨gb267, 1, none⟩ = some (.slice A0_1 l0_1.length c0_1) ∧ w'.cell? ⟨gb267, 2, none⟩ = some (.slice A0_2 l0_2.length c0_2) ∧ w'.cell? ad269 = some (.int .i64 (rd l0_0 0)) ∧ w'.cell? (ad269.add ((ji8)).toNat) = some (.int .i64 (rd l0_0 (ji8)))) (ds := []) (bs_ 23 0) (by kernel_rfl) rfl (by kernel_rfl) ⟨bc0_ BK268, bc1_ BK268, bc0_ BK267, bc1_ BK267, bc2_ BK267, ((HB.out.cell (World.block_lt_of_cell? w _ hw269_0)).trans hw269_0), ((HB.out.cell (World.block_lt_of_cell? w _ hw270_0)).trans hw270_0)⟩ (fun hHeld => ?_); refine with_tabW impl_inside.tab1 impl_inside.bits1 (fun HT_ HW_ => ?_)
      generalize w5.drew = w15 at BK267 BK268 HB hx269_0 hx270_0 hHeld ⊢
      refine pu_ HT_ 0 10 (bs_ 23 1) ?_; refine pu_ HT_ 2 12 (bs_ 23 5) ?_; refine pu_ HT_ 7 17 (bs_ 23 133) ?_; refine pu_ HT_ 9 19 (bs_ 23 645) ?_; refine tk_ HT_ HW_ 1 11 (bs_ 23 647) hHeld ?_; refine tk_ HT_ HW_ 3 13 (bs_ 23 655) hHeld ?_; refine pu_ HT_ 4 14 (bs_ 23 671) ?_; refine tk_ HT_ HW_ 5 15 (bs_ 23 703) hHeld ?_; refine pu_ HT_ 6 16 (bs_ 23 767) ?_; refine tk_ HT_ HW_ 8 18 (bs_ 23 1023) hHeld ?_; refine tk_ HT_ HW_ 10 20 (bs_ 23 2047) hHeld ?_; refine pu_ HT_ 11 21 (bs_ 23 4095) ?_; refine pu_ HT_ 12 22 (bs_ 23 8191) ?_; refine pu_ HT_ 13 23 (bs_ 23 16383) ?_; refine tk_ HT_ HW_ 14 24 (bs_ 23 32767) hHeld ?_
      refine one_ (i := 15) (N := some 25) (bs_ 23 65535) rfl rfl (one_of HT_.out (by kernel_rfl)) (by decide) (fun K hK => ?_)
      refine goes_ Try.func48 (by kernel_rfl) rfl #[.int .i64 a1_0, .int .i64 ji7, .int .i64 (rd l0_0 (ji8))] (by rfl) rfl rfl (by (try simp only [List.map_toArray, List.map_cons, List.map_nil]); first | done | (simp only [hji7, hji8]; rfl) | rfl | (simp only [List.length_drop, List.length_take]; rfl)) ?_
      with_reducible refine (impl_in.calls a1_0 ji7 (rd l0_0 (ji8)) false _ A11.out).mono ?_
      rintro e w' ⟨rfl, ⟨nd, rfl⟩⟩
      refine ⟨_, rfl, ?_⟩
      refine hK.out _ _ ⟨bc0_ BK268, bc1_ BK268, bc0_ BK267, bc1_ BK267, bc2_ BK267, ((HB.out.cell (World.block_lt_of_cell? w _ hw269_0)).trans hw269_0), ((HB.out.cell (World.block_lt_of_cell? w _ hw270_0)).trans hw270_0)⟩ (fun hHeld => ?_)
      clear hK K; refine nm_ ?_; refine pu_ HT_ 16 26 (bs_ 23 131071) ?_; refine pu_ HT_ 17 27 (bs_ 23 262143) ?_; refine pn_ HT_ 18 28 (bs_ 23 524287) ?_; refine pn_ HT_ 19 29 (bs_ 23 1048575) ?_; refine pn_ HT_ 20 30 (bs_ 23 2097151) ?_; refine pn_ HT_ 21 31 (bs_ 23 4194303) ?_; refine pu_ HT_ 22 32 (bs_ 23 8388607) ?_
      refine done_ (done_of HT_.out (by kernel_rfl)) ?_
      try go_wp2
      go_meet
      case rel => exact ⟨_, (true), rf_, H', ⟨by first | omega | exact Nat.le_refl _⟩, bw_ BK267, bw_ BK268, ⟨hw_ HB⟩⟩
    ·rw [if_neg c10] at H
     exact absurd H (by simp)
   ·rw [if_neg c9] at H
    exact absurd H (by simp)
  ·rw [if_neg c6] at H
   exact absurd H (by simp)
 case rest =>
  clear HC3
  obtain ⟨kq, x32_2, rfl, HA, HJ2, BK267, BK268, HB⟩ := hcut
  cases kq with
  | zero => exact absurd HA.out (by simp [impl_inside.j0])
  | succ kj2 =>
   have H := HA.out; clear HA
   simp only [impl_inside.j0] at H
   by_cases c16 : x32_2 = true
   ·subst c16; rw [if_pos rfl] at H
    obtain rfl := Option.some.inj H; go_wp2
    go_ret
    exact ⟨re_, hw_ HB⟩
   ·replace c16 := Bool.eq_false_iff.mpr c16; subst c16; rw [if_neg (show ¬ (false = true) by decide)] at H; replace H := Option.bind_eq_some_iff.mp H; obtain ⟨t273, A170, H⟩ := H; (try dsimp only at H); have A17 := mk_ A170; clear A170; by_cases c18 : 0 ≤ t273
    ·rw [if_pos c18] at H; have c18b0 : decide (0 ≤ t273) = true := decide_eq_true c18; clear c18; by_cases c19 : t273 < (l0_0.length : Int)
     ·rw [if_pos c19] at H; have c19b0 : decide (t273 < (l0_0.length : Int)) = true := decide_eq_true c19; clear c19
      obtain ⟨ji20, hji20⟩ : ∃ j_ : Int, (wrap64 (t273 + 1)) = j_ := ⟨_, rfl⟩
      replace H : (if 0 ≤ (ji20) then (if (ji20) < (l0_0.length : Int) then (if t273 < (l0_1.length : Int) then (if (ji20) < (l0_1.length : Int) then ((impl_between.f (rd l0_0 t273) (rd l0_0 (ji20)) (rd l0_1 t273) (rd l0_1 (ji20)) a1_0).bind fun bt278 => (if t273 < (l0_2.length : Int) then (if (ji20) < (l0_2.length : Int) then ((impl_between.f (rd l0_0 t273) (rd l0_0 (ji20)) (rd l0_2 t273) (rd l0_2 (ji20)) a1_0).bind fun bt284 => (if (wrap64 (a1_1 * bt278.2)) ≥ (wrap64 (bt278.1 * a1_0)) then (some (decide ((wrap64 (a1_1 * bt278.2)) ≤ (wrap64 (bt284.1 * a1_0))))) else (some false))) else (none)) else (none))) else (none)) else (none)) else (none)) else (none)) = some r := by first | (rw [hji20] at H; exact H) | (simp only [hji20] at H ⊢; exact H)
      (try rw [hji20] at A17)
      have hji20w : (IntKind.i64.wrap (t273 + 1)) = ji20 := (i64_w _).trans hji20
      by_cases c21 : 0 ≤ (ji20)
      ·rw [if_pos c21] at H; have c21b0 : decide (0 ≤ (ji20)) = true := decide_eq_true c21; clear c21; by_cases c22 : (ji20) < (l0_0.length : Int)
       ·rw [if_pos c22] at H; have c22b0 : decide ((ji20) < (l0_0.length : Int)) = true := decide_eq_true c22; clear c22; by_cases c23 : t273 < (l0_1.length : Int)
        ·rw [if_pos c23] at H; have c23b0 : decide (t273 < (l0_1.length : Int)) = true := decide_eq_true c23; clear c23; by_cases c24 : (ji20) < (l0_1.length : Int)
         ·rw [if_pos c24] at H; have c24b0 : decide ((ji20) < (l0_1.length : Int)) = true := decide_eq_true c24; clear c24; replace H := Option.bind_eq_some_iff.mp H; obtain ⟨⟨t278, t279⟩, A250, H⟩ := H; (try dsimp only at H); have A25 := mk_ A250; clear A250; by_cases c26 : t273 < (l0_2.length : Int)
          ·rw [if_pos c26] at H; have c26b0 : decide (t273 < (l0_2.length : Int)) = true := decide_eq_true c26; clear c26; by_cases c27 : (ji20) < (l0_2.length : Int)
           ·rw [if_pos c27] at H; have c27b0 : decide ((ji20) < (l0_2.length : Int)) = true := decide_eq_true c27; clear c27; replace H := Option.bind_eq_some_iff.mp H; obtain ⟨⟨t284, t285⟩, A280, H⟩ := H; (try dsimp only at H); have A28 := mk_ A280; clear A280; by_cases c29 : (wrap64 (a1_1 * t279)) ≥ (wrap64 (t278 * a1_0))
            ·rw [if_pos c29] at H; have c29b0 : decide ((wrap64 (t278 * a1_0)) ≤ (wrap64 (a1_1 * t279))) = true := decide_eq_true c29; clear c29; obtain rfl := Option.some.inj H; have hnb30 := NB267_268.out; have hnc30 := NB268_267.out; have hcz31_0 := bc0_ BK267; have hcz31_1 := bc1_ BK267; have hcz31_2 := bc2_ BK267; have hfz31_0 := bf_ BK267 0; have hfz31_1 := bf_ BK267 1; have hfz31_2 := bf_ BK267 2; have hcz32_0 := bc0_ BK268; have hcz32_1 := bc1_ BK268; have hfz32_0 := bf_ BK268 0; have hfz32_1 := bf_ BK268 1
             try go_wp2_with (first | ((with_reducible refine gc_ 56 rfl ?_); refine gl_ (some 37) rfl Try.func56 #[.slice A0_0 l0_0.length c0_0, .int .i64 a1_0] ?_; (with_reducible refine (impl_piece.calls kj2 _ _ l0_0 a1_0 t273 _ ?side1 ?side2 A17.out).mono ?_); (case side1 => exact cw_ (Kd.C_below HR0_0.out HB.out)); (case side2 => exact HC0_0.out); rintro e w' ⟨rfl, ⟨nd, rfl⟩⟩; refine ⟨_, rfl, ?_⟩))
             (try (rw [drewN_self wc]; generalize hq_ : World.drewN wc _ = wc; have n0_ := qB_ hq_ BK267; have n1_ := qB_ hq_ BK268; have n2_ := qH_ hq_ HB; clear BK267 BK268 HB hq_; have BK267 := n0_; have BK268 := n1_; have HB := n2_; clear n0_ n1_ n2_))
             replace BK267 := dB_ BK267; replace BK268 := dB_ BK268; replace HB := dH_ HB
             have p274 : 0 ≤ (t273 : Int) := od_
             have q274 : t273 < (l0_0.length : Int) := od_
             obtain ⟨ad274, e274, hx274_0⟩ := Kd.at_int HR0_0.out t273 p274 q274
             have hw274_0 := hx274_0
             cases e274
             replace hx274_0 := (HB.out.cell (World.block_lt_of_cell? w _ hx274_0)).trans hx274_0
             replace p274 := eq_true p274; replace q274 := eq_true q274
             have p275 : 0 ≤ ((ji20) : Int) := od_
             have q275 : (ji20) < (l0_0.length : Int) := od_
             obtain ⟨ad275, e275, hx275_0⟩ := Kd.at_int HR0_0.out (ji20) p275 q275
             have hw275_0 := hx275_0
             obtain rfl : ad274 = ad275 := (by injection e275)
             replace hx275_0 := (HB.out.cell (World.block_lt_of_cell? w _ hx275_0)).trans hx275_0
             replace p275 := eq_true p275; replace q275 := eq_true q275
             have p276 : 0 ≤ (t273 : Int) := od_
             have q276 : t273 < (l0_1.length : Int) := od_
             obtain ⟨ad276, e276, hx276_0⟩ := Kd.at_int HR0_1.out t273 p276 q276
             have hw276_0 := hx276_0
             cases e276
             replace hx276_0 := (HB.out.cell (World.block_lt_of_cell? w _ hx276_0)).trans hx276_0
             replace p276 := eq_true p276; replace q276 := eq_true q276
             have p277 : 0 ≤ ((ji20) : Int) := od_
             have q277 : (ji20) < (l0_1.length : Int) := od_
             obtain ⟨ad277, e277, hx277_0⟩ := Kd.at_int HR0_1.out (ji20) p277 q277
             have hw277_0 := hx277_0
             obtain rfl : ad276 = ad277 := (by injection e277)
             replace hx277_0 := (HB.out.cell (World.block_lt_of_cell? w _ hx277_0)).trans hx277_0
             replace p277 := eq_true p277; replace q277 := eq_true q277
             refine start_ (n := 30) (S := fun w' => w'.cell? ⟨gb267, 0, none⟩ = some (.slice (some ad274) l0_0.length c0_0) ∧ w'.cell? ⟨gb267, 1, none⟩ = some (.slice (some ad276) l0_1.length c0_1) ∧ w'.cell? ⟨gb267, 2, none⟩ = some (.slice A0_2 l0_2.length c0_2) ∧ w'.cell? ⟨gb268, 0, none⟩ = some (.int .i64 a1_0) ∧ w'.cell? ⟨gb268, 1, none⟩ = some (.int .i64 a1_1) ∧ w'.cell? (ad274.add (t273).toNat) = some (.int .i64 (rd l0_0 t273)) ∧ w'.cell? (ad274.add ((ji20)).toNat) = some (.int .i64 (rd l0_0 (ji20))) ∧ w'.cell? (ad276.add (t273).toNat) = some (.int .i64 (rd l0_1 t273)) ∧ w'.cell? (ad276.add ((ji20)).toNat) = some (.int .i64 (rd l0_1 (ji20)))) (ds := []) (bs_ 30 0) (by kernel_rfl) rfl (by kernel_rfl) ⟨bc0_ BK267, bc1_ BK267, bc2_ BK267, bc0_ BK268, bc1_ BK268, ((HB.out.cell (World.block_lt_of_cell? w _ hw274_0)).trans hw274_0), ((HB.out.cell (World.block_lt_of_cell? w _ hw275_0)).trans hw275_0), ((HB.out.cell (World.block_lt_of_cell? w _ hw276_0)).trans hw276_0), ((HB.out.cell (World.block_lt_of_cell? w _ hw277_0)).trans hw277_0)⟩ (fun hHeld => ?_); refine with_tabW impl_inside.tab4 impl_inside.bits4 (fun HT_ HW_ => ?_)
             generalize wc.drew = w33 at BK267 BK268 HB hx274_0 hx275_0 hx276_0 hx277_0 hHeld ⊢
             refine pu_ HT_ 0 39 (bs_ 30 1) ?_; refine pu_ HT_ 2 41 (bs_ 30 5) ?_; refine pu_ HT_ 5 44 (bs_ 30 37) ?_; refine pu_ HT_ 7 46 (bs_ 30 165) ?_; refine pu_ HT_ 8 47 (bs_ 30 421) ?_; refine pu_ HT_ 11 50 (bs_ 30 2469) ?_; refine pu_ HT_ 13 52 (bs_ 30 10661) ?_; refine pu_ HT_ 16 55 (bs_ 30 76197) ?_; refine pu_ HT_ 18 57 (bs_ 30 338341) ?_; refine pu_ HT_ 19 58 (bs_ 30 862629) ?_; refine pu_ HT_ 22 61 (bs_ 30 5056933) ?_; refine tk_ HT_ HW_ 1 40 (bs_ 30 5056935) hHeld ?_; refine pu_ HT_ 3 42 (bs_ 30 5056943) ?_; refine tk_ HT_ HW_ 4 43 (bs_ 30 5056959) hHeld ?_; refine tk_ HT_ HW_ 6 45 (bs_ 30 5057023) hHeld ?_; refine pu_ HT_ 9 48 (bs_ 30 5057535) ?_; refine tk_ HT_ HW_ 10 49 (bs_ 30 5058559) hHeld ?_; refine tk_ HT_ HW_ 12 51 (bs_ 30 5062655) hHeld ?_; refine pu_ HT_ 14 53 (bs_ 30 5079039) ?_; refine tk_ HT_ HW_ 15 54 (bs_ 30 5111807) hHeld ?_; refine tk_ HT_ HW_ 17 56 (bs_ 30 5242879) hHeld ?_; refine pu_ HT_ 20 59 (bs_ 30 6291455) ?_; refine tk_ HT_ HW_ 21 60 (bs_ 30 8388607) hHeld ?_; refine tk_ HT_ HW_ 23 62 (bs_ 30 16777215) hHeld ?_
             refine one_ (i := 24) (N := some 63) (bs_ 30 33554431) rfl rfl (one_of HT_.out (by kernel_rfl)) (by decide) (fun K hK => ?_)
             refine goes_ Try.func57 (by kernel_rfl) rfl #[.int .i64 (rd l0_0 t273), .int .i64 (rd l0_0 (ji20)), .int .i64 (rd l0_1 t273), .int .i64 (rd l0_1 (ji20)), .int .i64 a1_0] (by rfl) rfl rfl (by (try simp only [List.map_toArray, List.map_cons, List.map_nil]); first | done | (simp only [hji20]; rfl) | rfl | (simp only [List.length_drop, List.length_take]; rfl)) ?_
             with_reducible refine (impl_between.calls (rd l0_0 t273) (rd l0_0 (ji20)) (rd l0_1 t273) (rd l0_1 (ji20)) a1_0 t278 t279 _ A25.out).mono ?_
             rintro e w' ⟨rfl, ⟨nd, rfl⟩⟩
             refine ⟨_, rfl, ?_⟩
             refine hK.out _ _ ⟨bc0_ BK267, bc1_ BK267, bc2_ BK267, bc0_ BK268, bc1_ BK268, ((HB.out.cell (World.block_lt_of_cell? w _ hw274_0)).trans hw274_0), ((HB.out.cell (World.block_lt_of_cell? w _ hw275_0)).trans hw275_0), ((HB.out.cell (World.block_lt_of_cell? w _ hw276_0)).trans hw276_0), ((HB.out.cell (World.block_lt_of_cell? w _ hw277_0)).trans hw277_0)⟩ (fun hHeld => ?_)
             clear hK K; refine nm_ ?_; refine pu_ HT_ 25 38 (bs_ 30 67108863) ?_; refine pu_ HT_ 26 64 (bs_ 30 134217727) ?_; refine pu_ HT_ 27 65 (bs_ 30 268435455) ?_; refine pu_ HT_ 28 6 (bs_ 30 536870911) ?_; refine pu_ HT_ 29 7 (bs_ 30 1073741823) ?_
             refine done_ (done_of HT_.out (by kernel_rfl)) ?_
             try go_wp2
             (first | (rw [World.drewN_drewN]; (repeat rw [World.drewN_drewN]); generalize hq_ : World.drewN w33 _ = w33; have n0_ : Aside0 (w33.heap[gb267]? = some (.cells #[.slice (some ad274) l0_0.length c0_0, .slice (some ad276) l0_1.length c0_1, .slice A0_2 l0_2.length c0_2] 33 (0, 0))) := ⟨by rw [← hq_]; exact (bx_ BK267)⟩; have n1_ : Aside0 (w33.heap[gb268]? = some (.cells #[.int .i64 a1_0, .int .i64 a1_1] 35 (0, 0))) := ⟨by rw [← hq_]; exact (bx_ BK268)⟩; have n2_ : Aside0 (Below w.heap.size w w33) := ⟨by rw [← hq_]; exact (hw_ HB)⟩; clear BK267 BK268 HB hq_; have BK267 := n0_; have BK268 := n1_; have HB := n2_; clear n0_ n1_ n2_) | (rw [(rfl : World.drewN w33 nd = World.drewN w33 nd)]; generalize hq_ : World.drewN w33 nd = w33; have n0_ : Aside0 (w33.heap[gb267]? = some (.cells #[.slice (some ad274) l0_0.length c0_0, .slice (some ad276) l0_1.length c0_1, .slice A0_2 l0_2.length c0_2] 33 (0, 0))) := ⟨by rw [← hq_]; exact (bx_ BK267)⟩; have n1_ : Aside0 (w33.heap[gb268]? = some (.cells #[.int .i64 a1_0, .int .i64 a1_1] 35 (0, 0))) := ⟨by rw [← hq_]; exact (bx_ BK268)⟩; have n2_ : Aside0 (Below w.heap.size w w33) := ⟨by rw [← hq_]; exact (hw_ HB)⟩; clear BK267 BK268 HB hq_; have BK267 := n0_; have BK268 := n1_; have HB := n2_; clear n0_ n1_ n2_) | (try (rw [drewN_self w33]; generalize hq_ : World.drewN w33 _ = w33; have n0_ := qB_ hq_ BK267; have n1_ := qB_ hq_ BK268; have n2_ := qH_ hq_ HB; clear BK267 BK268 HB hq_; have BK267 := n0_; have BK268 := n1_; have HB := n2_; clear n0_ n1_ n2_)))
             replace BK267 := dB_ BK267; replace BK268 := dB_ BK268; replace HB := dH_ HB
             have p280 : 0 ≤ (t273 : Int) := od_
             have q280 : t273 < (l0_0.length : Int) := od_
             obtain ⟨ad280, e280, hx280_0⟩ := Kd.at_int HR0_0.out t273 p280 q280
             have hw280_0 := hx280_0
             obtain rfl : ad274 = ad280 := (by injection e280)
             replace hx280_0 := (HB.out.cell (World.block_lt_of_cell? w _ hx280_0)).trans hx280_0
             replace p280 := eq_true p280; replace q280 := eq_true q280
             have p281 : 0 ≤ ((ji20) : Int) := od_
             have q281 : (ji20) < (l0_0.length : Int) := od_
             obtain ⟨ad281, e281, hx281_0⟩ := Kd.at_int HR0_0.out (ji20) p281 q281
             have hw281_0 := hx281_0
             obtain rfl : ad274 = ad281 := (by injection e281)
             replace hx281_0 := (HB.out.cell (World.block_lt_of_cell? w _ hx281_0)).trans hx281_0
             replace p281 := eq_true p281; replace q281 := eq_true q281
             have p282 : 0 ≤ (t273 : Int) := od_
             have q282 : t273 < (l0_2.length : Int) := od_
             obtain ⟨ad282, e282, hx282_0⟩ := Kd.at_int HR0_2.out t273 p282 q282
             have hw282_0 := hx282_0
             cases e282
             replace hx282_0 := (HB.out.cell (World.block_lt_of_cell? w _ hx282_0)).trans hx282_0
             replace p282 := eq_true p282; replace q282 := eq_true q282
             have p283 : 0 ≤ ((ji20) : Int) := od_
             have q283 : (ji20) < (l0_2.length : Int) := od_
             obtain ⟨ad283, e283, hx283_0⟩ := Kd.at_int HR0_2.out (ji20) p283 q283
             have hw283_0 := hx283_0
             obtain rfl : ad282 = ad283 := (by injection e283)
             replace hx283_0 := (HB.out.cell (World.block_lt_of_cell? w _ hx283_0)).trans hx283_0
             replace p283 := eq_true p283; replace q283 := eq_true q283
             refine start_ (n := 30) (S := fun w' => w'.cell? ⟨gb267, 0, none⟩ = some (.slice (some ad274) l0_0.length c0_0) ∧ w'.cell? ⟨gb267, 1, none⟩ = some (.slice (some ad276) l0_1.length c0_1) ∧ w'.cell? ⟨gb267, 2, none⟩ = some (.slice (some ad282) l0_2.length c0_2) ∧ w'.cell? ⟨gb268, 0, none⟩ = some (.int .i64 a1_0) ∧ w'.cell? ⟨gb268, 1, none⟩ = some (.int .i64 a1_1) ∧ w'.cell? (ad274.add (t273).toNat) = some (.int .i64 (rd l0_0 t273)) ∧ w'.cell? (ad274.add ((ji20)).toNat) = some (.int .i64 (rd l0_0 (ji20))) ∧ w'.cell? (ad282.add (t273).toNat) = some (.int .i64 (rd l0_2 t273)) ∧ w'.cell? (ad282.add ((ji20)).toNat) = some (.int .i64 (rd l0_2 (ji20)))) (ds := []) (bs_ 30 0) (by kernel_rfl) rfl (by kernel_rfl) ⟨bc0_ BK267, bc1_ BK267, bc2_ BK267, bc0_ BK268, bc1_ BK268, ((HB.out.cell (World.block_lt_of_cell? w _ hw280_0)).trans hw280_0), ((HB.out.cell (World.block_lt_of_cell? w _ hw281_0)).trans hw281_0), ((HB.out.cell (World.block_lt_of_cell? w _ hw282_0)).trans hw282_0), ((HB.out.cell (World.block_lt_of_cell? w _ hw283_0)).trans hw283_0)⟩ (fun hHeld => ?_); refine with_tabW impl_inside.tab5 impl_inside.bits5 (fun HT_ HW_ => ?_)
             generalize w33.drew = w34 at BK267 BK268 HB hx280_0 hx281_0 hx282_0 hx283_0 hHeld ⊢
             refine pu_ HT_ 0 67 (bs_ 30 1) ?_; refine pu_ HT_ 2 69 (bs_ 30 5) ?_; refine pu_ HT_ 5 72 (bs_ 30 37) ?_; refine pu_ HT_ 7 74 (bs_ 30 165) ?_; refine pu_ HT_ 8 75 (bs_ 30 421) ?_; refine pu_ HT_ 11 78 (bs_ 30 2469) ?_; refine pu_ HT_ 13 80 (bs_ 30 10661) ?_; refine pu_ HT_ 16 83 (bs_ 30 76197) ?_; refine pu_ HT_ 18 85 (bs_ 30 338341) ?_; refine pu_ HT_ 19 86 (bs_ 30 862629) ?_; refine pu_ HT_ 22 89 (bs_ 30 5056933) ?_; refine tk_ HT_ HW_ 1 68 (bs_ 30 5056935) hHeld ?_; refine pu_ HT_ 3 70 (bs_ 30 5056943) ?_; refine tk_ HT_ HW_ 4 71 (bs_ 30 5056959) hHeld ?_; refine tk_ HT_ HW_ 6 73 (bs_ 30 5057023) hHeld ?_; refine pu_ HT_ 9 76 (bs_ 30 5057535) ?_; refine tk_ HT_ HW_ 10 77 (bs_ 30 5058559) hHeld ?_; refine tk_ HT_ HW_ 12 79 (bs_ 30 5062655) hHeld ?_; refine pu_ HT_ 14 81 (bs_ 30 5079039) ?_; refine tk_ HT_ HW_ 15 82 (bs_ 30 5111807) hHeld ?_; refine tk_ HT_ HW_ 17 84 (bs_ 30 5242879) hHeld ?_; refine pu_ HT_ 20 87 (bs_ 30 6291455) ?_; refine tk_ HT_ HW_ 21 88 (bs_ 30 8388607) hHeld ?_; refine tk_ HT_ HW_ 23 90 (bs_ 30 16777215) hHeld ?_
             refine one_ (i := 24) (N := some 91) (bs_ 30 33554431) rfl rfl (one_of HT_.out (by kernel_rfl)) (by decide) (fun K hK => ?_)
             refine goes_ Try.func57 (by kernel_rfl) rfl #[.int .i64 (rd l0_0 t273), .int .i64 (rd l0_0 (ji20)), .int .i64 (rd l0_2 t273), .int .i64 (rd l0_2 (ji20)), .int .i64 a1_0] (by rfl) rfl rfl (by (try simp only [List.map_toArray, List.map_cons, List.map_nil]); first | done | (simp only [hji20]; rfl) | rfl | (simp only [List.length_drop, List.length_take]; rfl)) ?_
             with_reducible refine (impl_between.calls (rd l0_0 t273) (rd l0_0 (ji20)) (rd l0_2 t273) (rd l0_2 (ji20)) a1_0 t284 t285 _ A28.out).mono ?_
             rintro e w' ⟨rfl, ⟨nd, rfl⟩⟩
             refine ⟨_, rfl, ?_⟩
             refine hK.out _ _ ⟨bc0_ BK267, bc1_ BK267, bc2_ BK267, bc0_ BK268, bc1_ BK268, ((HB.out.cell (World.block_lt_of_cell? w _ hw280_0)).trans hw280_0), ((HB.out.cell (World.block_lt_of_cell? w _ hw281_0)).trans hw281_0), ((HB.out.cell (World.block_lt_of_cell? w _ hw282_0)).trans hw282_0), ((HB.out.cell (World.block_lt_of_cell? w _ hw283_0)).trans hw283_0)⟩ (fun hHeld => ?_)
             clear hK K; refine nm_ ?_; refine pu_ HT_ 25 66 (bs_ 30 67108863) ?_; refine pu_ HT_ 26 92 (bs_ 30 134217727) ?_; refine pu_ HT_ 27 93 (bs_ 30 268435455) ?_; refine pu_ HT_ 28 8 (bs_ 30 536870911) ?_; refine pu_ HT_ 29 9 (bs_ 30 1073741823) ?_
             refine done_ (done_of HT_.out (by kernel_rfl)) ?_
             have hcz35_0 := bc0_ BK268; have hcz35_1 := bc1_ BK268; have hfz35_0 := bf_ BK268 0; have hfz35_1 := bf_ BK268 1
             try go_wp2
             go_ret
             exact ⟨by first | rfl | (simp [errW_none, errW_some] <;> rfl) | (simp only [← hji20]; first | rfl | (simp [errW_none, errW_some] <;> rfl)) | (simp [*, errW_none, errW_some] <;> rfl), hw_ HB⟩
            ·rw [if_neg c29] at H; have c29b0 : decide ((wrap64 (t278 * a1_0)) ≤ (wrap64 (a1_1 * t279))) = false := decide_eq_false c29; clear c29; obtain rfl := Option.some.inj H; have hnb36 := NB267_268.out; have hnc36 := NB268_267.out; have hcz37_0 := bc0_ BK267; have hcz37_1 := bc1_ BK267; have hcz37_2 := bc2_ BK267; have hfz37_0 := bf_ BK267 0; have hfz37_1 := bf_ BK267 1; have hfz37_2 := bf_ BK267 2; have hcz38_0 := bc0_ BK268; have hcz38_1 := bc1_ BK268; have hfz38_0 := bf_ BK268 0; have hfz38_1 := bf_ BK268 1
             try go_wp2_with (first | ((with_reducible refine gc_ 56 rfl ?_); refine gl_ (some 37) rfl Try.func56 #[.slice A0_0 l0_0.length c0_0, .int .i64 a1_0] ?_; (with_reducible refine (impl_piece.calls kj2 _ _ l0_0 a1_0 t273 _ ?side1 ?side2 A17.out).mono ?_); (case side1 => exact cw_ (Kd.C_below HR0_0.out HB.out)); (case side2 => exact HC0_0.out); rintro e w' ⟨rfl, ⟨nd, rfl⟩⟩; refine ⟨_, rfl, ?_⟩))
             (try (rw [drewN_self wc]; generalize hq_ : World.drewN wc _ = wc; have n0_ := qB_ hq_ BK267; have n1_ := qB_ hq_ BK268; have n2_ := qH_ hq_ HB; clear BK267 BK268 HB hq_; have BK267 := n0_; have BK268 := n1_; have HB := n2_; clear n0_ n1_ n2_))
             replace BK267 := dB_ BK267; replace BK268 := dB_ BK268; replace HB := dH_ HB
             have p274 : 0 ≤ (t273 : Int) := od_
             have q274 : t273 < (l0_0.length : Int) := od_
             obtain ⟨ad274, e274, hx274_0⟩ := Kd.at_int HR0_0.out t273 p274 q274
             have hw274_0 := hx274_0
             cases e274
             replace hx274_0 := (HB.out.cell (World.block_lt_of_cell? w _ hx274_0)).trans hx274_0
             replace p274 := eq_true p274; replace q274 := eq_true q274
             have p275 : 0 ≤ ((ji20) : Int) := od_
             have q275 : (ji20) < (l0_0.length : Int) := od_
             obtain ⟨ad275, e275, hx275_0⟩ := Kd.at_int HR0_0.out (ji20) p275 q275
             have hw275_0 := hx275_0
             obtain rfl : ad274 = ad275 := (by injection e275)
             replace hx275_0 := (HB.out.cell (World.block_lt_of_cell? w _ hx275_0)).trans hx275_0
             replace p275 := eq_true p275; replace q275 := eq_true q275
             have p276 : 0 ≤ (t273 : Int) := od_
             have q276 : t273 < (l0_1.length : Int) := od_
             obtain ⟨ad276, e276, hx276_0⟩ := Kd.at_int HR0_1.out t273 p276 q276
             have hw276_0 := hx276_0
             cases e276
             replace hx276_0 := (HB.out.cell (World.block_lt_of_cell? w _ hx276_0)).trans hx276_0
             replace p276 := eq_true p276; replace q276 := eq_true q276
             have p277 : 0 ≤ ((ji20) : Int) := od_
             have q277 : (ji20) < (l0_1.length : Int) := od_
             obtain ⟨ad277, e277, hx277_0⟩ := Kd.at_int HR0_1.out (ji20) p277 q277
             have hw277_0 := hx277_0
             obtain rfl : ad276 = ad277 := (by injection e277)
             replace hx277_0 := (HB.out.cell (World.block_lt_of_cell? w _ hx277_0)).trans hx277_0
             replace p277 := eq_true p277; replace q277 := eq_true q277
             refine start_ (n := 30) (S := fun w' => w'.cell? ⟨gb267, 0, none⟩ = some (.slice (some ad274) l0_0.length c0_0) ∧ w'.cell? ⟨gb267, 1, none⟩ = some (.slice (some ad276) l0_1.length c0_1) ∧ w'.cell? ⟨gb267, 2, none⟩ = some (.slice A0_2 l0_2.length c0_2) ∧ w'.cell? ⟨gb268, 0, none⟩ = some (.int .i64 a1_0) ∧ w'.cell? ⟨gb268, 1, none⟩ = some (.int .i64 a1_1) ∧ w'.cell? (ad274.add (t273).toNat) = some (.int .i64 (rd l0_0 t273)) ∧ w'.cell? (ad274.add ((ji20)).toNat) = some (.int .i64 (rd l0_0 (ji20))) ∧ w'.cell? (ad276.add (t273).toNat) = some (.int .i64 (rd l0_1 t273)) ∧ w'.cell? (ad276.add ((ji20)).toNat) = some (.int .i64 (rd l0_1 (ji20)))) (ds := []) (bs_ 30 0) (by kernel_rfl) rfl (by kernel_rfl) ⟨bc0_ BK267, bc1_ BK267, bc2_ BK267, bc0_ BK268, bc1_ BK268, ((HB.out.cell (World.block_lt_of_cell? w _ hw274_0)).trans hw274_0), ((HB.out.cell (World.block_lt_of_cell? w _ hw275_0)).trans hw275_0), ((HB.out.cell (World.block_lt_of_cell? w _ hw276_0)).trans hw276_0), ((HB.out.cell (World.block_lt_of_cell? w _ hw277_0)).trans hw277_0)⟩ (fun hHeld => ?_); refine with_tabW impl_inside.tab4 impl_inside.bits4 (fun HT_ HW_ => ?_)
             generalize wc.drew = w39 at BK267 BK268 HB hx274_0 hx275_0 hx276_0 hx277_0 hHeld ⊢
             refine pu_ HT_ 0 39 (bs_ 30 1) ?_; refine pu_ HT_ 2 41 (bs_ 30 5) ?_; refine pu_ HT_ 5 44 (bs_ 30 37) ?_; refine pu_ HT_ 7 46 (bs_ 30 165) ?_; refine pu_ HT_ 8 47 (bs_ 30 421) ?_; refine pu_ HT_ 11 50 (bs_ 30 2469) ?_; refine pu_ HT_ 13 52 (bs_ 30 10661) ?_; refine pu_ HT_ 16 55 (bs_ 30 76197) ?_; refine pu_ HT_ 18 57 (bs_ 30 338341) ?_; refine pu_ HT_ 19 58 (bs_ 30 862629) ?_; refine pu_ HT_ 22 61 (bs_ 30 5056933) ?_; refine tk_ HT_ HW_ 1 40 (bs_ 30 5056935) hHeld ?_; refine pu_ HT_ 3 42 (bs_ 30 5056943) ?_; refine tk_ HT_ HW_ 4 43 (bs_ 30 5056959) hHeld ?_; refine tk_ HT_ HW_ 6 45 (bs_ 30 5057023) hHeld ?_; refine pu_ HT_ 9 48 (bs_ 30 5057535) ?_; refine tk_ HT_ HW_ 10 49 (bs_ 30 5058559) hHeld ?_; refine tk_ HT_ HW_ 12 51 (bs_ 30 5062655) hHeld ?_; refine pu_ HT_ 14 53 (bs_ 30 5079039) ?_; refine tk_ HT_ HW_ 15 54 (bs_ 30 5111807) hHeld ?_; refine tk_ HT_ HW_ 17 56 (bs_ 30 5242879) hHeld ?_; refine pu_ HT_ 20 59 (bs_ 30 6291455) ?_; refine tk_ HT_ HW_ 21 60 (bs_ 30 8388607) hHeld ?_; refine tk_ HT_ HW_ 23 62 (bs_ 30 16777215) hHeld ?_
             refine one_ (i := 24) (N := some 63) (bs_ 30 33554431) rfl rfl (one_of HT_.out (by kernel_rfl)) (by decide) (fun K hK => ?_)
             refine goes_ Try.func57 (by kernel_rfl) rfl #[.int .i64 (rd l0_0 t273), .int .i64 (rd l0_0 (ji20)), .int .i64 (rd l0_1 t273), .int .i64 (rd l0_1 (ji20)), .int .i64 a1_0] (by rfl) rfl rfl (by (try simp only [List.map_toArray, List.map_cons, List.map_nil]); first | done | (simp only [hji20]; rfl) | rfl | (simp only [List.length_drop, List.length_take]; rfl)) ?_
             with_reducible refine (impl_between.calls (rd l0_0 t273) (rd l0_0 (ji20)) (rd l0_1 t273) (rd l0_1 (ji20)) a1_0 t278 t279 _ A25.out).mono ?_
             rintro e w' ⟨rfl, ⟨nd, rfl⟩⟩
             refine ⟨_, rfl, ?_⟩
             refine hK.out _ _ ⟨bc0_ BK267, bc1_ BK267, bc2_ BK267, bc0_ BK268, bc1_ BK268, ((HB.out.cell (World.block_lt_of_cell? w _ hw274_0)).trans hw274_0), ((HB.out.cell (World.block_lt_of_cell? w _ hw275_0)).trans hw275_0), ((HB.out.cell (World.block_lt_of_cell? w _ hw276_0)).trans hw276_0), ((HB.out.cell (World.block_lt_of_cell? w _ hw277_0)).trans hw277_0)⟩ (fun hHeld => ?_)
             clear hK K; refine nm_ ?_; refine pu_ HT_ 25 38 (bs_ 30 67108863) ?_; refine pu_ HT_ 26 64 (bs_ 30 134217727) ?_; refine pu_ HT_ 27 65 (bs_ 30 268435455) ?_; refine pu_ HT_ 28 6 (bs_ 30 536870911) ?_; refine pu_ HT_ 29 7 (bs_ 30 1073741823) ?_
             refine done_ (done_of HT_.out (by kernel_rfl)) ?_
             try go_wp2
             (first | (rw [World.drewN_drewN]; (repeat rw [World.drewN_drewN]); generalize hq_ : World.drewN w39 _ = w39; have n0_ : Aside0 (w39.heap[gb267]? = some (.cells #[.slice (some ad274) l0_0.length c0_0, .slice (some ad276) l0_1.length c0_1, .slice A0_2 l0_2.length c0_2] 33 (0, 0))) := ⟨by rw [← hq_]; exact (bx_ BK267)⟩; have n1_ : Aside0 (w39.heap[gb268]? = some (.cells #[.int .i64 a1_0, .int .i64 a1_1] 35 (0, 0))) := ⟨by rw [← hq_]; exact (bx_ BK268)⟩; have n2_ : Aside0 (Below w.heap.size w w39) := ⟨by rw [← hq_]; exact (hw_ HB)⟩; clear BK267 BK268 HB hq_; have BK267 := n0_; have BK268 := n1_; have HB := n2_; clear n0_ n1_ n2_) | (rw [(rfl : World.drewN w39 nd = World.drewN w39 nd)]; generalize hq_ : World.drewN w39 nd = w39; have n0_ : Aside0 (w39.heap[gb267]? = some (.cells #[.slice (some ad274) l0_0.length c0_0, .slice (some ad276) l0_1.length c0_1, .slice A0_2 l0_2.length c0_2] 33 (0, 0))) := ⟨by rw [← hq_]; exact (bx_ BK267)⟩; have n1_ : Aside0 (w39.heap[gb268]? = some (.cells #[.int .i64 a1_0, .int .i64 a1_1] 35 (0, 0))) := ⟨by rw [← hq_]; exact (bx_ BK268)⟩; have n2_ : Aside0 (Below w.heap.size w w39) := ⟨by rw [← hq_]; exact (hw_ HB)⟩; clear BK267 BK268 HB hq_; have BK267 := n0_; have BK268 := n1_; have HB := n2_; clear n0_ n1_ n2_) | (try (rw [drewN_self w39]; generalize hq_ : World.drewN w39 _ = w39; have n0_ := qB_ hq_ BK267; have n1_ := qB_ hq_ BK268; have n2_ := qH_ hq_ HB; clear BK267 BK268 HB hq_; have BK267 := n0_; have BK268 := n1_; have HB := n2_; clear n0_ n1_ n2_)))
             replace BK267 := dB_ BK267; replace BK268 := dB_ BK268; replace HB := dH_ HB
             have p280 : 0 ≤ (t273 : Int) := od_
             have q280 : t273 < (l0_0.length : Int) := od_
             obtain ⟨ad280, e280, hx280_0⟩ := Kd.at_int HR0_0.out t273 p280 q280
             have hw280_0 := hx280_0
             obtain rfl : ad274 = ad280 := (by injection e280)
             replace hx280_0 := (HB.out.cell (World.block_lt_of_cell? w _ hx280_0)).trans hx280_0
             replace p280 := eq_true p280; replace q280 := eq_true q280
             have p281 : 0 ≤ ((ji20) : Int) := od_
             have q281 : (ji20) < (l0_0.length : Int) := od_
             obtain ⟨ad281, e281, hx281_0⟩ := Kd.at_int HR0_0.out (ji20) p281 q281
             have hw281_0 := hx281_0
             obtain rfl : ad274 = ad281 := (by injection e281)
             replace hx281_0 := (HB.out.cell (World.block_lt_of_cell? w _ hx281_0)).trans hx281_0
             replace p281 := eq_true p281; replace q281 := eq_true q281
             have p282 : 0 ≤ (t273 : Int) := od_
             have q282 : t273 < (l0_2.length : Int) := od_
             obtain ⟨ad282, e282, hx282_0⟩ := Kd.at_int HR0_2.out t273 p282 q282
             have hw282_0 := hx282_0
             cases e282
             replace hx282_0 := (HB.out.cell (World.block_lt_of_cell? w _ hx282_0)).trans hx282_0
             replace p282 := eq_true p282; replace q282 := eq_true q282
             have p283 : 0 ≤ ((ji20) : Int) := od_
             have q283 : (ji20) < (l0_2.length : Int) := od_
             obtain ⟨ad283, e283, hx283_0⟩ := Kd.at_int HR0_2.out (ji20) p283 q283
             have hw283_0 := hx283_0
             obtain rfl : ad282 = ad283 := (by injection e283)
             replace hx283_0 := (HB.out.cell (World.block_lt_of_cell? w _ hx283_0)).trans hx283_0
             replace p283 := eq_true p283; replace q283 := eq_true q283
             refine start_ (n := 30) (S := fun w' => w'.cell? ⟨gb267, 0, none⟩ = some (.slice (some ad274) l0_0.length c0_0) ∧ w'.cell? ⟨gb267, 1, none⟩ = some (.slice (some ad276) l0_1.length c0_1) ∧ w'.cell? ⟨gb267, 2, none⟩ = some (.slice (some ad282) l0_2.length c0_2) ∧ w'.cell? ⟨gb268, 0, none⟩ = some (.int .i64 a1_0) ∧ w'.cell? ⟨gb268, 1, none⟩ = some (.int .i64 a1_1) ∧ w'.cell? (ad274.add (t273).toNat) = some (.int .i64 (rd l0_0 t273)) ∧ w'.cell? (ad274.add ((ji20)).toNat) = some (.int .i64 (rd l0_0 (ji20))) ∧ w'.cell? (ad282.add (t273).toNat) = some (.int .i64 (rd l0_2 t273)) ∧ w'.cell? (ad282.add ((ji20)).toNat) = some (.int .i64 (rd l0_2 (ji20)))) (ds := []) (bs_ 30 0) (by kernel_rfl) rfl (by kernel_rfl) ⟨bc0_ BK267, bc1_ BK267, bc2_ BK267, bc0_ BK268, bc1_ BK268, ((HB.out.cell (World.block_lt_of_cell? w _ hw280_0)).trans hw280_0), ((HB.out.cell (World.block_lt_of_cell? w _ hw281_0)).trans hw281_0), ((HB.out.cell (World.block_lt_of_cell? w _ hw282_0)).trans hw282_0), ((HB.out.cell (World.block_lt_of_cell? w _ hw283_0)).trans hw283_0)⟩ (fun hHeld => ?_); refine with_tabW impl_inside.tab5 impl_inside.bits5 (fun HT_ HW_ => ?_)
             generalize w39.drew = w40 at BK267 BK268 HB hx280_0 hx281_0 hx282_0 hx283_0 hHeld ⊢
             refine pu_ HT_ 0 67 (bs_ 30 1) ?_; refine pu_ HT_ 2 69 (bs_ 30 5) ?_; refine pu_ HT_ 5 72 (bs_ 30 37) ?_; refine pu_ HT_ 7 74 (bs_ 30 165) ?_; refine pu_ HT_ 8 75 (bs_ 30 421) ?_; refine pu_ HT_ 11 78 (bs_ 30 2469) ?_; refine pu_ HT_ 13 80 (bs_ 30 10661) ?_; refine pu_ HT_ 16 83 (bs_ 30 76197) ?_; refine pu_ HT_ 18 85 (bs_ 30 338341) ?_; refine pu_ HT_ 19 86 (bs_ 30 862629) ?_; refine pu_ HT_ 22 89 (bs_ 30 5056933) ?_; refine tk_ HT_ HW_ 1 68 (bs_ 30 5056935) hHeld ?_; refine pu_ HT_ 3 70 (bs_ 30 5056943) ?_; refine tk_ HT_ HW_ 4 71 (bs_ 30 5056959) hHeld ?_; refine tk_ HT_ HW_ 6 73 (bs_ 30 5057023) hHeld ?_; refine pu_ HT_ 9 76 (bs_ 30 5057535) ?_; refine tk_ HT_ HW_ 10 77 (bs_ 30 5058559) hHeld ?_; refine tk_ HT_ HW_ 12 79 (bs_ 30 5062655) hHeld ?_; refine pu_ HT_ 14 81 (bs_ 30 5079039) ?_; refine tk_ HT_ HW_ 15 82 (bs_ 30 5111807) hHeld ?_; refine tk_ HT_ HW_ 17 84 (bs_ 30 5242879) hHeld ?_; refine pu_ HT_ 20 87 (bs_ 30 6291455) ?_; refine tk_ HT_ HW_ 21 88 (bs_ 30 8388607) hHeld ?_; refine tk_ HT_ HW_ 23 90 (bs_ 30 16777215) hHeld ?_
             refine one_ (i := 24) (N := some 91) (bs_ 30 33554431) rfl rfl (one_of HT_.out (by kernel_rfl)) (by decide) (fun K hK => ?_)
             refine goes_ Try.func57 (by kernel_rfl) rfl #[.int .i64 (rd l0_0 t273), .int .i64 (rd l0_0 (ji20)), .int .i64 (rd l0_2 t273), .int .i64 (rd l0_2 (ji20)), .int .i64 a1_0] (by rfl) rfl rfl (by (try simp only [List.map_toArray, List.map_cons, List.map_nil]); first | done | (simp only [hji20]; rfl) | rfl | (simp only [List.length_drop, List.length_take]; rfl)) ?_
             with_reducible refine (impl_between.calls (rd l0_0 t273) (rd l0_0 (ji20)) (rd l0_2 t273) (rd l0_2 (ji20)) a1_0 t284 t285 _ A28.out).mono ?_
             rintro e w' ⟨rfl, ⟨nd, rfl⟩⟩
             refine ⟨_, rfl, ?_⟩
             refine hK.out _ _ ⟨bc0_ BK267, bc1_ BK267, bc2_ BK267, bc0_ BK268, bc1_ BK268, ((HB.out.cell (World.block_lt_of_cell? w _ hw280_0)).trans hw280_0), ((HB.out.cell (World.block_lt_of_cell? w _ hw281_0)).trans hw281_0), ((HB.out.cell (World.block_lt_of_cell? w _ hw282_0)).trans hw282_0), ((HB.out.cell (World.block_lt_of_cell? w _ hw283_0)).trans hw283_0)⟩ (fun hHeld => ?_)
             clear hK K; refine nm_ ?_; refine pu_ HT_ 25 66 (bs_ 30 67108863) ?_; refine pu_ HT_ 26 92 (bs_ 30 134217727) ?_; refine pu_ HT_ 27 93 (bs_ 30 268435455) ?_; refine pu_ HT_ 28 8 (bs_ 30 536870911) ?_; refine pu_ HT_ 29 9 (bs_ 30 1073741823) ?_
             refine done_ (done_of HT_.out (by kernel_rfl)) ?_
             have hcz41_0 := bc0_ BK268; have hcz41_1 := bc1_ BK268; have hfz41_0 := bf_ BK268 0; have hfz41_1 := bf_ BK268 1
             try go_wp2
             go_ret
             exact ⟨by first | rfl | (simp [errW_none, errW_some] <;> rfl) | (simp only [← hji20]; first | rfl | (simp [errW_none, errW_some] <;> rfl)) | (simp [*, errW_none, errW_some] <;> rfl), hw_ HB⟩
           ·rw [if_neg c27] at H
            exact absurd H (by simp)
          ·rw [if_neg c26] at H
           exact absurd H (by simp)
         ·rw [if_neg c24] at H
          exact absurd H (by simp)
        ·rw [if_neg c23] at H
         exact absurd H (by simp)
       ·rw [if_neg c22] at H
        exact absurd H (by simp)
      ·rw [if_neg c21] at H
       exact absurd H (by simp)
     ·rw [if_neg c19] at H
      exact absurd H (by simp)
    ·rw [if_neg c18] at H
     exact absurd H (by simp)

end Go.Proofs.Yteedbciobdcmaaa.QFnExactLeaves
-- squeezed
