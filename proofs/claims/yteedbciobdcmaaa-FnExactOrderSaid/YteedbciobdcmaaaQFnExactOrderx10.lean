/- Lean functions that tell what the Go functions used by one law answer, and for each a proof that the Go code comes to just these answers; no condition. Printed by this session's own program over the kit's printer. -/
import Derived.Test.YteedbciobdcmaaaWSq
import Derived.Test.YteedbciobdcmaaaQFnExactOrderx0
import Derived.Test.YteedbciobdcmaaaQFnExactOrderx8
import Derived.Test.YteedbciobdcmaaaQFnExactOrderx9
namespace Go.Proofs.Yteedbciobdcmaaa.QFnExactOrder
open Go.RowKit Go.Proofs.YteedbciobdcmaaaW.PrintWords Go.Proofs.YteedbciobdcmaaaW.PrintLast Go.Proofs.YteedbciobdcmaaaW.PrintMore
attribute [local go_sem] max2_int min2_int max_two min_two max_three min_three max_four min_four   -- for this text's walks alone
attribute [local go_sem high] go_eql go_neq go_lss go_leq go_gtr go_geq go_store   -- for this text's walks alone
set_option linter.unusedVariables false
set_option linter.unusedSimpArgs false

/-! ### impl_inside: function 39 -/
def impl_inside.j0 : Nat → Bool → List Int → List Int → List Int → Int → Int → Option (Bool)
 | 0, _, _, _, _, _, _ => none
 | k + 1, x32, x253000, x253001, x253002, x254000, x254001 => if x32 = true then (some false) else ((impl_piece.f k x253000 x254000).bind fun t258 => (if 0 ≤ t258 then (if t258 < (x253000.length : Int) then (if 0 ≤ (wrap64 (t258 + 1)) then (if (wrap64 (t258 + 1)) < (x253000.length : Int) then (if t258 < (x253001.length : Int) then (if (wrap64 (t258 + 1)) < (x253001.length : Int) then ((impl_between.f (rd x253000 t258) (rd x253000 (wrap64 (t258 + 1))) (rd x253001 t258) (rd x253001 (wrap64 (t258 + 1))) x254000).bind fun bt263 => (if t258 < (x253002.length : Int) then (if (wrap64 (t258 + 1)) < (x253002.length : Int) then ((impl_between.f (rd x253000 t258) (rd x253000 (wrap64 (t258 + 1))) (rd x253002 t258) (rd x253002 (wrap64 (t258 + 1))) x254000).bind fun bt269 => (if (wrap64 (x254001 * bt263.2)) ≥ (wrap64 (bt263.1 * x254000)) then (some (decide ((wrap64 (x254001 * bt263.2)) ≤ (wrap64 (bt269.1 * x254000))))) else (some false))) else (none)) else (none))) else (none)) else (none)) else (none)) else (none)) else (none)) else (none)))
def impl_inside.f (k : Nat) (l0_0 : List Int) (l0_1 : List Int) (l0_2 : List Int) (a1_0 : Int) (a1_1 : Int) : Option (Bool) := if 0 < (l0_0.length : Int) then (if 0 ≤ (wrap64 ((l0_0.length : Int) - 1)) then (if (wrap64 ((l0_0.length : Int) - 1)) < (l0_0.length : Int) then ((impl_in.f a1_0 (mx (rd l0_0 0) 1) (rd l0_0 (wrap64 ((l0_0.length : Int) - 1)))).bind fun t256 => (if t256 = true then ((impl_in.f a1_1 (-1000000000) 1000000000).bind fun t257 => (impl_inside.j0 k (!t257) l0_0 l0_1 l0_2 a1_0 a1_1)) else (impl_inside.j0 k true l0_0 l0_1 l0_2 a1_0 a1_1))) else (none)) else (none)) else (none)
theorem impl_inside.mono_l : ∀ k, (∀ y0 y1 y2 y3 y4 y5, LeO (impl_inside.j0 k y0 y1 y2 y3 y4 y5) (impl_inside.j0 (k + 1) y0 y1 y2 y3 y4 y5))
 | 0 => fun _ _ _ _ _ _ r h => by simp [impl_inside.j0] at h
 | k + 1 => by
  have ih0 := impl_inside.mono_l k
  ·intro y0 y1 y2 y3 y4 y5
   unfold impl_inside.j0
   repeat' first
   | (with_reducible exact ih0 _ _ _ _ _ _)
   | (with_reducible exact impl_piece.mono _ _ _)
   | (with_reducible exact LeO.refl _)
   | (with_reducible exact LeO.none _)
   | (with_reducible refine LeO.ite ?_ ?_)
   | (with_reducible refine LeO.bind ?_ (fun _ => ?_))
   | exact ih0 _ _ _ _ _ _
   | exact impl_piece.mono _ _ _
   | exact LeO.none _
   | refine LeO.ite ?_ ?_
   | refine LeO.bind ?_ (fun _ => ?_)
theorem impl_inside.mono : ∀ a0 a1 a2 a3 a4 k, LeO (impl_inside.f k a0 a1 a2 a3 a4) (impl_inside.f (k + 1) a0 a1 a2 a3 a4) := by
 intro a0 a1 a2 a3 a4 k
 have ih0 := impl_inside.mono_l k
 unfold impl_inside.f
 repeat' first
   | (with_reducible exact ih0 _ _ _ _ _ _)
   | (with_reducible exact impl_piece.mono _ _ _)
   | (with_reducible exact LeO.refl _)
   | (with_reducible exact LeO.none _)
   | (with_reducible refine LeO.ite ?_ ?_)
   | (with_reducible refine LeO.bind ?_ (fun _ => ?_))
   | exact ih0 _ _ _ _ _ _
   | exact impl_piece.mono _ _ _
   | exact LeO.none _
   | refine LeO.ite ?_ ?_
   | refine LeO.bind ?_ (fun _ => ?_)
def impl_inside.T1 : Bool × List (List Nat × List Nat) := (true, [([], []), ([0], [0]), ([], []), ([2], [2]), ([3], [3]), ([4], [4]), ([5], [5]), ([], []), ([7], [7]), ([], []), ([9], [9]), ([10], [10]), ([11], [11]), ([8, 12], [8, 12]), ([13], [13]), ([1, 6, 14], [1, 6, 14]), ([15], [15]), ([16, 15], [16]), ([17], [17]), ([18, 17], [17, 18]), ([19, 17, 17], [17, 19]), ([20, 17], [17, 20]), ([17, 21], [17, 21])])
def impl_inside.B1 : List Nat := [0, 1, 0, 4, 12, 28, 60, 0, 128, 0, 512, 1536, 3584, 8064, 16256, 32767, 65535, 131071, 262143, 524287, 1048575, 2097151, 4194303]
theorem impl_inside.tab1 : rtab .any (opsOf Try.f39 1) = impl_inside.T1 := by kernel_rfl
theorem impl_inside.bits1 : waitsOk impl_inside.T1.2 impl_inside.B1 = true := by kernel_rfl
def impl_inside.T4 : Bool × List (List Nat × List Nat) := (true, [([], []), ([0], [0]), ([], []), ([1, 2], [1, 2]), ([3], [3]), ([], []), ([5], [5]), ([], []), ([7], [7]), ([6, 8], [6, 8]), ([9], [9]), ([], []), ([11], [11]), ([], []), ([12, 13], [12, 13]), ([14], [14]), ([], []), ([16], [16]), ([], []), ([18], [18]), ([17, 19], [17, 19]), ([20], [20]), ([], []), ([22], [22]), ([4, 10, 15, 21, 23], [4, 10, 15, 21, 23]), ([24], [24]), ([25], [25]), ([25], [25]), ([26, 24, 0, 1, 2, 3, 4, 5, 6, 7, 8, 9, 10, 11, 12, 13, 14, 15, 16, 17, 18, 19, 20, 21, 22, 23, 24, 25, 26], [26]), ([27, 28, 0, 1, 2, 3, 4, 5, 6, 7, 8, 9, 10, 11, 12, 13, 14, 15, 16, 17, 18, 19, 20, 21, 22, 23, 24, 25, 26, 27, 28], [27])])
def impl_inside.B4 : List Nat := [0, 1, 0, 7, 15, 0, 32, 0, 128, 480, 992, 0, 2048, 0, 14336, 30720, 0, 65536, 0, 262144, 983040, 2031616, 0, 4194304, 16777215, 33554431, 67108863, 67108863, 134217727, 536870911]
theorem impl_inside.tab4 : rtab .any (opsOf Try.f39 4) = impl_inside.T4 := by kernel_rfl
theorem impl_inside.bits4 : waitsOk impl_inside.T4.2 impl_inside.B4 = true := by kernel_rfl
def impl_inside.T5 : Bool × List (List Nat × List Nat) := (true, [([], []), ([0], [0]), ([], []), ([1, 2], [1, 2]), ([3], [3]), ([], []), ([5], [5]), ([], []), ([7], [7]), ([6, 8], [6, 8]), ([9], [9]), ([], []), ([11], [11]), ([], []), ([12, 13], [12, 13]), ([14], [14]), ([], []), ([16], [16]), ([], []), ([18], [18]), ([17, 19], [17, 19]), ([20], [20]), ([], []), ([22], [22]), ([4, 10, 15, 21, 23], [4, 10, 15, 21, 23]), ([24], [24]), ([25], [25]), ([25], [25]), ([26, 24, 0, 1, 2, 3, 4, 5, 6, 7, 8, 9, 10, 11, 12, 13, 14, 15, 16, 17, 18, 19, 20, 21, 22, 23, 24, 25, 26], [26]), ([27, 28, 0, 1, 2, 3, 4, 5, 6, 7, 8, 9, 10, 11, 12, 13, 14, 15, 16, 17, 18, 19, 20, 21, 22, 23, 24, 25, 26, 27, 28], [27])])
def impl_inside.B5 : List Nat := [0, 1, 0, 7, 15, 0, 32, 0, 128, 480, 992, 0, 2048, 0, 14336, 30720, 0, 65536, 0, 262144, 983040, 2031616, 0, 4194304, 16777215, 33554431, 67108863, 67108863, 134217727, 536870911]
theorem impl_inside.tab5 : rtab .any (opsOf Try.f39 5) = impl_inside.T5 := by kernel_rfl
theorem impl_inside.bits5 : waitsOk impl_inside.T5.2 impl_inside.B5 = true := by kernel_rfl
set_option maxHeartbeats 8000000 in
set_option maxRecDepth 100000 in
theorem impl_inside.calls (k : Nat) (A0_0 : Option Addr) (c0_0 : Nat) (l0_0 : List Int) (A0_1 : Option Addr) (c0_1 : Nat) (l0_1 : List Int) (A0_2 : Option Addr) (c0_2 : Nat) (l0_2 : List Int) (a1_0 : Int) (a1_1 : Int) (r : Bool) (w : World) (hr0_0 : Kd.C (Kd.int .i64) w A0_0 l0_0.length l0_0) (hc0_0 : l0_0.length ≤ c0_0) (hr0_1 : Kd.C (Kd.int .i64) w A0_1 l0_1.length l0_1) (hc0_1 : l0_1.length ≤ c0_1) (hr0_2 : Kd.C (Kd.int .i64) w A0_2 l0_2.length l0_2) (hc0_2 : l0_2.length ≤ c0_2) (h : impl_inside.f k l0_0 l0_1 l0_2 a1_0 a1_1 = some r) :
  Calls Try.prog 39 #[.agg #[.slice A0_0 l0_0.length c0_0, .slice A0_1 l0_1.length c0_1, .slice A0_2 l0_2.length c0_2], .agg #[.int .i64 a1_0, .int .i64 a1_1]] w fun e w' => e = .returned (.bool r) ∧ Below w.heap.size w w' := by
 have hu33 := Try.underlying33
 have hu35 := Try.underlying35
 have HR0_0 := mk_ hr0_0; have HC0_0 := mk_ hc0_0; clear hr0_0 hc0_0; have HR0_1 := mk_ hr0_1; have HC0_1 := mk_ hc0_1; clear hr0_1 hc0_1; have HR0_2 := mk_ hr0_2; have HC0_2 := mk_ hc0_2; clear hr0_2 hc0_2; have HB := mk_ (Below.refl w.heap.size w)
 have H : (if 0 < (l0_0.length : Int) then (if 0 ≤ (wrap64 ((l0_0.length : Int) - 1)) then (if (wrap64 ((l0_0.length : Int) - 1)) < (l0_0.length : Int) then ((impl_in.f a1_0 (mx (rd l0_0 0) 1) (rd l0_0 (wrap64 ((l0_0.length : Int) - 1)))).bind fun t256 => (if t256 = true then ((impl_in.f a1_1 (-1000000000) 1000000000).bind fun t257 => (impl_inside.j0 k (!t257) l0_0 l0_1 l0_2 a1_0 a1_1)) else (impl_inside.j0 k true l0_0 l0_1 l0_2 a1_0 a1_1))) else (none)) else (none)) else (none)) = some r := h
 clear h; have HC3 := mk_ H; clear H
 go_enter Try.func39, Try.ntmps39
 go_upto_region 1 with (first | ((with_reducible refine gd_ 2 rfl ?_); refine box_event ?hg (N := 2) ?hd (cs := #[.slice A0_0 l0_0.length c0_0, .slice A0_1 l0_1.length c0_1, .slice A0_2 l0_2.length c0_2]) (t := 33) ?hr ?_; (case hd => rfl); (case hg => rfl); (case hr => exact hr_); intro gb252 hg w4 hbox hb; have BK252 := mk_ (hbox); have GW252 := gb_ hg HB; replace HB := bp_ HB hb; have GE252 := GW252; clear hb hbox hg) | ((with_reducible refine gd_ 3 rfl ?_); refine box_event ?hg (N := 3) ?hd (cs := #[.int .i64 a1_0, .int .i64 a1_1]) (t := 35) ?hr ?_; (case hd => rfl); (case hg => rfl); (case hr => exact hr_); intro gb253 hg w5 hbox hb; have BK253 := mk_ (hbox); have GW253 := gb_ hg HB; replace HB := bp_ HB hb; have GE253 := GW253; have NB252_253 := nb_ hg BK252; replace BK252 := bl_ BK252 hb; have NB253_252 := ns_ NB252_253; clear hb hbox hg))
 (try simp only [Act.put, List.setIfInBounds_toArray, List.set_cons_zero, List.set_cons_succ])
 go_cut [32] (fun v32 wc => ∃ (kq : Nat) (x32_2 : Bool), v32 = .bool x32_2 ∧ Aside0 (impl_inside.j0 kq x32_2 l0_0 l0_1 l0_2 a1_0 a1_1 = some r) ∧ Aside0 (kq ≤ k) ∧ Aside0 (wc.heap[gb252]? = some (.cells #[(.slice A0_0 l0_0.length c0_0), (.slice A0_1 l0_1.length c0_1), (.slice A0_2 l0_2.length c0_2)] 33 (0, 0))) ∧ Aside0 (wc.heap[gb253]? = some (.cells #[.int .i64 a1_0, .int .i64 a1_1] 35 (0, 0))) ∧ Aside0 (Below w.heap.size w wc))
 case first =>
  have H := HC3.out; clear HC3; by_cases c6 : 0 < (l0_0.length : Int)
  ·rw [if_pos c6] at H; have c6b0 : decide (0 < (l0_0.length : Int)) = true := decide_eq_true c6; have c6b1 : decide (0 < l0_0.length) = true := decide_eq_true (by omega); clear c6
   (first | rw [c6b0] | (simp only [i64_w, i32_w]; rw [c6b0]) | skip)
   obtain ⟨ji7, hji7⟩ : ∃ j_ : Int, (mx (rd l0_0 0) 1) = j_ := ⟨_, rfl⟩
   replace H : (if 0 ≤ (wrap64 ((l0_0.length : Int) - 1)) then (if (wrap64 ((l0_0.length : Int) - 1)) < (l0_0.length : Int) then ((impl_in.f a1_0 (ji7) (rd l0_0 (wrap64 ((l0_0.length : Int) - 1)))).bind fun t256 => (if t256 = true then ((impl_in.f a1_1 (-1000000000) 1000000000).bind fun t257 => (impl_inside.j0 k (!t257) l0_0 l0_1 l0_2 a1_0 a1_1)) else (impl_inside.j0 k true l0_0 l0_1 l0_2 a1_0 a1_1))) else (none)) else (none)) = some r := by first | (rw [hji7] at H; exact H) | (simp only [hji7] at H ⊢; exact H)
   (try (have hji7l : 1 ≤ ji7 := by (rw [← hji7]; unfold mx; (repeat' split) <;> omega)))
   (try (have hji7m : 0 ≤ ji7 := by omega))
   have hji7_ : (if (rd l0_0 0) < 1 then 1 else (rd l0_0 0)) = ji7 := hji7
   obtain ⟨ji8, hji8⟩ : ∃ j_ : Int, (wrap64 ((l0_0.length : Int) - 1)) = j_ := ⟨_, rfl⟩
   replace H : (if 0 ≤ (ji8) then (if (ji8) < (l0_0.length : Int) then ((impl_in.f a1_0 (ji7) (rd l0_0 (ji8))).bind fun t256 => (if t256 = true then ((impl_in.f a1_1 (-1000000000) 1000000000).bind fun t257 => (impl_inside.j0 k (!t257) l0_0 l0_1 l0_2 a1_0 a1_1)) else (impl_inside.j0 k true l0_0 l0_1 l0_2 a1_0 a1_1))) else (none)) else (none)) = some r := by first | (rw [hji8] at H; exact H) | (simp only [hji8] at H ⊢; exact H)
   have hji8w : (IntKind.i64.wrap ((l0_0.length : Int) - 1)) = ji8 := (i64_w _).trans hji8
   by_cases c9 : 0 ≤ (ji8)
   ·rw [if_pos c9] at H; have c9b0 : decide (0 ≤ (ji8)) = true := decide_eq_true c9; clear c9; by_cases c10 : (ji8) < (l0_0.length : Int)
    ·rw [if_pos c10] at H; have c10b0 : decide ((ji8) < (l0_0.length : Int)) = true := decide_eq_true c10; clear c10; replace H := Option.bind_eq_some_iff.mp H; obtain ⟨t256, A110, H⟩ := H; (try dsimp only at H); have A11 := mk_ A110; clear A110; by_cases c12 : t256 = true
     ·subst c12; rw [if_pos rfl] at H
      replace H := Option.bind_eq_some_iff.mp H; obtain ⟨t257, A130, H⟩ := H
      (try dsimp only at H); have A13 := mk_ A130; clear A130
      have H' := mk_ H
      clear H
      try go_wp2
      replace BK252 := dB_ BK252; replace BK253 := dB_ BK253; replace HB := dH_ HB
      have p254 : 0 ≤ (0 : Int) := (by omega)
      have q254 : 0 < (l0_0.length : Int) := od_
      obtain ⟨ad254, e254, hx254_0⟩ := Kd.at_int HR0_0.out 0 p254 q254
      have hw254_0 := hx254_0
      (try rw [show ((0 : Int)).toNat = 0 from rfl] at hw254_0)
      (try rw [show 0 * 1 = 0 from rfl] at hw254_0)
      (try rw [Addr.add_zero'] at hw254_0)
      cases e254
      have qi254 : (0 < l0_0.length) = True := eq_true (by omega)
      (try rw [show ((0 : Int)).toNat = 0 from rfl] at hx254_0)
      (try rw [Addr.add_zero'] at hx254_0)
      replace hx254_0 := (HB.out.cell (World.block_lt_of_cell? w _ hx254_0)).trans hx254_0
      replace p254 := eq_true p254; replace q254 := eq_true q254
      have p255 : 0 ≤ ((ji8) : Int) := od_
      have q255 : (ji8) < (l0_0.length : Int) := od_
      obtain ⟨ad255, e255, hx255_0⟩ := Kd.at_int HR0_0.out (ji8) p255 q255
      have hw255_0 := hx255_0
      obtain rfl : ad254 = ad255 := (by injection e255)
      replace hx255_0 := (HB.out.cell (World.block_lt_of_cell? w _ hx255_0)).trans hx255_0
      replace p255 := eq_true p255; replace q255 := eq_true q255
      refine start_ (n := 23) (S := fun w' => w'.cell? ⟨gb253, 0, none⟩ = some (.int .i64 a1_0) ∧ w'.cell? ⟨gb253, 1, none⟩ = some (.int .i64 a1_1) ∧ w'.cell? ⟨gb252, 0, none⟩ = some (.slice (some ad254) l0_0.length c0_0) ∧ w'.cell? ⟨gb252, 1, none⟩ = some (.slice A0_1 l0_1.length c0_1) ∧ w'.cell? ⟨gb252, 2, none⟩ = some (.slice A0_2 l0_2.length c0_2) ∧ w'.cell? ad254 = some (.int .i64 (rd l0_0 0)) ∧ w'.cell? (ad254.add ((ji8)).toNat) = some (.int .i64 (rd l0_0 (ji8)))) (ds := []) (bs_ 23 0) (by kernel_rfl) rfl (by kernel_rfl) ⟨bc0_ BK253, bc1_ BK253, bc0_ BK252, bc1_ BK252, bc2_ BK252, ((HB.out.cell (World.block_lt_of_cell? w _ hw254_0)).trans hw254_0), ((HB.out.cell (World.block_lt_of_cell? w _ hw255_0)).trans hw255_0)⟩ (fun hHeld => ?_); refine with_tabW impl_inside.tab1 impl_inside.bits1 (fun HT_ HW_ => ?_)
      generalize w5.drew = w14 at BK252 BK253 HB hx254_0 hx255_0 hHeld ⊢
      refine pu_ HT_ 0 10 (bs_ 23 1) ?_; refine pu_ HT_ 2 12 (bs_ 23 5) ?_; refine pu_ HT_ 7 17 (bs_ 23 133) ?_; refine pu_ HT_ 9 19 (bs_ 23 645) ?_; refine tk_ HT_ HW_ 1 11 (bs_ 23 647) hHeld ?_; refine tk_ HT_ HW_ 3 13 (bs_ 23 655) hHeld ?_; refine pu_ HT_ 4 14 (bs_ 23 671) ?_; refine tk_ HT_ HW_ 5 15 (bs_ 23 703) hHeld ?_; refine pu_ HT_ 6 16 (bs_ 23 767) ?_; refine tk_ HT_ HW_ 8 18 (bs_ 23 1023) hHeld ?_; refine tk_ HT_ HW_ 10 20 (bs_ 23 2047) hHeld ?_; refine pu_ HT_ 11 21 (bs_ 23 4095) ?_; refine pu_ HT_ 12 22 (bs_ 23 8191) ?_; refine pu_ HT_ 13 23 (bs_ 23 16383) ?_; refine tk_ HT_ HW_ 14 24 (bs_ 23 32767) hHeld ?_
      refine one_ (i := 15) (N := some 25) (bs_ 23 65535) rfl rfl (one_of HT_.out (by kernel_rfl)) (by decide) (fun K hK => ?_)
      refine goes_ Try.func48 (by kernel_rfl) rfl #[.int .i64 a1_0, .int .i64 ji7, .int .i64 (rd l0_0 (ji8))] (by rfl) rfl rfl (by (try simp only [List.map_toArray, List.map_cons, List.map_nil]); first | done | (simp only [hji7, hji8]; rfl) | rfl | (simp only [List.length_drop, List.length_take]; rfl)) ?_
      with_reducible refine (impl_in.calls a1_0 ji7 (rd l0_0 (ji8)) true _ A11.out).mono ?_
      rintro e w' ⟨rfl, ⟨nd, rfl⟩⟩
      refine ⟨_, rfl, ?_⟩
      refine hK.out _ _ ⟨bc0_ BK253, bc1_ BK253, bc0_ BK252, bc1_ BK252, bc2_ BK252, ((HB.out.cell (World.block_lt_of_cell? w _ hw254_0)).trans hw254_0), ((HB.out.cell (World.block_lt_of_cell? w _ hw255_0)).trans hw255_0)⟩ (fun hHeld => ?_)
      clear hK K; refine nm_ ?_; refine pu_ HT_ 16 26 (bs_ 23 131071) ?_; refine pu_ HT_ 17 27 (bs_ 23 262143) ?_; refine pu_ HT_ 18 28 (bs_ 23 524287) ?_; refine tk_ HT_ HW_ 19 29 (bs_ 23 1048575) hHeld ?_
      refine one_ (i := 20) (N := some 30) (bs_ 23 2097151) rfl rfl (one_of HT_.out (by kernel_rfl)) (by decide) (fun K hK => ?_)
      refine gs_ Try.func48 #[.int .i64 a1_1, .int .i64 (-1000000000), .int .i64 1000000000] ?_
      with_reducible refine (impl_in.calls a1_1 (-1000000000) 1000000000 t257 _ A13.out).mono ?_
      rintro e w' ⟨rfl, ⟨nd, rfl⟩⟩
      refine ⟨_, rfl, ?_⟩
      refine hK.out _ _ ⟨bc0_ BK253, bc1_ BK253, bc0_ BK252, bc1_ BK252, bc2_ BK252, ((HB.out.cell (World.block_lt_of_cell? w _ hw254_0)).trans hw254_0), ((HB.out.cell (World.block_lt_of_cell? w _ hw255_0)).trans hw255_0)⟩ (fun hHeld => ?_)
      clear hK K; refine nm_ ?_; refine pu_ HT_ 21 31 (bs_ 23 4194303) ?_; refine pu_ HT_ 22 32 (bs_ 23 8388607) ?_
      refine done_ (done_of HT_.out (by kernel_rfl)) ?_
      try go_wp2
      go_meet
      case rel => exact ⟨_, (!t257), rf_, H', ⟨by first | omega | exact Nat.le_refl _⟩, bw_ BK252, bw_ BK253, ⟨hw_ HB⟩⟩
     ·replace c12 := Bool.eq_false_iff.mpr c12; subst c12; rw [if_neg (show ¬ (false = true) by decide)] at H
      have H' := mk_ H
      clear H
      try go_wp2
      replace BK252 := dB_ BK252; replace BK253 := dB_ BK253; replace HB := dH_ HB
      have p254 : 0 ≤ (0 : Int) := (by omega)
      have q254 : 0 < (l0_0.length : Int) := od_
      obtain ⟨ad254, e254, hx254_0⟩ := Kd.at_int HR0_0.out 0 p254 q254
      have hw254_0 := hx254_0
      (try rw [show ((0 : Int)).toNat = 0 from rfl] at hw254_0)
      (try rw [show 0 * 1 = 0 from rfl] at hw254_0)
      (try rw [Addr.add_zero'] at hw254_0)
      cases e254
      have qi254 : (0 < l0_0.length) = True := eq_true (by omega)
      (try rw [show ((0 : Int)).toNat = 0 from rfl] at hx254_0)
      (try rw [Addr.add_zero'] at hx254_0)
      replace hx254_0 := (HB.out.cell (World.block_lt_of_cell? w _ hx254_0)).trans hx254_0
      replace p254 := eq_true p254; replace q254 := eq_true q254
      have p255 : 0 ≤ ((ji8) : Int) := od_
      have q255 : (ji8) < (l0_0.length : Int) := od_
      obtain ⟨ad255, e255, hx255_0⟩ := Kd.at_int HR0_0.out (ji8) p255 q255
      have hw255_0 := hx255_0
      obtain rfl : ad254 = ad255 := (by injection e255)
      replace hx255_0 := (HB.out.cell (World.block_lt_of_cell? w _ hx255_0)).trans hx255_0
      replace p255 := eq_true p255; replace q255 := eq_true q255
      refine start_ (n := 23) (S := fun w' => w'.cell? ⟨gb253, 0, none⟩ = some (.int .i64 a1_0) ∧ w'.cell? ⟨gb253, 1, none⟩ = some (.int .i64 a1_1) ∧ w'.cell? ⟨gb252, 0, none⟩ = some (.slice (some ad254) l0_0.length c0_0) ∧ w'.cell? ⟨gb252, 1, none⟩ = some (.slice A0_1 l0_1.length c0_1) ∧ w'.cell? ⟨gb252, 2, none⟩ = some (.slice A0_2 l0_2.length c0_2) ∧ w'.cell? ad254 = some (.int .i64 (rd l0_0 0)) ∧ w'.cell? (ad254.add ((ji8)).toNat) = some (.int .i64 (rd l0_0 (ji8)))) (ds := []) (bs_ 23 0) (by kernel_rfl) rfl (by kernel_rfl) ⟨bc0_ BK253, bc1_ BK253, bc0_ BK252, bc1_ BK252, bc2_ BK252, ((HB.out.cell (World.block_lt_of_cell? w _ hw254_0)).trans hw254_0), ((HB.out.cell (World.block_lt_of_cell? w _ hw255_0)).trans hw255_0)⟩ (fun hHeld => ?_); refine with_tabW impl_inside.tab1 impl_inside.bits1 (fun HT_ HW_ => ?_)
      generalize w5.drew = w15 at BK252 BK253 HB hx254_0 hx255_0 hHeld ⊢
      refine pu_ HT_ 0 10 (bs_ 23 1) ?_; refine pu_ HT_ 2 12 (bs_ 23 5) ?_; refine pu_ HT_ 7 17 (bs_ 23 133) ?_; refine pu_ HT_ 9 19 (bs_ 23 645) ?_; refine tk_ HT_ HW_ 1 11 (bs_ 23 647) hHeld ?_; refine tk_ HT_ HW_ 3 13 (bs_ 23 655) hHeld ?_; refine pu_ HT_ 4 14 (bs_ 23 671) ?_; refine tk_ HT_ HW_ 5 15 (bs_ 23 703) hHeld ?_; refine pu_ HT_ 6 16 (bs_ 23 767) ?_; refine tk_ HT_ HW_ 8 18 (bs_ 23 1023) hHeld ?_; refine tk_ HT_ HW_ 10 20 (bs_ 23 2047) hHeld ?_; refine pu_ HT_ 11 21 (bs_ 23 4095) ?_; refine pu_ HT_ 12 22 (bs_ 23 8191) ?_; refine pu_ HT_ 13 23 (bs_ 23 16383) ?_; refine tk_ HT_ HW_ 14 24 (bs_ 23 32767) hHeld ?_
      refine one_ (i := 15) (N := some 25) (bs_ 23 65535) rfl rfl (one_of HT_.out (by kernel_rfl)) (by decide) (fun K hK => ?_)
      refine goes_ Try.func48 (by kernel_rfl) rfl #[.int .i64 a1_0, .int .i64 ji7, .int .i64 (rd l0_0 (ji8))] (by rfl) rfl rfl (by (try simp only [List.map_toArray, List.map_cons, List.map_nil]); first | done | (simp only [hji7, hji8]; rfl) | rfl | (simp only [List.length_drop, List.length_take]; rfl)) ?_
      with_reducible refine (impl_in.calls a1_0 ji7 (rd l0_0 (ji8)) false _ A11.out).mono ?_
      rintro e w' ⟨rfl, ⟨nd, rfl⟩⟩
      refine ⟨_, rfl, ?_⟩
      refine hK.out _ _ ⟨bc0_ BK253, bc1_ BK253, bc0_ BK252, bc1_ BK252, bc2_ BK252, ((HB.out.cell (World.block_lt_of_cell? w _ hw254_0)).trans hw254_0), ((HB.out.cell (World.block_lt_of_cell? w _ hw255_0)).trans hw255_0)⟩ (fun hHeld => ?_)
      clear hK K; refine nm_ ?_; refine pu_ HT_ 16 26 (bs_ 23 131071) ?_; refine pu_ HT_ 17 27 (bs_ 23 262143) ?_; refine pn_ HT_ 18 28 (bs_ 23 524287) ?_; refine pn_ HT_ 19 29 (bs_ 23 1048575) ?_; refine pn_ HT_ 20 30 (bs_ 23 2097151) ?_; refine pn_ HT_ 21 31 (bs_ 23 4194303) ?_; refine pu_ HT_ 22 32 (bs_ 23 8388607) ?_
      refine done_ (done_of HT_.out (by kernel_rfl)) ?_
      try go_wp2
      go_meet
      case rel => exact ⟨_, (true), rf_, H', ⟨by first | omega | exact Nat.le_refl _⟩, bw_ BK252, bw_ BK253, ⟨hw_ HB⟩⟩
    ·rw [if_neg c10] at H
     exact absurd H (by simp)
   ·rw [if_neg c9] at H
    exact absurd H (by simp)
  ·rw [if_neg c6] at H
   exact absurd H (by simp)
 case rest =>
  clear HC3
  obtain ⟨kq, x32_2, rfl, HA, HJ2, BK252, BK253, HB⟩ := hcut
  cases kq with
  | zero => exact absurd HA.out (by simp [impl_inside.j0])
  | succ kj2 =>
   have H := HA.out; clear HA
   simp only [impl_inside.j0] at H
   by_cases c16 : x32_2 = true
   ·subst c16; rw [if_pos rfl] at H
    obtain rfl := Option.some.inj H; go_wp2
    go_ret
    exact ⟨re_, hw_ HB⟩
   ·replace c16 := Bool.eq_false_iff.mpr c16; subst c16; rw [if_neg (show ¬ (false = true) by decide)] at H; replace H := Option.bind_eq_some_iff.mp H; obtain ⟨t258, A170, H⟩ := H; (try dsimp only at H); have A17 := mk_ A170; clear A170; by_cases c18 : 0 ≤ t258
    ·rw [if_pos c18] at H; have c18b0 : decide (0 ≤ t258) = true := decide_eq_true c18; clear c18; by_cases c19 : t258 < (l0_0.length : Int)
     ·rw [if_pos c19] at H; have c19b0 : decide (t258 < (l0_0.length : Int)) = true := decide_eq_true c19; clear c19
      obtain ⟨ji20, hji20⟩ : ∃ j_ : Int, (wrap64 (t258 + 1)) = j_ := ⟨_, rfl⟩
      replace H : (if 0 ≤ (ji20) then (if (ji20) < (l0_0.length : Int) then (if t258 < (l0_1.length : Int) then (if (ji20) < (l0_1.length : Int) then ((impl_between.f (rd l0_0 t258) (rd l0_0 (ji20)) (rd l0_1 t258) (rd l0_1 (ji20)) a1_0).bind fun bt263 => (if t258 < (l0_2.length : Int) then (if (ji20) < (l0_2.length : Int) then ((impl_between.f (rd l0_0 t258) (rd l0_0 (ji20)) (rd l0_2 t258) (rd l0_2 (ji20)) a1_0).bind fun bt269 => (if (wrap64 (a1_1 * bt263.2)) ≥ (wrap64 (bt263.1 * a1_0)) then (some (decide ((wrap64 (a1_1 * bt263.2)) ≤ (wrap64 (bt269.1 * a1_0))))) else (some false))) else (none)) else (none))) else (none)) else (none)) else (none)) else (none)) = some r := by first | (rw [hji20] at H; exact H) | (simp only [hji20] at H ⊢; exact H)
      (try rw [hji20] at A17)
      have hji20w : (IntKind.i64.wrap (t258 + 1)) = ji20 := (i64_w _).trans hji20
      by_cases c21 : 0 ≤ (ji20)
      ·rw [if_pos c21] at H; have c21b0 : decide (0 ≤ (ji20)) = true := decide_eq_true c21; clear c21; by_cases c22 : (ji20) < (l0_0.length : Int)
       ·rw [if_pos c22] at H; have c22b0 : decide ((ji20) < (l0_0.length : Int)) = true := decide_eq_true c22; clear c22; by_cases c23 : t258 < (l0_1.length : Int)
        ·rw [if_pos c23] at H; have c23b0 : decide (t258 < (l0_1.length : Int)) = true := decide_eq_true c23; clear c23; by_cases c24 : (ji20) < (l0_1.length : Int)
         ·rw [if_pos c24] at H; have c24b0 : decide ((ji20) < (l0_1.length : Int)) = true := decide_eq_true c24; clear c24; replace H := Option.bind_eq_some_iff.mp H; obtain ⟨⟨t263, t264⟩, A250, H⟩ := H; (try dsimp only at H); have A25 := mk_ A250; clear A250; by_cases c26 : t258 < (l0_2.length : Int)
          ·rw [if_pos c26] at H; have c26b0 : decide (t258 < (l0_2.length : Int)) = true := decide_eq_true c26; clear c26; by_cases c27 : (ji20) < (l0_2.length : Int)
           ·rw [if_pos c27] at H; have c27b0 : decide ((ji20) < (l0_2.length : Int)) = true := decide_eq_true c27; clear c27; replace H := Option.bind_eq_some_iff.mp H; obtain ⟨⟨t269, t270⟩, A280, H⟩ := H; (try dsimp only at H); have A28 := mk_ A280; clear A280; by_cases c29 : (wrap64 (a1_1 * t264)) ≥ (wrap64 (t263 * a1_0))
            ·rw [if_pos c29] at H; have c29b0 : decide ((wrap64 (t263 * a1_0)) ≤ (wrap64 (a1_1 * t264))) = true := decide_eq_true c29; clear c29; obtain rfl := Option.some.inj H; have hnb30 := NB252_253.out; have hnc30 := NB253_252.out; have hcz31_0 := bc0_ BK252; have hcz31_1 := bc1_ BK252; have hcz31_2 := bc2_ BK252; have hfz31_0 := bf_ BK252 0; have hfz31_1 := bf_ BK252 1; have hfz31_2 := bf_ BK252 2; have hcz32_0 := bc0_ BK253; have hcz32_1 := bc1_ BK253; have hfz32_0 := bf_ BK253 0; have hfz32_1 := bf_ BK253 1
             try go_wp2_with (first | ((with_reducible refine gc_ 56 rfl ?_); refine gl_ (some 37) rfl Try.func56 #[.slice A0_0 l0_0.length c0_0, .int .i64 a1_0] ?_; (with_reducible refine (impl_piece.calls kj2 _ _ l0_0 a1_0 t258 _ ?side1 ?side2 A17.out).mono ?_); (case side1 => exact cw_ (Kd.C_below HR0_0.out HB.out)); (case side2 => exact HC0_0.out); rintro e w' ⟨rfl, ⟨nd, rfl⟩⟩; refine ⟨_, rfl, ?_⟩))
             (try (rw [drewN_self wc]; generalize hq_ : World.drewN wc _ = wc; have n0_ := qB_ hq_ BK252; have n1_ := qB_ hq_ BK253; have n2_ := qH_ hq_ HB; clear BK252 BK253 HB hq_; have BK252 := n0_; have BK253 := n1_; have HB := n2_; clear n0_ n1_ n2_))
             replace BK252 := dB_ BK252; replace BK253 := dB_ BK253; replace HB := dH_ HB
             have p259 : 0 ≤ (t258 : Int) := od_
             have q259 : t258 < (l0_0.length : Int) := od_
             obtain ⟨ad259, e259, hx259_0⟩ := Kd.at_int HR0_0.out t258 p259 q259
             have hw259_0 := hx259_0
             cases e259
             replace hx259_0 := (HB.out.cell (World.block_lt_of_cell? w _ hx259_0)).trans hx259_0
             replace p259 := eq_true p259; replace q259 := eq_true q259
             have p260 : 0 ≤ ((ji20) : Int) := od_
             have q260 : (ji20) < (l0_0.length : Int) := od_
             obtain ⟨ad260, e260, hx260_0⟩ := Kd.at_int HR0_0.out (ji20) p260 q260
             have hw260_0 := hx260_0
             obtain rfl : ad259 = ad260 := (by injection e260)
             replace hx260_0 := (HB.out.cell (World.block_lt_of_cell? w _ hx260_0)).trans hx260_0
             replace p260 := eq_true p260; replace q260 := eq_true q260
             have p261 : 0 ≤ (t258 : Int) := od_
             have q261 : t258 < (l0_1.length : Int) := od_
             obtain ⟨ad261, e261, hx261_0⟩ := Kd.at_int HR0_1.out t258 p261 q261
             have hw261_0 := hx261_0
             cases e261
             replace hx261_0 := (HB.out.cell (World.block_lt_of_cell? w _ hx261_0)).trans hx261_0
             replace p261 := eq_true p261; replace q261 := eq_true q261
             have p262 : 0 ≤ ((ji20) : Int) := od_
             have q262 : (ji20) < (l0_1.length : Int) := od_
             obtain ⟨ad262, e262, hx262_0⟩ := Kd.at_int HR0_1.out (ji20) p262 q262
             have hw262_0 := hx262_0
             obtain rfl : ad261 = ad262 := (by injection e262)
             replace hx262_0 := (HB.out.cell (World.block_lt_of_cell? w _ hx262_0)).trans hx262_0
             replace p262 := eq_true p262; replace q262 := eq_true q262
             refine start_ (n := 30) (S := fun w' => w'.cell? ⟨gb252, 0, none⟩ = some (.slice (some ad259) l0_0.length c0_0) ∧ w'.cell? ⟨gb252, 1, none⟩ = some (.slice (some ad261) l0_1.length c0_1) ∧ w'.cell? ⟨gb252, 2, none⟩ = some (.slice A0_2 l0_2.length c0_2) ∧ w'.cell? ⟨gb253, 0, none⟩ = some (.int .i64 a1_0) ∧ w'.cell? ⟨gb253, 1, none⟩ = some (.int .i64 a1_1) ∧ w'.cell? (ad259.add (t258).toNat) = some (.int .i64 (rd l0_0 t258)) ∧ w'.cell? (ad259.add ((ji20)).toNat) = some (.int .i64 (rd l0_0 (ji20))) ∧ w'.cell? (ad261.add (t258).toNat) = some (.int .i64 (rd l0_1 t258)) ∧ w'.cell? (ad261.add ((ji20)).toNat) = some (.int .i64 (rd l0_1 (ji20)))) (ds := []) (bs_ 30 0) (by kernel_rfl) rfl (by kernel_rfl) ⟨bc0_ BK252, bc1_ BK252, bc2_ BK252, bc0_ BK253, bc1_ BK253, ((HB.out.cell (World.block_lt_of_cell? w _ hw259_0)).trans hw259_0), ((HB.out.cell (World.block_lt_of_cell? w _ hw260_0)).trans hw260_0), ((HB.out.cell (World.block_lt_of_cell? w _ hw261_0)).trans hw261_0), ((HB.out.cell (World.block_lt_of_cell? w _ hw262_0)).trans hw262_0)⟩ (fun hHeld => ?_); refine with_tabW impl_inside.tab4 impl_inside.bits4 (fun HT_ HW_ => ?_)
             generalize wc.drew = w33 at BK252 BK253 HB hx259_0 hx260_0 hx261_0 hx262_0 hHeld ⊢
             refine pu_ HT_ 0 39 (bs_ 30 1) ?_; refine pu_ HT_ 2 41 (bs_ 30 5) ?_; refine pu_ HT_ 5 44 (bs_ 30 37) ?_; refine pu_ HT_ 7 46 (bs_ 30 165) ?_; refine pu_ HT_ 8 47 (bs_ 30 421) ?_; refine pu_ HT_ 11 50 (bs_ 30 2469) ?_; refine pu_ HT_ 13 52 (bs_ 30 10661) ?_; refine pu_ HT_ 16 55 (bs_ 30 76197) ?_; refine pu_ HT_ 18 57 (bs_ 30 338341) ?_; refine pu_ HT_ 19 58 (bs_ 30 862629) ?_; refine pu_ HT_ 22 61 (bs_ 30 5056933) ?_; refine tk_ HT_ HW_ 1 40 (bs_ 30 5056935) hHeld ?_; refine pu_ HT_ 3 42 (bs_ 30 5056943) ?_; refine tk_ HT_ HW_ 4 43 (bs_ 30 5056959) hHeld ?_; refine tk_ HT_ HW_ 6 45 (bs_ 30 5057023) hHeld ?_; refine pu_ HT_ 9 48 (bs_ 30 5057535) ?_; refine tk_ HT_ HW_ 10 49 (bs_ 30 5058559) hHeld ?_; refine tk_ HT_ HW_ 12 51 (bs_ 30 5062655) hHeld ?_; refine pu_ HT_ 14 53 (bs_ 30 5079039) ?_; refine tk_ HT_ HW_ 15 54 (bs_ 30 5111807) hHeld ?_; refine tk_ HT_ HW_ 17 56 (bs_ 30 5242879) hHeld ?_; refine pu_ HT_ 20 59 (bs_ 30 6291455) ?_; refine tk_ HT_ HW_ 21 60 (bs_ 30 8388607) hHeld ?_; refine tk_ HT_ HW_ 23 62 (bs_ 30 16777215) hHeld ?_
             refine one_ (i := 24) (N := some 63) (bs_ 30 33554431) rfl rfl (one_of HT_.out (by kernel_rfl)) (by decide) (fun K hK => ?_)
             refine goes_ Try.func57 (by kernel_rfl) rfl #[.int .i64 (rd l0_0 t258), .int .i64 (rd l0_0 (ji20)), .int .i64 (rd l0_1 t258), .int .i64 (rd l0_1 (ji20)), .int .i64 a1_0] (by rfl) rfl rfl (by (try simp only [List.map_toArray, List.map_cons, List.map_nil]); first | done | (simp only [hji20]; rfl) | rfl | (simp only [List.length_drop, List.length_take]; rfl)) ?_
             with_reducible refine (impl_between.calls (rd l0_0 t258) (rd l0_0 (ji20)) (rd l0_1 t258) (rd l0_1 (ji20)) a1_0 t263 t264 _ A25.out).mono ?_
             rintro e w' ⟨rfl, ⟨nd, rfl⟩⟩
             refine ⟨_, rfl, ?_⟩
             refine hK.out _ _ ⟨bc0_ BK252, bc1_ BK252, bc2_ BK252, bc0_ BK253, bc1_ BK253, ((HB.out.cell (World.block_lt_of_cell? w _ hw259_0)).trans hw259_0), ((HB.out.cell (World.block_lt_of_cell? w _ hw260_0)).trans hw260_0), ((HB.out.cell (World.block_lt_of_cell? w _ hw261_0)).trans hw261_0), ((HB.out.cell (World.block_lt_of_cell? w _ hw262_0)).trans hw262_0)⟩ (fun hHeld => ?_)
             clear hK K; refine nm_ ?_; refine pu_ HT_ 25 38 (bs_ 30 67108863) ?_; refine pu_ HT_ 26 64 (bs_ 30 134217727) ?_; refine pu_ HT_ 27 65 (bs_ 30 268435455) ?_; refine pu_ HT_ 28 6 (bs_ 30 536870911) ?_; refine pu_ HT_ 29 7 (bs_ 30 1073741823) ?_
             refine done_ (done_of HT_.out (by kernel_rfl)) ?_
             try go_wp2
             (first | (rw [World.drewN_drewN]; (repeat rw [World.drewN_drewN]); generalize hq_ : World.drewN w33 _ = w33; have n0_ : Aside0 (w33.heap[gb252]? = some (.cells #[.slice (some ad259) l0_0.length c0_0, .slice (some ad261) l0_1.length c0_1, .slice A0_2 l0_2.length c0_2] 33 (0, 0))) := ⟨by rw [← hq_]; exact (bx_ BK252)⟩; have n1_ : Aside0 (w33.heap[gb253]? = some (.cells #[.int .i64 a1_0, .int .i64 a1_1] 35 (0, 0))) := ⟨by rw [← hq_]; exact (bx_ BK253)⟩; have n2_ : Aside0 (Below w.heap.size w w33) := ⟨by rw [← hq_]; exact (hw_ HB)⟩; clear BK252 BK253 HB hq_; have BK252 := n0_; have BK253 := n1_; have HB := n2_; clear n0_ n1_ n2_) | (rw [(rfl : World.drewN w33 nd = World.drewN w33 nd)]; generalize hq_ : World.drewN w33 nd = w33; have n0_ : Aside0 (w33.heap[gb252]? = some (.cells #[.slice (some ad259) l0_0.length c0_0, .slice (some ad261) l0_1.length c0_1, .slice A0_2 l0_2.length c0_2] 33 (0, 0))) := ⟨by rw [← hq_]; exact (bx_ BK252)⟩; have n1_ : Aside0 (w33.heap[gb253]? = some (.cells #[.int .i64 a1_0, .int .i64 a1_1] 35 (0, 0))) := ⟨by rw [← hq_]; exact (bx_ BK253)⟩; have n2_ : Aside0 (Below w.heap.size w w33) := ⟨by rw [← hq_]; exact (hw_ HB)⟩; clear BK252 BK253 HB hq_; have BK252 := n0_; have BK253 := n1_; have HB := n2_; clear n0_ n1_ n2_) | (try (rw [drewN_self w33]; generalize hq_ : World.drewN w33 _ = w33; have n0_ := qB_ hq_ BK252; have n1_ := qB_ hq_ BK253; have n2_ := qH_ hq_ HB; clear BK252 BK253 HB hq_; have BK252 := n0_; have BK253 := n1_; have HB := n2_; clear n0_ n1_ n2_)))
             replace BK252 := dB_ BK252; replace BK253 := dB_ BK253; replace HB := dH_ HB
             have p265 : 0 ≤ (t258 : Int) := od_
             have q265 : t258 < (l0_0.length : Int) := od_
             obtain ⟨ad265, e265, hx265_0⟩ := Kd.at_int HR0_0.out t258 p265 q265
             have hw265_0 := hx265_0
             obtain rfl : ad259 = ad265 := (by injection e265)
             replace hx265_0 := (HB.out.cell (World.block_lt_of_cell? w _ hx265_0)).trans hx265_0
             replace p265 := eq_true p265; replace q265 := eq_true q265
             have p266 : 0 ≤ ((ji20) : Int) := od_
             have q266 : (ji20) < (l0_0.length : Int) := od_
             obtain ⟨ad266, e266, hx266_0⟩ := Kd.at_int HR0_0.out (ji20) p266 q266
             have hw266_0 := hx266_0
             obtain rfl : ad259 = ad266 := (by injection e266)
             replace hx266_0 := (HB.out.cell (World.block_lt_of_cell? w _ hx266_0)).trans hx266_0
             replace p266 := eq_true p266; replace q266 := eq_true q266
             have p267 : 0 ≤ (t258 : Int) := od_
             have q267 : t258 < (l0_2.length : Int) := od_
             obtain ⟨ad267, e267, hx267_0⟩ := Kd.at_int HR0_2.out t258 p267 q267
             have hw267_0 := hx267_0
             cases e267
             replace hx267_0 := (HB.out.cell (World.block_lt_of_cell? w _ hx267_0)).trans hx267_0
             replace p267 := eq_true p267; replace q267 := eq_true q267
             have p268 : 0 ≤ ((ji20) : Int) := od_
             have q268 : (ji20) < (l0_2.length : Int) := od_
             obtain ⟨ad268, e268, hx268_0⟩ := Kd.at_int HR0_2.out (ji20) p268 q268
             have hw268_0 := hx268_0
             obtain rfl : ad267 = ad268 := (by injection e268)
             replace hx268_0 := (HB.out.cell (World.block_lt_of_cell? w _ hx268_0)).trans hx268_0
             replace p268 := eq_true p268; replace q268 := eq_true q268
             refine start_ (n := 30) (S := fun w' => w'.cell? ⟨gb252, 0, none⟩ = some (.slice (some ad259) l0_0.length c0_0) ∧ w'.cell? ⟨gb252, 1, none⟩ = some (.slice (some ad261) l0_1.length c0_1) ∧ w'.cell? ⟨gb252, 2, none⟩ = some (.slice (some ad267) l0_2.length c0_2) ∧ w'.cell? ⟨gb253, 0, none⟩ = some (.int .i64 a1_0) ∧ w'.cell? ⟨gb253, 1, none⟩ = some (.int .i64 a1_1) ∧ w'.cell? (ad259.add (t258).toNat) = some (.int .i64 (rd l0_0 t258)) ∧ w'.cell? (ad259.add ((ji20)).toNat) = some (.int .i64 (rd l0_0 (ji20))) ∧ w'.cell? (ad267.add (t258).toNat) = some (.int .i64 (rd l0_2 t258)) ∧ w'.cell? (ad267.add ((ji20)).toNat) = some (.int .i64 (rd l0_2 (ji20)))) (ds := []) (bs_ 30 0) (by kernel_rfl) rfl (by kernel_rfl) ⟨bc0_ BK252, bc1_ BK252, bc2_ BK252, bc0_ BK253, bc1_ BK253, ((HB.out.cell (World.block_lt_of_cell? w _ hw265_0)).trans hw265_0), ((HB.out.cell (World.block_lt_of_cell? w _ hw266_0)).trans hw266_0), ((HB.out.cell (World.block_lt_of_cell? w _ hw267_0)).trans hw267_0), ((HB.out.cell (World.block_lt_of_cell? w _ hw268_0)).trans hw268_0)⟩ (fun hHeld => ?_); refine with_tabW impl_inside.tab5 impl_inside.bits5 (fun HT_ HW_ => ?_)
             generalize w33.drew = w34 at BK252 BK253 HB hx265_0 hx266_0 hx267_0 hx268_0 hHeld ⊢
             refine pu_ HT_ 0 67 (bs_ 30 1) ?_; refine pu_ HT_ 2 69 (bs_ 30 5) ?_; refine pu_ HT_ 5 72 (bs_ 30 37) ?_; refine pu_ HT_ 7 74 (bs_ 30 165) ?_; refine pu_ HT_ 8 75 (bs_ 30 421) ?_; refine pu_ HT_ 11 78 (bs_ 30 2469) ?_; refine pu_ HT_ 13 80 (bs_ 30 10661) ?_; refine pu_ HT_ 16 83 (bs_ 30 76197) ?_; refine pu_ HT_ 18 85 (bs_ 30 338341) ?_; refine pu_ HT_ 19 86 (bs_ 30 862629) ?_; refine pu_ HT_ 22 89 (bs_ 30 5056933) ?_; refine tk_ HT_ HW_ 1 68 (bs_ 30 5056935) hHeld ?_; refine pu_ HT_ 3 70 (bs_ 30 5056943) ?_; refine tk_ HT_ HW_ 4 71 (bs_ 30 5056959) hHeld ?_; refine tk_ HT_ HW_ 6 73 (bs_ 30 5057023) hHeld ?_; refine pu_ HT_ 9 76 (bs_ 30 5057535) ?_; refine tk_ HT_ HW_ 10 77 (bs_ 30 5058559) hHeld ?_; refine tk_ HT_ HW_ 12 79 (bs_ 30 5062655) hHeld ?_; refine pu_ HT_ 14 81 (bs_ 30 5079039) ?_; refine tk_ HT_ HW_ 15 82 (bs_ 30 5111807) hHeld ?_; refine tk_ HT_ HW_ 17 84 (bs_ 30 5242879) hHeld ?_; refine pu_ HT_ 20 87 (bs_ 30 6291455) ?_; refine tk_ HT_ HW_ 21 88 (bs_ 30 8388607) hHeld ?_; refine tk_ HT_ HW_ 23 90 (bs_ 30 16777215) hHeld ?_
             refine one_ (i := 24) (N := some 91) (bs_ 30 33554431) rfl rfl (one_of HT_.out (by kernel_rfl)) (by decide) (fun K hK => ?_)
             refine goes_ Try.func57 (by kernel_rfl) rfl #[.int .i64 (rd l0_0 t258), .int .i64 (rd l0_0 (ji20)), .int .i64 (rd l0_2 t258), .int .i64 (rd l0_2 (ji20)), .int .i64 a1_0] (by rfl) rfl rfl (by (try simp only [List.map_toArray, List.map_cons, List.map_nil]); first | done | (simp only [hji20]; rfl) | rfl | (simp only [List.length_drop, List.length_take]; rfl)) ?_
             with_reducible refine (impl_between.calls (rd l0_0 t258) (rd l0_0 (ji20)) (rd l0_2 t258) (rd l0_2 (ji20)) a1_0 t269 t270 _ A28.out).mono ?_
             rintro e w' ⟨rfl, ⟨nd, rfl⟩⟩
             refine ⟨_, rfl, ?_⟩
             refine hK.out _ _ ⟨bc0_ BK252, bc1_ BK252, bc2_ BK252, bc0_ BK253, bc1_ BK253, ((HB.out.cell (World.block_lt_of_cell? w _ hw265_0)).trans hw265_0), ((HB.out.cell (World.block_lt_of_cell? w _ hw266_0)).trans hw266_0), ((HB.out.cell (World.block_lt_of_cell? w _ hw267_0)).trans hw267_0), ((HB.out.cell (World.block_lt_of_cell? w _ hw268_0)).trans hw268_0)⟩ (fun hHeld => ?_)
             clear hK K; refine nm_ ?_; refine pu_ HT_ 25 66 (bs_ 30 67108863) ?_; refine pu_ HT_ 26 92 (bs_ 30 134217727) ?_; refine pu_ HT_ 27 93 (bs_ 30 268435455) ?_; refine pu_ HT_ 28 8 (bs_ 30 536870911) ?_; refine pu_ HT_ 29 9 (bs_ 30 1073741823) ?_
             refine done_ (done_of HT_.out (by kernel_rfl)) ?_
             have hcz35_0 := bc0_ BK253; have hcz35_1 := bc1_ BK253; have hfz35_0 := bf_ BK253 0; have hfz35_1 := bf_ BK253 1
             try go_wp2
             go_ret
             exact ⟨by first | rfl | (simp [errW_none, errW_some] <;> rfl) | (simp only [← hji20]; first | rfl | (simp [errW_none, errW_some] <;> rfl)) | (simp [*, errW_none, errW_some] <;> rfl), hw_ HB⟩
            ·rw [if_neg c29] at H; have c29b0 : decide ((wrap64 (t263 * a1_0)) ≤ (wrap64 (a1_1 * t264))) = false := decide_eq_false c29; clear c29; obtain rfl := Option.some.inj H; have hnb36 := NB252_253.out; have hnc36 := NB253_252.out; have hcz37_0 := bc0_ BK252; have hcz37_1 := bc1_ BK252; have hcz37_2 := bc2_ BK252; have hfz37_0 := bf_ BK252 0; have hfz37_1 := bf_ BK252 1; have hfz37_2 := bf_ BK252 2; have hcz38_0 := bc0_ BK253; have hcz38_1 := bc1_ BK253; have hfz38_0 := bf_ BK253 0; have hfz38_1 := bf_ BK253 1
             try go_wp2_with (first | ((with_reducible refine gc_ 56 rfl ?_); refine gl_ (some 37) rfl Try.func56 #[.slice A0_0 l0_0.length c0_0, .int .i64 a1_0] ?_; (with_reducible refine (impl_piece.calls kj2 _ _ l0_0 a1_0 t258 _ ?side1 ?side2 A17.out).mono ?_); (case side1 => exact cw_ (Kd.C_below HR0_0.out HB.out)); (case side2 => exact HC0_0.out); rintro e w' ⟨rfl, ⟨nd, rfl⟩⟩; refine ⟨_, rfl, ?_⟩))
             (try (rw [drewN_self wc]; generalize hq_ : World.drewN wc _ = wc; have n0_ := qB_ hq_ BK252; have n1_ := qB_ hq_ BK253; have n2_ := qH_ hq_ HB; clear BK252 BK253 HB hq_; have BK252 := n0_; have BK253 := n1_; have HB := n2_; clear n0_ n1_ n2_))
             replace BK252 := dB_ BK252; replace BK253 := dB_ BK253; replace HB := dH_ HB
             have p259 : 0 ≤ (t258 : Int) := od_
             have q259 : t258 < (l0_0.length : Int) := od_
             obtain ⟨ad259, e259, hx259_0⟩ := Kd.at_int HR0_0.out t258 p259 q259
             have hw259_0 := hx259_0
             cases e259
             replace hx259_0 := (HB.out.cell (World.block_lt_of_cell? w _ hx259_0)).trans hx259_0
             replace p259 := eq_true p259; replace q259 := eq_true q259
             have p260 : 0 ≤ ((ji20) : Int) := od_
             have q260 : (ji20) < (l0_0.length : Int) := od_
             obtain ⟨ad260, e260, hx260_0⟩ := Kd.at_int HR0_0.out (ji20) p260 q260
             have hw260_0 := hx260_0
             obtain rfl : ad259 = ad260 := (by injection e260)
             replace hx260_0 := (HB.out.cell (World.block_lt_of_cell? w _ hx260_0)).trans hx260_0
             replace p260 := eq_true p260; replace q260 := eq_true q260
             have p261 : 0 ≤ (t258 : Int) := od_
             have q261 : t258 < (l0_1.length : Int) := od_
             obtain ⟨ad261, e261, hx261_0⟩ := Kd.at_int HR0_1.out t258 p261 q261
             have hw261_0 := hx261_0
             cases e261
             replace hx261_0 := (HB.out.cell (World.block_lt_of_cell? w _ hx261_0)).trans hx261_0
             replace p261 := eq_true p261; replace q261 := eq_true q261
             have p262 : 0 ≤ ((ji20) : Int) := od_
             have q262 : (ji20) < (l0_1.length : Int) := od_
             obtain ⟨ad262, e262, hx262_0⟩ := Kd.at_int HR0_1.out (ji20) p262 q262
             have hw262_0 := hx262_0
             obtain rfl : ad261 = ad262 := (by injection e262)
             replace hx262_0 := (HB.out.cell (World.block_lt_of_cell? w _ hx262_0)).trans hx262_0
             replace p262 := eq_true p262; replace q262 := eq_true q262
             refine start_ (n := 30) (S := fun w' => w'.cell? ⟨gb252, 0, none⟩ = some (.slice (some ad259) l0_0.length c0_0) ∧ w'.cell? ⟨gb252, 1, none⟩ = some (.slice (some ad261) l0_1.length c0_1) ∧ w'.cell? ⟨gb252, 2, none⟩ = some (.slice A0_2 l0_2.length c0_2) ∧ w'.cell? ⟨gb253, 0, none⟩ = some (.int .i64 a1_0) ∧ w'.cell? ⟨gb253, 1, none⟩ = some (.int .i64 a1_1) ∧ w'.cell? (ad259.add (t258).toNat) = some (.int .i64 (rd l0_0 t258)) ∧ w'.cell? (ad259.add ((ji20)).toNat) = some (.int .i64 (rd l0_0 (ji20))) ∧ w'.cell? (ad261.add (t258).toNat) = some (.int .i64 (rd l0_1 t258)) ∧ w'.cell? (ad261.add ((ji20)).toNat) = some (.int .i64 (rd l0_1 (ji20)))) (ds := []) (bs_ 30 0) (by kernel_rfl) rfl (by kernel_rfl) ⟨bc0_ BK252, bc1_ BK252, bc2_ BK252, bc0_ BK253, bc1_ BK253, ((HB.out.cell (World.block_lt_of_cell? w _ hw259_0)).trans hw259_0), ((HB.out.cell (World.block_lt_of_cell? w _ hw260_0)).trans hw260_0), ((HB.out.cell (World.block_lt_of_cell? w _ hw261_0)).trans hw261_0), ((HB.out.cell (World.block_lt_of_cell? w _ hw262_0)).trans hw262_0)⟩ (fun hHeld => ?_); refine with_tabW impl_inside.tab4 impl_inside.bits4 (fun HT_ HW_ => ?_)
             generalize wc.drew = w39 at BK252 BK253 HB hx259_0 hx260_0 hx261_0 hx262_0 hHeld ⊢
             refine pu_ HT_ 0 39 (bs_ 30 1) ?_; refine pu_ HT_ 2 41 (bs_ 30 5) ?_; refine pu_ HT_ 5 44 (bs_ 30 37) ?_; refine pu_ HT_ 7 46 (bs_ 30 165) ?_; refine pu_ HT_ 8 47 (bs_ 30 421) ?_; refine pu_ HT_ 11 50 (bs_ 30 2469) ?_; refine pu_ HT_ 13 52 (bs_ 30 10661) ?_; refine pu_ HT_ 16 55 (bs_ 30 76197) ?_; refine pu_ HT_ 18 57 (bs_ 30 338341) ?_; refine pu_ HT_ 19 58 (bs_ 30 862629) ?_; refine pu_ HT_ 22 61 (bs_ 30 5056933) ?_; refine tk_ HT_ HW_ 1 40 (bs_ 30 5056935) hHeld ?_; refine pu_ HT_ 3 42 (bs_ 30 5056943) ?_; refine tk_ HT_ HW_ 4 43 (bs_ 30 5056959) hHeld ?_; refine tk_ HT_ HW_ 6 45 (bs_ 30 5057023) hHeld ?_; refine pu_ HT_ 9 48 (bs_ 30 5057535) ?_; refine tk_ HT_ HW_ 10 49 (bs_ 30 5058559) hHeld ?_; refine tk_ HT_ HW_ 12 51 (bs_ 30 5062655) hHeld ?_; refine pu_ HT_ 14 53 (bs_ 30 5079039) ?_; refine tk_ HT_ HW_ 15 54 (bs_ 30 5111807) hHeld ?_; refine tk_ HT_ HW_ 17 56 (bs_ 30 5242879) hHeld ?_; refine pu_ HT_ 20 59 (bs_ 30 6291455) ?_; refine tk_ HT_ HW_ 21 60 (bs_ 30 8388607) hHeld ?_; refine tk_ HT_ HW_ 23 62 (bs_ 30 16777215) hHeld ?_
             refine one_ (i := 24) (N := some 63) (bs_ 30 33554431) rfl rfl (one_of HT_.out (by kernel_rfl)) (by decide) (fun K hK => ?_)
             refine goes_ Try.func57 (by kernel_rfl) rfl #[.int .i64 (rd l0_0 t258), .int .i64 (rd l0_0 (ji20)), .int .i64 (rd l0_1 t258), .int .i64 (rd l0_1 (ji20)), .int .i64 a1_0] (by rfl) rfl rfl (by (try simp only [List.map_toArray, List.map_cons, List.map_nil]); first | done | (simp only [hji20]; rfl) | rfl | (simp only [List.length_drop, List.length_take]; rfl)) ?_
             with_reducible refine (impl_between.calls (rd l0_0 t258) (rd l0_0 (ji20)) (rd l0_1 t258) (rd l0_1 (ji20)) a1_0 t263 t264 _ A25.out).mono ?_
             rintro e w' ⟨rfl, ⟨nd, rfl⟩⟩
             refine ⟨_, rfl, ?_⟩
             refine hK.out _ _ ⟨bc0_ BK252, bc1_ BK252, bc2_ BK252, bc0_ BK253, bc1_ BK253, ((HB.out.cell (World.block_lt_of_cell? w _ hw259_0)).trans hw259_0), ((HB.out.cell (World.block_lt_of_cell? w _ hw260_0)).trans hw260_0), ((HB.out.cell (World.block_lt_of_cell? w _ hw261_0)).trans hw261_0), ((HB.out.cell (World.block_lt_of_cell? w _ hw262_0)).trans hw262_0)⟩ (fun hHeld => ?_)
             clear hK K; refine nm_ ?_; refine pu_ HT_ 25 38 (bs_ 30 67108863) ?_; refine pu_ HT_ 26 64 (bs_ 30 134217727) ?_; refine pu_ HT_ 27 65 (bs_ 30 268435455) ?_; refine pu_ HT_ 28 6 (bs_ 30 536870911) ?_; refine pu_ HT_ 29 7 (bs_ 30 1073741823) ?_
             refine done_ (done_of HT_.out (by kernel_rfl)) ?_
             try go_wp2
             (first | (rw [World.drewN_drewN]; (repeat rw [World.drewN_drewN]); generalize hq_ : World.drewN w39 _ = w39; have n0_ : Aside0 (w39.heap[gb252]? = some (.cells #[.slice (some ad259) l0_0.length c0_0, .slice (some ad261) l0_1.length c0_1, .slice A0_2 l0_2.length c0_2] 33 (0, 0))) := ⟨by rw [← hq_]; exact (bx_ BK252)⟩; have n1_ : Aside0 (w39.heap[gb253]? = some (.cells #[.int .i64 a1_0, .int .i64 a1_1] 35 (0, 0))) := ⟨by rw [← hq_]; exact (bx_ BK253)⟩; have n2_ : Aside0 (Below w.heap.size w w39) := ⟨by rw [← hq_]; exact (hw_ HB)⟩; clear BK252 BK253 HB hq_; have BK252 := n0_; have BK253 := n1_; have HB := n2_; clear n0_ n1_ n2_) | (rw [(rfl : World.drewN w39 nd = World.drewN w39 nd)]; generalize hq_ : World.drewN w39 nd = w39; have n0_ : Aside0 (w39.heap[gb252]? = some (.cells #[.slice (some ad259) l0_0.length c0_0, .slice (some ad261) l0_1.length c0_1, .slice A0_2 l0_2.length c0_2] 33 (0, 0))) := ⟨by rw [← hq_]; exact (bx_ BK252)⟩; have n1_ : Aside0 (w39.heap[gb253]? = some (.cells #[.int .i64 a1_0, .int .i64 a1_1] 35 (0, 0))) := ⟨by rw [← hq_]; exact (bx_ BK253)⟩; have n2_ : Aside0 (Below w.heap.size w w39) := ⟨by rw [← hq_]; exact (hw_ HB)⟩; clear BK252 BK253 HB hq_; have BK252 := n0_; have BK253 := n1_; have HB := n2_; clear n0_ n1_ n2_) | (try (rw [drewN_self w39]; generalize hq_ : World.drewN w39 _ = w39; have n0_ := qB_ hq_ BK252; have n1_ := qB_ hq_ BK253; have n2_ := qH_ hq_ HB; clear BK252 BK253 HB hq_; have BK252 := n0_; have BK253 := n1_; have HB := n2_; clear n0_ n1_ n2_)))
             replace BK252 := dB_ BK252; replace BK253 := dB_ BK253; replace HB := dH_ HB
             have p265 : 0 ≤ (t258 : Int) := od_
             have q265 : t258 < (l0_0.length : Int) := od_
             obtain ⟨ad265, e265, hx265_0⟩ := Kd.at_int HR0_0.out t258 p265 q265
             have hw265_0 := hx265_0
             obtain rfl : ad259 = ad265 := (by injection e265)
             replace hx265_0 := (HB.out.cell (World.block_lt_of_cell? w _ hx265_0)).trans hx265_0
             replace p265 := eq_true p265; replace q265 := eq_true q265
             have p266 : 0 ≤ ((ji20) : Int) := od_
             have q266 : (ji20) < (l0_0.length : Int) := od_
             obtain ⟨ad266, e266, hx266_0⟩ := Kd.at_int HR0_0.out (ji20) p266 q266
             have hw266_0 := hx266_0
             obtain rfl : ad259 = ad266 := (by injection e266)
             replace hx266_0 := (HB.out.cell (World.block_lt_of_cell? w _ hx266_0)).trans hx266_0
             replace p266 := eq_true p266; replace q266 := eq_true q266
             have p267 : 0 ≤ (t258 : Int) := od_
             have q267 : t258 < (l0_2.length : Int) := od_
             obtain ⟨ad267, e267, hx267_0⟩ := Kd.at_int HR0_2.out t258 p267 q267
             have hw267_0 := hx267_0
             cases e267
             replace hx267_0 := (HB.out.cell (World.block_lt_of_cell? w _ hx267_0)).trans hx267_0
             replace p267 := eq_true p267; replace q267 := eq_true q267
             have p268 : 0 ≤ ((ji20) : Int) := od_
             have q268 : (ji20) < (l0_2.length : Int) := od_
             obtain ⟨ad268, e268, hx268_0⟩ := Kd.at_int HR0_2.out (ji20) p268 q268
             have hw268_0 := hx268_0
             obtain rfl : ad267 = ad268 := (by injection e268)
             replace hx268_0 := (HB.out.cell (World.block_lt_of_cell? w _ hx268_0)).trans hx268_0
             replace p268 := eq_true p268; replace q268 := eq_true q268
             refine start_ (n := 30) (S := fun w' => w'.cell? ⟨gb252, 0, none⟩ = some (.slice (some ad259) l0_0.length c0_0) ∧ w'.cell? ⟨gb252, 1, none⟩ = some (.slice (some ad261) l0_1.length c0_1) ∧ w'.cell? ⟨gb252, 2, none⟩ = some (.slice (some ad267) l0_2.length c0_2) ∧ w'.cell? ⟨gb253, 0, none⟩ = some (.int .i64 a1_0) ∧ w'.cell? ⟨gb253, 1, none⟩ = some (.int .i64 a1_1) ∧ w'.cell? (ad259.add (t258).toNat) = some (.int .i64 (rd l0_0 t258)) ∧ w'.cell? (ad259.add ((ji20)).toNat) = some (.int .i64 (rd l0_0 (ji20))) ∧ w'.cell? (ad267.add (t258).toNat) = some (.int .i64 (rd l0_2 t258)) ∧ w'.cell? (ad267.add ((ji20)).toNat) = some (.int .i64 (rd l0_2 (ji20)))) (ds := []) (bs_ 30 0) (by kernel_rfl) rfl (by kernel_rfl) ⟨bc0_ BK252, bc1_ BK252, bc2_ BK252, bc0_ BK253, bc1_ BK253, ((HB.out.cell (World.block_lt_of_cell? w _ hw265_0)).trans hw265_0), ((HB.out.cell (World.block_lt_of_cell? w _ hw266_0)).trans hw266_0), ((HB.out.cell (World.block_lt_of_cell? w _ hw267_0)).trans hw267_0), ((HB.out.cell (World.block_lt_of_cell? w _ hw268_0)).trans hw268_0)⟩ (fun hHeld => ?_); refine with_tabW impl_inside.tab5 impl_inside.bits5 (fun HT_ HW_ => ?_)
             generalize w39.drew = w40 at BK252 BK253 HB hx265_0 hx266_0 hx267_0 hx268_0 hHeld ⊢
             refine pu_ HT_ 0 67 (bs_ 30 1) ?_; refine pu_ HT_ 2 69 (bs_ 30 5) ?_; refine pu_ HT_ 5 72 (bs_ 30 37) ?_; refine pu_ HT_ 7 74 (bs_ 30 165) ?_; refine pu_ HT_ 8 75 (bs_ 30 421) ?_; refine pu_ HT_ 11 78 (bs_ 30 2469) ?_; refine pu_ HT_ 13 80 (bs_ 30 10661) ?_; refine pu_ HT_ 16 83 (bs_ 30 76197) ?_; refine pu_ HT_ 18 85 (bs_ 30 338341) ?_; refine pu_ HT_ 19 86 (bs_ 30 862629) ?_; refine pu_ HT_ 22 89 (bs_ 30 5056933) ?_; refine tk_ HT_ HW_ 1 68 (bs_ 30 5056935) hHeld ?_; refine pu_ HT_ 3 70 (bs_ 30 5056943) ?_; refine tk_ HT_ HW_ 4 71 (bs_ 30 5056959) hHeld ?_; refine tk_ HT_ HW_ 6 73 (bs_ 30 5057023) hHeld ?_; refine pu_ HT_ 9 76 (bs_ 30 5057535) ?_; refine tk_ HT_ HW_ 10 77 (bs_ 30 5058559) hHeld ?_; refine tk_ HT_ HW_ 12 79 (bs_ 30 5062655) hHeld ?_; refine pu_ HT_ 14 81 (bs_ 30 5079039) ?_; refine tk_ HT_ HW_ 15 82 (bs_ 30 5111807) hHeld ?_; refine tk_ HT_ HW_ 17 84 (bs_ 30 5242879) hHeld ?_; refine pu_ HT_ 20 87 (bs_ 30 6291455) ?_; refine tk_ HT_ HW_ 21 88 (bs_ 30 8388607) hHeld ?_; refine tk_ HT_ HW_ 23 90 (bs_ 30 16777215) hHeld ?_
             refine one_ (i := 24) (N := some 91) (bs_ 30 33554431) rfl rfl (one_of HT_.out (by kernel_rfl)) (by decide) (fun K hK => ?_)
             refine goes_ Try.func57 (by kernel_rfl) rfl #[.int .i64 (rd l0_0 t258), .int .i64 (rd l0_0 (ji20)), .int .i64 (rd l0_2 t258), .int .i64 (rd l0_2 (ji20)), .int .i64 a1_0] (by rfl) rfl rfl (by (try simp only [List.map_toArray, List.map_cons, List.map_nil]); first | done | (simp only [hji20]; rfl) | rfl | (simp only [List.length_drop, List.length_take]; rfl)) ?_
             with_reducible refine (impl_between.calls (rd l0_0 t258) (rd l0_0 (ji20)) (rd l0_2 t258) (rd l0_2 (ji20)) a1_0 t269 t270 _ A28.out).mono ?_
             rintro e w' ⟨rfl, ⟨nd, rfl⟩⟩
             refine ⟨_, rfl, ?_⟩
             refine hK.out _ _ ⟨bc0_ BK252, bc1_ BK252, bc2_ BK252, bc0_ BK253, bc1_ BK253, ((HB.out.cell (World.block_lt_of_cell? w _ hw265_0)).trans hw265_0), ((HB.out.cell (World.block_lt_of_cell? w _ hw266_0)).trans hw266_0), ((HB.out.cell (World.block_lt_of_cell? w _ hw267_0)).trans hw267_0), ((HB.out.cell (World.block_lt_of_cell? w _ hw268_0)).trans hw268_0)⟩ (fun hHeld => ?_)
             clear hK K; refine nm_ ?_; refine pu_ HT_ 25 66 (bs_ 30 67108863) ?_; refine pu_ HT_ 26 92 (bs_ 30 134217727) ?_; refine pu_ HT_ 27 93 (bs_ 30 268435455) ?_; refine pu_ HT_ 28 8 (bs_ 30 536870911) ?_; refine pu_ HT_ 29 9 (bs_ 30 1073741823) ?_
             refine done_ (done_of HT_.out (by kernel_rfl)) ?_
             have hcz41_0 := bc0_ BK253; have hcz41_1 := bc1_ BK253; have hfz41_0 := bf_ BK253 0; have hfz41_1 := bf_ BK253 1
             try go_wp2
             go_ret
             exact ⟨by first | rfl | (simp [errW_none, errW_some] <;> rfl) | (simp only [← hji20]; first | rfl | (simp [errW_none, errW_some] <;> rfl)) | (simp [*, errW_none, errW_some] <;> rfl), hw_ HB⟩
           ·rw [if_neg c27] at H
            exact absurd H (by simp)
          ·rw [if_neg c26] at H
           exact absurd H (by simp)
         ·rw [if_neg c24] at H
          exact absurd H (by simp)
        ·rw [if_neg c23] at H
         exact absurd H (by simp)
       ·rw [if_neg c22] at H
        exact absurd H (by simp)
      ·rw [if_neg c21] at H
       exact absurd H (by simp)
     ·rw [if_neg c19] at H
      exact absurd H (by simp)
    ·rw [if_neg c18] at H
     exact absurd H (by simp)

end Go.Proofs.Yteedbciobdcmaaa.QFnExactOrder
-- squeezed
