/- Lean functions that tell what the Go functions used by one law answer, and for each a proof that the Go code comes to just these answers; no condition. Printed by this session's own program over the kit's printer. -/
import Derived.Test.YtkginilghcepbaaWSq
import Derived.Test.YtkginilghcepbaaQFnMomentsx0
import Derived.Test.YtkginilghcepbaaQFnMomentsx1
import Derived.Test.YtkginilghcepbaaQFnMomentsx2
namespace Go.Proofs.Ytkginilghcepbaa.QFnMoments
open Go.RowKit Go.Proofs.YtkginilghcepbaaW.PrintWords Go.Proofs.YtkginilghcepbaaW.PrintLast Go.Proofs.YtkginilghcepbaaW.PrintMore
attribute [local go_sem] max2_int min2_int max_two min_two max_three min_three max_four min_four   -- for this text's walks alone
attribute [local go_sem high] go_eql go_neq go_lss go_leq go_gtr go_geq go_store   -- for this text's walks alone
set_option linter.unusedVariables false
set_option linter.unusedSimpArgs false

/-! ### impl_inside: function 76 -/
def impl_inside.j0 : Nat → Bool → List Int → List Int → List Int → Int → Int → Option (Bool)
 | 0, _, _, _, _, _, _ => none
 | k + 1, C0, c4, d2, d3, c7, j7 => if C0 = true then (some false) else ((impl_piece.f k c4 c7).bind fun a7 => (if 0 ≤ a7 then (if a7 < (c4.length : Int) then (if 0 ≤ (wrap64 (a7 + 1)) then (if (wrap64 (a7 + 1)) < (c4.length : Int) then (if a7 < (d2.length : Int) then (if (wrap64 (a7 + 1)) < (d2.length : Int) then ((impl_between.f (rd c4 a7) (rd c4 (wrap64 (a7 + 1))) (rd d2 a7) (rd d2 (wrap64 (a7 + 1))) c7).bind fun d4 => (if a7 < (d3.length : Int) then (if (wrap64 (a7 + 1)) < (d3.length : Int) then ((impl_between.f (rd c4 a7) (rd c4 (wrap64 (a7 + 1))) (rd d3 a7) (rd d3 (wrap64 (a7 + 1))) c7).bind fun l2 => (if (wrap64 (j7 * d4.2)) ≥ (wrap64 (d4.1 * c7)) then (some (decide ((wrap64 (j7 * d4.2)) ≤ (wrap64 (l2.1 * c7))))) else (some false))) else (none)) else (none))) else (none)) else (none)) else (none)) else (none)) else (none)) else (none)))
def impl_inside.f (k : Nat) (l0_0 : List Int) (l0_1 : List Int) (l0_2 : List Int) (a1_0 : Int) (a1_1 : Int) : Option (Bool) := if 0 < (l0_0.length : Int) then (if 0 ≤ (wrap64 ((l0_0.length : Int) - 1)) then (if (wrap64 ((l0_0.length : Int) - 1)) < (l0_0.length : Int) then ((impl_in.f a1_0 (mx (rd l0_0 0) 1) (rd l0_0 (wrap64 ((l0_0.length : Int) - 1)))).bind fun g1 => (if g1 = true then ((impl_in.f a1_1 (-1000000000) 1000000000).bind fun d9 => (impl_inside.j0 k (!d9) l0_0 l0_1 l0_2 a1_0 a1_1)) else (impl_inside.j0 k true l0_0 l0_1 l0_2 a1_0 a1_1))) else (none)) else (none)) else (none)
theorem impl_inside.mono_l : ∀ k, (∀ y0 y1 y2 y3 y4 y5, LeO (impl_inside.j0 k y0 y1 y2 y3 y4 y5) (impl_inside.j0 (k + 1) y0 y1 y2 y3 y4 y5))
 | 0 => fun _ _ _ _ _ _ r h => by simp [impl_inside.j0] at h
 | k + 1 => by
  have n7 := impl_inside.mono_l k
  ·intro y0 y1 y2 y3 y4 y5
   unfold impl_inside.j0
   repeat' first
   | (with_reducible exact n7 _ _ _ _ _ _)
   | (with_reducible exact impl_piece.mono _ _ _)
   | (with_reducible exact LeO.refl _)
   | (with_reducible exact LeO.none _)
   | (with_reducible refine LeO.ite ?_ ?_)
   | (with_reducible refine LeO.bind ?_ (fun _ => ?_))
   | exact n7 _ _ _ _ _ _
   | exact impl_piece.mono _ _ _
   | exact LeO.none _
   | refine LeO.ite ?_ ?_
   | refine LeO.bind ?_ (fun _ => ?_)
theorem impl_inside.mono : ∀ a0 a1 a2 a3 a4 k, LeO (impl_inside.f k a0 a1 a2 a3 a4) (impl_inside.f (k + 1) a0 a1 a2 a3 a4) := by
 intro a0 a1 a2 a3 a4 k
 have n7 := impl_inside.mono_l k
 unfold impl_inside.f
 repeat' first
   | (with_reducible exact n7 _ _ _ _ _ _)
   | (with_reducible exact impl_piece.mono _ _ _)
   | (with_reducible exact LeO.refl _)
   | (with_reducible exact LeO.none _)
   | (with_reducible refine LeO.ite ?_ ?_)
   | (with_reducible refine LeO.bind ?_ (fun _ => ?_))
   | exact n7 _ _ _ _ _ _
   | exact impl_piece.mono _ _ _
   | exact LeO.none _
   | refine LeO.ite ?_ ?_
   | refine LeO.bind ?_ (fun _ => ?_)
def impl_inside.T1 : Bool × List (List Nat × List Nat) := (true, [([], []), ([0], [0]), ([], []), ([2], [2]), ([3], [3]), ([4], [4]), ([5], [5]), ([], []), ([7], [7]), ([], []), ([9], [9]), ([10], [10]), ([11], [11]), ([8, 12], [8, 12]), ([13], [13]), ([1, 6, 14], [1, 6, 14]), ([15], [15]), ([16, 15], [16]), ([17], [17]), ([18, 17], [17, 18]), ([19, 17, 17], [17, 19]), ([20, 17], [17, 20]), ([17, 21], [17, 21])])
def impl_inside.B1 : List Nat := [0, 1, 0, 4, 12, 28, 60, 0, 128, 0, 512, 1536, 3584, 8064, 16256, 32767, 65535, 131071, 262143, 524287, 1048575, 2097151, 4194303]
theorem impl_inside.tab1 : rtab .any (opsOf Try.f76 1) = impl_inside.T1 := by kernel_rfl
theorem impl_inside.bits1 : waitsOk impl_inside.T1.2 impl_inside.B1 = true := by kernel_rfl
def impl_inside.T4 : Bool × List (List Nat × List Nat) := (true, [([], []), ([0], [0]), ([], []), ([1, 2], [1, 2]), ([3], [3]), ([], []), ([5], [5]), ([], []), ([7], [7]), ([6, 8], [6, 8]), ([9], [9]), ([], []), ([11], [11]), ([], []), ([12, 13], [12, 13]), ([14], [14]), ([], []), ([16], [16]), ([], []), ([18], [18]), ([17, 19], [17, 19]), ([20], [20]), ([], []), ([22], [22]), ([4, 10, 15, 21, 23], [4, 10, 15, 21, 23]), ([24], [24]), ([25], [25]), ([25], [25]), ([26, 24, 0, 1, 2, 3, 4, 5, 6, 7, 8, 9, 10, 11, 12, 13, 14, 15, 16, 17, 18, 19, 20, 21, 22, 23, 24, 25, 26], [26]), ([27, 28, 0, 1, 2, 3, 4, 5, 6, 7, 8, 9, 10, 11, 12, 13, 14, 15, 16, 17, 18, 19, 20, 21, 22, 23, 24, 25, 26, 27, 28], [27])])
def impl_inside.B4 : List Nat := [0, 1, 0, 7, 15, 0, 32, 0, 128, 480, 992, 0, 2048, 0, 14336, 30720, 0, 65536, 0, 262144, 983040, 2031616, 0, 4194304, 16777215, 33554431, 67108863, 67108863, 134217727, 536870911]
theorem impl_inside.tab4 : rtab .any (opsOf Try.f76 4) = impl_inside.T4 := by kernel_rfl
theorem impl_inside.bits4 : waitsOk impl_inside.T4.2 impl_inside.B4 = true := by kernel_rfl
def impl_inside.T5 : Bool × List (List Nat × List Nat) := (true, [([], []), ([0], [0]), ([], []), ([1, 2], [1, 2]), ([3], [3]), ([], []), ([5], [5]), ([], []), ([7], [7]), ([6, 8], [6, 8]), ([9], [9]), ([], []), ([11], [11]), ([], []), ([12, 13], [12, 13]), ([14], [14]), ([], []), ([16], [16]), ([], []), ([18], [18]), ([17, 19], [17, 19]), ([20], [20]), ([], []), ([22], [22]), ([4, 10, 15, 21, 23], [4, 10, 15, 21, 23]), ([24], [24]), ([25], [25]), ([25], [25]), ([26, 24, 0, 1, 2, 3, 4, 5, 6, 7, 8, 9, 10, 11, 12, 13, 14, 15, 16, 17, 18, 19, 20, 21, 22, 23, 24, 25, 26], [26]), ([27, 28, 0, 1, 2, 3, 4, 5, 6, 7, 8, 9, 10, 11, 12, 13, 14, 15, 16, 17, 18, 19, 20, 21, 22, 23, 24, 25, 26, 27, 28], [27])])
def impl_inside.B5 : List Nat := [0, 1, 0, 7, 15, 0, 32, 0, 128, 480, 992, 0, 2048, 0, 14336, 30720, 0, 65536, 0, 262144, 983040, 2031616, 0, 4194304, 16777215, 33554431, 67108863, 67108863, 134217727, 536870911]
theorem impl_inside.tab5 : rtab .any (opsOf Try.f76 5) = impl_inside.T5 := by kernel_rfl
theorem impl_inside.bits5 : waitsOk impl_inside.T5.2 impl_inside.B5 = true := by kernel_rfl
set_option maxHeartbeats 8000000 in
set_option maxRecDepth 100000 in
theorem impl_inside.calls (k : Nat) (A0_0 : Option Addr) (c0_0 : Nat) (l0_0 : List Int) (A0_1 : Option Addr) (c0_1 : Nat) (l0_1 : List Int) (A0_2 : Option Addr) (c0_2 : Nat) (l0_2 : List Int) (a1_0 : Int) (a1_1 : Int) (r : Bool) (w : World) (hr0_0 : Kd.C (Kd.int .i64) w A0_0 l0_0.length l0_0) (hc0_0 : l0_0.length ≤ c0_0) (hr0_1 : Kd.C (Kd.int .i64) w A0_1 l0_1.length l0_1) (hc0_1 : l0_1.length ≤ c0_1) (hr0_2 : Kd.C (Kd.int .i64) w A0_2 l0_2.length l0_2) (hc0_2 : l0_2.length ≤ c0_2) (h : impl_inside.f k l0_0 l0_1 l0_2 a1_0 a1_1 = some r) :
  Calls Try.prog 76 #[.agg #[.slice A0_0 l0_0.length c0_0, .slice A0_1 l0_1.length c0_1, .slice A0_2 l0_2.length c0_2], .agg #[.int .i64 a1_0, .int .i64 a1_1]] w fun e w' => e = .returned (.bool r) ∧ Below w.heap.size w w' := by
 have C1 := Try.underlying70
 have C2 := Try.underlying66
 have c3 := mk_ hr0_0; have m5 := mk_ hc0_0; clear hr0_0 hc0_0; have j8 := mk_ hr0_1; have y6 := mk_ hc0_1; clear hr0_1 hc0_1; have j9 := mk_ hr0_2; have y7 := mk_ hc0_2; clear hr0_2 hc0_2; have HB := mk_ (Below.refl w.heap.size w)
 have H : (if 0 < (l0_0.length : Int) then (if 0 ≤ (wrap64 ((l0_0.length : Int) - 1)) then (if (wrap64 ((l0_0.length : Int) - 1)) < (l0_0.length : Int) then ((impl_in.f a1_0 (mx (rd l0_0 0) 1) (rd l0_0 (wrap64 ((l0_0.length : Int) - 1)))).bind fun g1 => (if g1 = true then ((impl_in.f a1_1 (-1000000000) 1000000000).bind fun d9 => (impl_inside.j0 k (!d9) l0_0 l0_1 l0_2 a1_0 a1_1)) else (impl_inside.j0 k true l0_0 l0_1 l0_2 a1_0 a1_1))) else (none)) else (none)) else (none)) = some r := h
 clear h; have t8 := mk_ H; clear H
 go_enter Try.func76, Try.ntmps76
 go_upto_region 1 with (first | ((with_reducible refine gd_ 2 rfl ?_); refine box_event ?hg (N := 2) ?hd (cs := #[.slice A0_0 l0_0.length c0_0, .slice A0_1 l0_1.length c0_1, .slice A0_2 l0_2.length c0_2]) (t := 70) ?hr ?_; (case hd => rfl); (case hg => rfl); (case hr => exact hr_); intro b0 hg w4 hbox hb; have a5 := mk_ (hbox); have n8 := gb_ hg HB; replace HB := bp_ HB hb; have y8 := n8; clear hb hbox hg) | ((with_reducible refine gd_ 3 rfl ?_); refine box_event ?hg (N := 3) ?hd (cs := #[.int .i64 a1_0, .int .i64 a1_1]) (t := 66) ?hr ?_; (case hd => rfl); (case hg => rfl); (case hr => exact hr_); intro c1 hg w5 hbox hb; have a6 := mk_ (hbox); have n9 := gb_ hg HB; replace HB := bp_ HB hb; have y9 := n9; have d1 := nb_ hg a5; replace a5 := bl_ a5 hb; have g0 := ns_ d1; clear hb hbox hg))
 (try simp only [Act.put, List.setIfInBounds_toArray, List.set_cons_zero, List.set_cons_succ])
 go_cut [32] (fun v32 wc => ∃ (kq : Nat) (l0 : Bool), v32 = .bool l0 ∧ Aside0 (impl_inside.j0 kq l0 l0_0 l0_1 l0_2 a1_0 a1_1 = some r) ∧ Aside0 (kq ≤ k) ∧ Aside0 (wc.heap[b0]? = some (.cells #[(.slice A0_0 l0_0.length c0_0), (.slice A0_1 l0_1.length c0_1), (.slice A0_2 l0_2.length c0_2)] 70 (0, 0))) ∧ Aside0 (wc.heap[c1]? = some (.cells #[.int .i64 a1_0, .int .i64 a1_1] 66 (0, 0))) ∧ Aside0 (Below w.heap.size w wc))
 case first =>
  have H := t8.out; clear t8; by_cases c6 : 0 < (l0_0.length : Int)
  ·rw [if_pos c6] at H; have o0 : decide (0 < (l0_0.length : Int)) = true := decide_eq_true c6; have C3 : decide (0 < l0_0.length) = true := decide_eq_true (by omega); clear c6
   (first | rw [o0] | (simp only [i64_w, i32_w]; rw [o0]) | skip)
   obtain ⟨m4, l1⟩ : ∃ j_ : Int, (mx (rd l0_0 0) 1) = j_ := ⟨_, rfl⟩
   replace H : (if 0 ≤ (wrap64 ((l0_0.length : Int) - 1)) then (if (wrap64 ((l0_0.length : Int) - 1)) < (l0_0.length : Int) then ((impl_in.f a1_0 (m4) (rd l0_0 (wrap64 ((l0_0.length : Int) - 1)))).bind fun g1 => (if g1 = true then ((impl_in.f a1_1 (-1000000000) 1000000000).bind fun d9 => (impl_inside.j0 k (!d9) l0_0 l0_1 l0_2 a1_0 a1_1)) else (impl_inside.j0 k true l0_0 l0_1 l0_2 a1_0 a1_1))) else (none)) else (none)) = some r := by first | (rw [l1] at H; exact H) | (simp only [l1] at H ⊢; exact H)
   (try (have hji7l : 1 ≤ m4 := by (rw [← l1]; unfold mx; (repeat' split) <;> omega)))
   (try (have hji7m : 0 ≤ m4 := by omega))
   have A0 : (if (rd l0_0 0) < 1 then 1 else (rd l0_0 0)) = m4 := l1
   obtain ⟨d8, l3⟩ : ∃ j_ : Int, (wrap64 ((l0_0.length : Int) - 1)) = j_ := ⟨_, rfl⟩
   replace H : (if 0 ≤ (d8) then (if (d8) < (l0_0.length : Int) then ((impl_in.f a1_0 (m4) (rd l0_0 (d8))).bind fun g1 => (if g1 = true then ((impl_in.f a1_1 (-1000000000) 1000000000).bind fun d9 => (impl_inside.j0 k (!d9) l0_0 l0_1 l0_2 a1_0 a1_1)) else (impl_inside.j0 k true l0_0 l0_1 l0_2 a1_0 a1_1))) else (none)) else (none)) = some r := by first | (rw [l3] at H; exact H) | (simp only [l3] at H ⊢; exact H)
   have hji8w : (IntKind.i64.wrap ((l0_0.length : Int) - 1)) = d8 := (i64_w _).trans l3
   by_cases c9 : 0 ≤ (d8)
   ·rw [if_pos c9] at H; have C4 : decide (0 ≤ (d8)) = true := decide_eq_true c9; clear c9; by_cases o9 : (d8) < (l0_0.length : Int)
    ·rw [if_pos o9] at H; have A1 : decide ((d8) < (l0_0.length : Int)) = true := decide_eq_true o9; clear o9; replace H := Option.bind_eq_some_iff.mp H; obtain ⟨g1, o1, H⟩ := H; (try dsimp only at H); have A2 := mk_ o1; clear o1; by_cases p0 : g1 = true
     ·subst p0; rw [if_pos rfl] at H
      replace H := Option.bind_eq_some_iff.mp H; obtain ⟨d9, o2, H⟩ := H
      (try dsimp only at H); have C5 := mk_ o2; clear o2
      have H' := mk_ H
      clear H
      try go_wp2
      replace a5 := dB_ a5; replace a6 := dB_ a6; replace HB := dH_ HB
      have g4 : 0 ≤ (0 : Int) := (by omega)
      have g5 : 0 < (l0_0.length : Int) := od_
      obtain ⟨c8, m6, a9⟩ := Kd.at_int c3.out 0 g4 g5
      have hw123_0 := a9
      (try rw [show ((0 : Int)).toNat = 0 from rfl] at hw123_0)
      (try rw [show 0 * 1 = 0 from rfl] at hw123_0)
      (try rw [Addr.add_zero'] at hw123_0)
      cases m6
      have qi123 : (0 < l0_0.length) = True := eq_true (by omega)
      (try rw [show ((0 : Int)).toNat = 0 from rfl] at a9)
      (try rw [Addr.add_zero'] at a9)
      replace a9 := (HB.out.cell (World.block_lt_of_cell? w _ a9)).trans a9
      replace g4 := eq_true g4; replace g5 := eq_true g5
      have g6 : 0 ≤ ((d8) : Int) := od_
      have g7 : (d8) < (l0_0.length : Int) := od_
      obtain ⟨l4, m7, b2⟩ := Kd.at_int c3.out (d8) g6 g7
      have hw124_0 := b2
      obtain rfl : c8 = l4 := (by injection m7)
      replace b2 := (HB.out.cell (World.block_lt_of_cell? w _ b2)).trans b2
      replace g6 := eq_true g6; replace g7 := eq_true g7
      refine start_ (n := 23) (S := fun w' => w'.cell? ⟨c1, 0, none⟩ = some (.int .i64 a1_0) ∧ w'.cell? ⟨c1, 1, none⟩ = some (.int .i64 a1_1) ∧ w'.cell? ⟨b0, 0, none⟩ = some (.slice (some c8) l0_0.length c0_0) ∧ w'.cell? ⟨b0, 1, none⟩ = some (.slice A0_1 l0_1.length c0_1) ∧ w'.cell? ⟨b0, 2, none⟩ = some (.slice A0_2 l0_2.length c0_2) ∧ w'.cell? c8 = some (.int .i64 (rd l0_0 0)) ∧ w'.cell? (c8.add ((d8)).toNat) = some (.int .i64 (rd l0_0 (d8)))) (ds := []) (bs_ 23 0) (by kernel_rfl) rfl (by kernel_rfl) ⟨bc0_ a6, bc1_ a6, bc0_ a5, bc1_ a5, bc2_ a5, ((HB.out.cell (World.block_lt_of_cell? w _ hw123_0)).trans hw123_0), ((HB.out.cell (World.block_lt_of_cell? w _ hw124_0)).trans hw124_0)⟩ (fun hHeld => ?_); refine with_tabW impl_inside.tab1 impl_inside.bits1 (fun HT_ HW_ => ?_)
      generalize w5.drew = C6 at a5 a6 HB a9 b2 hHeld ⊢
      refine pu_ HT_ 0 10 (bs_ 23 1) ?_; refine pu_ HT_ 2 12 (bs_ 23 5) ?_; refine pu_ HT_ 7 17 (bs_ 23 133) ?_; refine pu_ HT_ 9 19 (bs_ 23 645) ?_; refine tk_ HT_ HW_ 1 11 (bs_ 23 647) hHeld ?_; refine tk_ HT_ HW_ 3 13 (bs_ 23 655) hHeld ?_; refine pu_ HT_ 4 14 (bs_ 23 671) ?_; refine tk_ HT_ HW_ 5 15 (bs_ 23 703) hHeld ?_; refine pu_ HT_ 6 16 (bs_ 23 767) ?_; refine tk_ HT_ HW_ 8 18 (bs_ 23 1023) hHeld ?_; refine tk_ HT_ HW_ 10 20 (bs_ 23 2047) hHeld ?_; refine pu_ HT_ 11 21 (bs_ 23 4095) ?_; refine pu_ HT_ 12 22 (bs_ 23 8191) ?_; refine pu_ HT_ 13 23 (bs_ 23 16383) ?_; refine tk_ HT_ HW_ 14 24 (bs_ 23 32767) hHeld ?_
      refine one_ (i := 15) (N := some 25) (bs_ 23 65535) rfl rfl (one_of HT_.out (by kernel_rfl)) (by decide) (fun K hK => ?_)
      refine goes_ Try.func65 (by kernel_rfl) rfl #[.int .i64 a1_0, .int .i64 m4, .int .i64 (rd l0_0 (d8))] (by rfl) rfl rfl (by (try simp only [List.map_toArray, List.map_cons, List.map_nil]); first | done | (simp only [l1, l3]; rfl) | rfl | (simp only [List.length_drop, List.length_take]; rfl)) ?_
      with_reducible refine (impl_in.calls a1_0 m4 (rd l0_0 (d8)) true _ A2.out).mono ?_
      rintro e w' ⟨rfl, ⟨nd, rfl⟩⟩
      refine ⟨_, rfl, ?_⟩
      refine hK.out _ _ ⟨bc0_ a6, bc1_ a6, bc0_ a5, bc1_ a5, bc2_ a5, ((HB.out.cell (World.block_lt_of_cell? w _ hw123_0)).trans hw123_0), ((HB.out.cell (World.block_lt_of_cell? w _ hw124_0)).trans hw124_0)⟩ (fun hHeld => ?_)
      clear hK K; refine nm_ 25 ?_; refine pu_ HT_ 16 26 (bs_ 23 131071) ?_; refine pu_ HT_ 17 27 (bs_ 23 262143) ?_; refine pu_ HT_ 18 28 (bs_ 23 524287) ?_; refine tk_ HT_ HW_ 19 29 (bs_ 23 1048575) hHeld ?_
      refine one_ (i := 20) (N := some 30) (bs_ 23 2097151) rfl rfl (one_of HT_.out (by kernel_rfl)) (by decide) (fun K hK => ?_)
      refine gs_ Try.func65 #[.int .i64 a1_1, .int .i64 (-1000000000), .int .i64 1000000000] ?_
      with_reducible refine (impl_in.calls a1_1 (-1000000000) 1000000000 d9 _ C5.out).mono ?_
      rintro e w' ⟨rfl, ⟨nd, rfl⟩⟩
      refine ⟨_, rfl, ?_⟩
      refine hK.out _ _ ⟨bc0_ a6, bc1_ a6, bc0_ a5, bc1_ a5, bc2_ a5, ((HB.out.cell (World.block_lt_of_cell? w _ hw123_0)).trans hw123_0), ((HB.out.cell (World.block_lt_of_cell? w _ hw124_0)).trans hw124_0)⟩ (fun hHeld => ?_)
      clear hK K; refine nm_ 30 ?_; refine pu_ HT_ 21 31 (bs_ 23 4194303) ?_; refine pu_ HT_ 22 32 (bs_ 23 8388607) ?_
      refine done_ (done_of HT_.out (by kernel_rfl)) ?_
      try go_wp2
      go_meet
      case rel => exact ⟨_, (!d9), rf_, H', ⟨by first | omega | exact Nat.le_refl _⟩, bw_ a5, bw_ a6, ⟨hw_ HB⟩⟩
     ·replace p0 := Bool.eq_false_iff.mpr p0; subst p0; rw [if_neg (show ¬ (false = true) by decide)] at H
      have H' := mk_ H
      clear H
      try go_wp2
      replace a5 := dB_ a5; replace a6 := dB_ a6; replace HB := dH_ HB
      have g4 : 0 ≤ (0 : Int) := (by omega)
      have g5 : 0 < (l0_0.length : Int) := od_
      obtain ⟨c8, m6, a9⟩ := Kd.at_int c3.out 0 g4 g5
      have hw123_0 := a9
      (try rw [show ((0 : Int)).toNat = 0 from rfl] at hw123_0)
      (try rw [show 0 * 1 = 0 from rfl] at hw123_0)
      (try rw [Addr.add_zero'] at hw123_0)
      cases m6
      have qi123 : (0 < l0_0.length) = True := eq_true (by omega)
      (try rw [show ((0 : Int)).toNat = 0 from rfl] at a9)
      (try rw [Addr.add_zero'] at a9)
      replace a9 := (HB.out.cell (World.block_lt_of_cell? w _ a9)).trans a9
      replace g4 := eq_true g4; replace g5 := eq_true g5
      have g6 : 0 ≤ ((d8) : Int) := od_
      have g7 : (d8) < (l0_0.length : Int) := od_
      obtain ⟨l4, m7, b2⟩ := Kd.at_int c3.out (d8) g6 g7
      have hw124_0 := b2
      obtain rfl : c8 = l4 := (by injection m7)
      replace b2 := (HB.out.cell (World.block_lt_of_cell? w _ b2)).trans b2
      replace g6 := eq_true g6; replace g7 := eq_true g7
      refine start_ (n := 23) (S := fun w' => w'.cell? ⟨c1, 0, none⟩ = some (.int .i64 a1_0) ∧ w'.cell? ⟨c1, 1, none⟩ = some (.int .i64 a1_1) ∧ w'.cell? ⟨b0, 0, none⟩ = some (.slice (some c8) l0_0.length c0_0) ∧ w'.cell? ⟨b0, 1, none⟩ = some (.slice A0_1 l0_1.length c0_1) ∧ w'.cell? ⟨b0, 2, none⟩ = some (.slice A0_2 l0_2.length c0_2) ∧ w'.cell? c8 = some (.int .i64 (rd l0_0 0)) ∧ w'.cell? (c8.add ((d8)).toNat) = some (.int .i64 (rd l0_0 (d8)))) (ds := []) (bs_ 23 0) (by kernel_rfl) rfl (by kernel_rfl) ⟨bc0_ a6, bc1_ a6, bc0_ a5, bc1_ a5, bc2_ a5, ((HB.out.cell (World.block_lt_of_cell? w _ hw123_0)).trans hw123_0), ((HB.out.cell (World.block_lt_of_cell? w _ hw124_0)).trans hw124_0)⟩ (fun hHeld => ?_); refine with_tabW impl_inside.tab1 impl_inside.bits1 (fun HT_ HW_ => ?_)
      generalize w5.drew = C7 at a5 a6 HB a9 b2 hHeld ⊢
      refine pu_ HT_ 0 10 (bs_ 23 1) ?_; refine pu_ HT_ 2 12 (bs_ 23 5) ?_; refine pu_ HT_ 7 17 (bs_ 23 133) ?_; refine pu_ HT_ 9 19 (bs_ 23 645) ?_; refine tk_ HT_ HW_ 1 11 (bs_ 23 647) hHeld ?_; refine tk_ HT_ HW_ 3 13 (bs_ 23 655) hHeld ?_; refine pu_ HT_ 4 14 (bs_ 23 671) ?_; refine tk_ HT_ HW_ 5 15 (bs_ 23 703) hHeld ?_; refine pu_ HT_ 6 16 (bs_ 23 767) ?_; refine tk_ HT_ HW_ 8 18 (bs_ 23 1023) hHeld ?_; refine tk_ HT_ HW_ 10 20 (bs_ 23 2047) hHeld ?_; refine pu_ HT_ 11 21 (bs_ 23 4095) ?_; refine pu_ HT_ 12 22 (bs_ 23 8191) ?_; refine pu_ HT_ 13 23 (bs_ 23 16383) ?_; refine tk_ HT_ HW_ 14 24 (bs_ 23 32767) hHeld ?_
      refine one_ (i := 15) (N := some 25) (bs_ 23 65535) rfl rfl (one_of HT_.out (by kernel_rfl)) (by decide) (fun K hK => ?_)
      refine goes_ Try.func65 (by kernel_rfl) rfl #[.int .i64 a1_0, .int .i64 m4, .int .i64 (rd l0_0 (d8))] (by rfl) rfl rfl (by (try simp only [List.map_toArray, List.map_cons, List.map_nil]); first | done | (simp only [l1, l3]; rfl) | rfl | (simp only [List.length_drop, List.length_take]; rfl)) ?_
      with_reducible refine (impl_in.calls a1_0 m4 (rd l0_0 (d8)) false _ A2.out).mono ?_
      rintro e w' ⟨rfl, ⟨nd, rfl⟩⟩
      refine ⟨_, rfl, ?_⟩
      refine hK.out _ _ ⟨bc0_ a6, bc1_ a6, bc0_ a5, bc1_ a5, bc2_ a5, ((HB.out.cell (World.block_lt_of_cell? w _ hw123_0)).trans hw123_0), ((HB.out.cell (World.block_lt_of_cell? w _ hw124_0)).trans hw124_0)⟩ (fun hHeld => ?_)
      clear hK K; refine nm_ 25 ?_; refine pu_ HT_ 16 26 (bs_ 23 131071) ?_; refine pu_ HT_ 17 27 (bs_ 23 262143) ?_; refine pn_ HT_ 18 28 (bs_ 23 524287) ?_; refine pn_ HT_ 19 29 (bs_ 23 1048575) ?_; refine pn_ HT_ 20 30 (bs_ 23 2097151) ?_; refine pn_ HT_ 21 31 (bs_ 23 4194303) ?_; refine pu_ HT_ 22 32 (bs_ 23 8388607) ?_
      refine done_ (done_of HT_.out (by kernel_rfl)) ?_
      try go_wp2
      go_meet
      case rel => exact ⟨_, (true), rf_, H', ⟨by first | omega | exact Nat.le_refl _⟩, bw_ a5, bw_ a6, ⟨hw_ HB⟩⟩
    ·rw [if_neg o9] at H
     exact absurd H (by simp)
   ·rw [if_neg c9] at H
    exact absurd H (by simp)
  ·rw [if_neg c6] at H
   exact absurd H (by simp)
 case rest =>
  clear t8
  obtain ⟨kq, l0, rfl, HA, C8, a5, a6, HB⟩ := hcut
  cases kq with
  | zero => exact absurd HA.out (by simp [impl_inside.j0])
  | succ kj2 =>
   have H := HA.out; clear HA
   simp only [impl_inside.j0] at H
   by_cases p1 : l0 = true
   ·subst p1; rw [if_pos rfl] at H
    obtain rfl := Option.some.inj H; go_wp2
    go_ret
    exact ⟨re_, hw_ HB⟩
   ·replace p1 := Bool.eq_false_iff.mpr p1; subst p1; rw [if_neg (show ¬ (false = true) by decide)] at H; replace H := Option.bind_eq_some_iff.mp H; obtain ⟨a7, o3, H⟩ := H; (try dsimp only at H); have t9 := mk_ o3; clear o3; by_cases p2 : 0 ≤ a7
    ·rw [if_pos p2] at H; have A3 : decide (0 ≤ a7) = true := decide_eq_true p2; clear p2; by_cases p3 : a7 < (l0_0.length : Int)
     ·rw [if_pos p3] at H; have A4 : decide (a7 < (l0_0.length : Int)) = true := decide_eq_true p3; clear p3
      obtain ⟨a8, c5⟩ : ∃ j_ : Int, (wrap64 (a7 + 1)) = j_ := ⟨_, rfl⟩
      replace H : (if 0 ≤ (a8) then (if (a8) < (l0_0.length : Int) then (if a7 < (l0_1.length : Int) then (if (a8) < (l0_1.length : Int) then ((impl_between.f (rd l0_0 a7) (rd l0_0 (a8)) (rd l0_1 a7) (rd l0_1 (a8)) a1_0).bind fun d4 => (if a7 < (l0_2.length : Int) then (if (a8) < (l0_2.length : Int) then ((impl_between.f (rd l0_0 a7) (rd l0_0 (a8)) (rd l0_2 a7) (rd l0_2 (a8)) a1_0).bind fun l2 => (if (wrap64 (a1_1 * d4.2)) ≥ (wrap64 (d4.1 * a1_0)) then (some (decide ((wrap64 (a1_1 * d4.2)) ≤ (wrap64 (l2.1 * a1_0))))) else (some false))) else (none)) else (none))) else (none)) else (none)) else (none)) else (none)) = some r := by first | (rw [c5] at H; exact H) | (simp only [c5] at H ⊢; exact H)
      (try rw [c5] at t9)
      have hji20w : (IntKind.i64.wrap (a7 + 1)) = a8 := (i64_w _).trans c5
      by_cases p4 : 0 ≤ (a8)
      ·rw [if_pos p4] at H; have A5 : decide (0 ≤ (a8)) = true := decide_eq_true p4; clear p4; by_cases p5 : (a8) < (l0_0.length : Int)
       ·rw [if_pos p5] at H; have A6 : decide ((a8) < (l0_0.length : Int)) = true := decide_eq_true p5; clear p5; by_cases p6 : a7 < (l0_1.length : Int)
        ·rw [if_pos p6] at H; have A7 : decide (a7 < (l0_1.length : Int)) = true := decide_eq_true p6; clear p6; by_cases p7 : (a8) < (l0_1.length : Int)
         ·rw [if_pos p7] at H; have A8 : decide ((a8) < (l0_1.length : Int)) = true := decide_eq_true p7; clear p7; replace H := Option.bind_eq_some_iff.mp H; obtain ⟨⟨l5, l6⟩, o4, H⟩ := H; (try dsimp only at H); have A9 := mk_ o4; clear o4; by_cases p8 : a7 < (l0_2.length : Int)
          ·rw [if_pos p8] at H; have B0 : decide (a7 < (l0_2.length : Int)) = true := decide_eq_true p8; clear p8; by_cases p9 : (a8) < (l0_2.length : Int)
           ·rw [if_pos p9] at H; have B2 : decide ((a8) < (l0_2.length : Int)) = true := decide_eq_true p9; clear p9; replace H := Option.bind_eq_some_iff.mp H; obtain ⟨⟨o5, o6⟩, o7, H⟩ := H; (try dsimp only at H); have B3 := mk_ o7; clear o7; by_cases n6 : (wrap64 (a1_1 * l6)) ≥ (wrap64 (l5 * a1_0))
            ·rw [if_pos n6] at H; have o8 : decide ((wrap64 (l5 * a1_0)) ≤ (wrap64 (a1_1 * l6))) = true := decide_eq_true n6; clear n6; obtain rfl := Option.some.inj H; have B6 := d1.out; have B7 := g0.out; have q0 := bc0_ a5; have q1 := bc1_ a5; have q2 := bc2_ a5; have q3 := bf_ a5 0; have q4 := bf_ a5 1; have q5 := bf_ a5 2; have q6 := bc0_ a6; have q7 := bc1_ a6; have q8 := bf_ a6 0; have q9 := bf_ a6 1
             try go_wp2_with (first | ((with_reducible refine gc_ 66 rfl ?_); refine gl_ (some 37) rfl Try.func66 #[.slice A0_0 l0_0.length c0_0, .int .i64 a1_0] ?_; (with_reducible refine (impl_piece.calls kj2 _ _ l0_0 a1_0 a7 _ ?l7 ?l8 t9.out).mono ?_); (case l7 => exact cw_ (Kd.C_below c3.out HB.out)); (case l8 => exact m5.out); rintro e w' ⟨rfl, ⟨nd, rfl⟩⟩; refine ⟨_, rfl, ?_⟩))
             (try (rw [drewN_self wc]; generalize hq_ : World.drewN wc _ = wc; have d5 := qB_ hq_ a5; have d6 := qB_ hq_ a6; have d7 := qH_ hq_ HB; clear a5 a6 HB hq_; have a5 := d5; have a6 := d6; have HB := d7; clear d5 d6 d7))
             replace a5 := dB_ a5; replace a6 := dB_ a6; replace HB := dH_ HB
             have g8 : 0 ≤ (a7 : Int) := od_
             have g9 : a7 < (l0_0.length : Int) := od_
             obtain ⟨b1, m8, b3⟩ := Kd.at_int c3.out a7 g8 g9
             have hw128_0 := b3
             cases m8
             replace b3 := (HB.out.cell (World.block_lt_of_cell? w _ b3)).trans b3
             replace g8 := eq_true g8; replace g9 := eq_true g9
             have h2 : 0 ≤ ((a8) : Int) := od_
             have h3 : (a8) < (l0_0.length : Int) := od_
             obtain ⟨l9, m9, b4⟩ := Kd.at_int c3.out (a8) h2 h3
             have hw129_0 := b4
             obtain rfl : b1 = l9 := (by injection m9)
             replace b4 := (HB.out.cell (World.block_lt_of_cell? w _ b4)).trans b4
             replace h2 := eq_true h2; replace h3 := eq_true h3
             have h4 : 0 ≤ (a7 : Int) := od_
             have h5 : a7 < (l0_1.length : Int) := od_
             obtain ⟨c2, n0, b5⟩ := Kd.at_int j8.out a7 h4 h5
             have hw130_0 := b5
             cases n0
             replace b5 := (HB.out.cell (World.block_lt_of_cell? w _ b5)).trans b5
             replace h4 := eq_true h4; replace h5 := eq_true h5
             have h6 : 0 ≤ ((a8) : Int) := od_
             have h7 : (a8) < (l0_1.length : Int) := od_
             obtain ⟨m0, n1, b6⟩ := Kd.at_int j8.out (a8) h6 h7
             have hw131_0 := b6
             obtain rfl : c2 = m0 := (by injection n1)
             replace b6 := (HB.out.cell (World.block_lt_of_cell? w _ b6)).trans b6
             replace h6 := eq_true h6; replace h7 := eq_true h7
             refine start_ (n := 30) (S := fun w' => w'.cell? ⟨b0, 0, none⟩ = some (.slice (some b1) l0_0.length c0_0) ∧ w'.cell? ⟨b0, 1, none⟩ = some (.slice (some c2) l0_1.length c0_1) ∧ w'.cell? ⟨b0, 2, none⟩ = some (.slice A0_2 l0_2.length c0_2) ∧ w'.cell? ⟨c1, 0, none⟩ = some (.int .i64 a1_0) ∧ w'.cell? ⟨c1, 1, none⟩ = some (.int .i64 a1_1) ∧ w'.cell? (b1.add (a7).toNat) = some (.int .i64 (rd l0_0 a7)) ∧ w'.cell? (b1.add ((a8)).toNat) = some (.int .i64 (rd l0_0 (a8))) ∧ w'.cell? (c2.add (a7).toNat) = some (.int .i64 (rd l0_1 a7)) ∧ w'.cell? (c2.add ((a8)).toNat) = some (.int .i64 (rd l0_1 (a8)))) (ds := []) (bs_ 30 0) (by kernel_rfl) rfl (by kernel_rfl) ⟨bc0_ a5, bc1_ a5, bc2_ a5, bc0_ a6, bc1_ a6, ((HB.out.cell (World.block_lt_of_cell? w _ hw128_0)).trans hw128_0), ((HB.out.cell (World.block_lt_of_cell? w _ hw129_0)).trans hw129_0), ((HB.out.cell (World.block_lt_of_cell? w _ hw130_0)).trans hw130_0), ((HB.out.cell (World.block_lt_of_cell? w _ hw131_0)).trans hw131_0)⟩ (fun hHeld => ?_); refine with_tabW impl_inside.tab4 impl_inside.bits4 (fun HT_ HW_ => ?_)
             generalize wc.drew = g2 at a5 a6 HB b3 b4 b5 b6 hHeld ⊢
             refine pu_ HT_ 0 39 (bs_ 30 1) ?_; refine pu_ HT_ 2 41 (bs_ 30 5) ?_; refine pu_ HT_ 5 44 (bs_ 30 37) ?_; refine pu_ HT_ 7 46 (bs_ 30 165) ?_; refine pu_ HT_ 8 47 (bs_ 30 421) ?_; refine pu_ HT_ 11 50 (bs_ 30 2469) ?_; refine pu_ HT_ 13 52 (bs_ 30 10661) ?_; refine pu_ HT_ 16 55 (bs_ 30 76197) ?_; refine pu_ HT_ 18 57 (bs_ 30 338341) ?_; refine pu_ HT_ 19 58 (bs_ 30 862629) ?_; refine pu_ HT_ 22 61 (bs_ 30 5056933) ?_; refine tk_ HT_ HW_ 1 40 (bs_ 30 5056935) hHeld ?_; refine pu_ HT_ 3 42 (bs_ 30 5056943) ?_; refine tk_ HT_ HW_ 4 43 (bs_ 30 5056959) hHeld ?_; refine tk_ HT_ HW_ 6 45 (bs_ 30 5057023) hHeld ?_; refine pu_ HT_ 9 48 (bs_ 30 5057535) ?_; refine tk_ HT_ HW_ 10 49 (bs_ 30 5058559) hHeld ?_; refine tk_ HT_ HW_ 12 51 (bs_ 30 5062655) hHeld ?_; refine pu_ HT_ 14 53 (bs_ 30 5079039) ?_; refine tk_ HT_ HW_ 15 54 (bs_ 30 5111807) hHeld ?_; refine tk_ HT_ HW_ 17 56 (bs_ 30 5242879) hHeld ?_; refine pu_ HT_ 20 59 (bs_ 30 6291455) ?_; refine tk_ HT_ HW_ 21 60 (bs_ 30 8388607) hHeld ?_; refine tk_ HT_ HW_ 23 62 (bs_ 30 16777215) hHeld ?_
             refine one_ (i := 24) (N := some 63) (bs_ 30 33554431) rfl rfl (one_of HT_.out (by kernel_rfl)) (by decide) (fun K hK => ?_)
             refine goes_ Try.func67 (by kernel_rfl) rfl #[.int .i64 (rd l0_0 a7), .int .i64 (rd l0_0 (a8)), .int .i64 (rd l0_1 a7), .int .i64 (rd l0_1 (a8)), .int .i64 a1_0] (by rfl) rfl rfl (by (try simp only [List.map_toArray, List.map_cons, List.map_nil]); first | done | (simp only [c5]; rfl) | rfl | (simp only [List.length_drop, List.length_take]; rfl)) ?_
             with_reducible refine (impl_between.calls (rd l0_0 a7) (rd l0_0 (a8)) (rd l0_1 a7) (rd l0_1 (a8)) a1_0 l5 l6 _ A9.out).mono ?_
             rintro e w' ⟨rfl, ⟨nd, rfl⟩⟩
             refine ⟨_, rfl, ?_⟩
             refine hK.out _ _ ⟨bc0_ a5, bc1_ a5, bc2_ a5, bc0_ a6, bc1_ a6, ((HB.out.cell (World.block_lt_of_cell? w _ hw128_0)).trans hw128_0), ((HB.out.cell (World.block_lt_of_cell? w _ hw129_0)).trans hw129_0), ((HB.out.cell (World.block_lt_of_cell? w _ hw130_0)).trans hw130_0), ((HB.out.cell (World.block_lt_of_cell? w _ hw131_0)).trans hw131_0)⟩ (fun hHeld => ?_)
             clear hK K; refine nm_ 63 ?_; refine pu_ HT_ 25 38 (bs_ 30 67108863) ?_; refine pu_ HT_ 26 64 (bs_ 30 134217727) ?_; refine pu_ HT_ 27 65 (bs_ 30 268435455) ?_; refine pu_ HT_ 28 6 (bs_ 30 536870911) ?_; refine pu_ HT_ 29 7 (bs_ 30 1073741823) ?_
             refine done_ (done_of HT_.out (by kernel_rfl)) ?_
             try go_wp2
             (first | (rw [World.drewN_drewN]; (repeat rw [World.drewN_drewN]); generalize hq_ : World.drewN g2 _ = g2; have d5 : Aside0 (g2.heap[b0]? = some (.cells #[.slice (some b1) l0_0.length c0_0, .slice (some c2) l0_1.length c0_1, .slice A0_2 l0_2.length c0_2] 70 (0, 0))) := ⟨by rw [← hq_]; exact (bx_ a5)⟩; have d6 : Aside0 (g2.heap[c1]? = some (.cells #[.int .i64 a1_0, .int .i64 a1_1] 66 (0, 0))) := ⟨by rw [← hq_]; exact (bx_ a6)⟩; have d7 : Aside0 (Below w.heap.size w g2) := ⟨by rw [← hq_]; exact (hw_ HB)⟩; clear a5 a6 HB hq_; have a5 := d5; have a6 := d6; have HB := d7; clear d5 d6 d7) | (rw [(rfl : World.drewN g2 nd = World.drewN g2 nd)]; generalize hq_ : World.drewN g2 nd = g2; have d5 : Aside0 (g2.heap[b0]? = some (.cells #[.slice (some b1) l0_0.length c0_0, .slice (some c2) l0_1.length c0_1, .slice A0_2 l0_2.length c0_2] 70 (0, 0))) := ⟨by rw [← hq_]; exact (bx_ a5)⟩; have d6 : Aside0 (g2.heap[c1]? = some (.cells #[.int .i64 a1_0, .int .i64 a1_1] 66 (0, 0))) := ⟨by rw [← hq_]; exact (bx_ a6)⟩; have d7 : Aside0 (Below w.heap.size w g2) := ⟨by rw [← hq_]; exact (hw_ HB)⟩; clear a5 a6 HB hq_; have a5 := d5; have a6 := d6; have HB := d7; clear d5 d6 d7) | (try (rw [drewN_self g2]; generalize hq_ : World.drewN g2 _ = g2; have d5 := qB_ hq_ a5; have d6 := qB_ hq_ a6; have d7 := qH_ hq_ HB; clear a5 a6 HB hq_; have a5 := d5; have a6 := d6; have HB := d7; clear d5 d6 d7)))
             replace a5 := dB_ a5; replace a6 := dB_ a6; replace HB := dH_ HB
             have h8 : 0 ≤ (a7 : Int) := od_
             have h9 : a7 < (l0_0.length : Int) := od_
             obtain ⟨m1, n2, b7⟩ := Kd.at_int c3.out a7 h8 h9
             have hw134_0 := b7
             obtain rfl : b1 = m1 := (by injection n2)
             replace b7 := (HB.out.cell (World.block_lt_of_cell? w _ b7)).trans b7
             replace h8 := eq_true h8; replace h9 := eq_true h9
             have j1 : 0 ≤ ((a8) : Int) := od_
             have j2 : (a8) < (l0_0.length : Int) := od_
             obtain ⟨m2, n3, b8⟩ := Kd.at_int c3.out (a8) j1 j2
             have hw135_0 := b8
             obtain rfl : b1 = m2 := (by injection n3)
             replace b8 := (HB.out.cell (World.block_lt_of_cell? w _ b8)).trans b8
             replace j1 := eq_true j1; replace j2 := eq_true j2
             have j3 : 0 ≤ (a7 : Int) := od_
             have j4 : a7 < (l0_2.length : Int) := od_
             obtain ⟨d0, n4, b9⟩ := Kd.at_int j9.out a7 j3 j4
             have hw136_0 := b9
             cases n4
             replace b9 := (HB.out.cell (World.block_lt_of_cell? w _ b9)).trans b9
             replace j3 := eq_true j3; replace j4 := eq_true j4
             have j5 : 0 ≤ ((a8) : Int) := od_
             have j6 : (a8) < (l0_2.length : Int) := od_
             obtain ⟨m3, n5, c0⟩ := Kd.at_int j9.out (a8) j5 j6
             have hw137_0 := c0
             obtain rfl : d0 = m3 := (by injection n5)
             replace c0 := (HB.out.cell (World.block_lt_of_cell? w _ c0)).trans c0
             replace j5 := eq_true j5; replace j6 := eq_true j6
             refine start_ (n := 30) (S := fun w' => w'.cell? ⟨b0, 0, none⟩ = some (.slice (some b1) l0_0.length c0_0) ∧ w'.cell? ⟨b0, 1, none⟩ = some (.slice (some c2) l0_1.length c0_1) ∧ w'.cell? ⟨b0, 2, none⟩ = some (.slice (some d0) l0_2.length c0_2) ∧ w'.cell? ⟨c1, 0, none⟩ = some (.int .i64 a1_0) ∧ w'.cell? ⟨c1, 1, none⟩ = some (.int .i64 a1_1) ∧ w'.cell? (b1.add (a7).toNat) = some (.int .i64 (rd l0_0 a7)) ∧ w'.cell? (b1.add ((a8)).toNat) = some (.int .i64 (rd l0_0 (a8))) ∧ w'.cell? (d0.add (a7).toNat) = some (.int .i64 (rd l0_2 a7)) ∧ w'.cell? (d0.add ((a8)).toNat) = some (.int .i64 (rd l0_2 (a8)))) (ds := []) (bs_ 30 0) (by kernel_rfl) rfl (by kernel_rfl) ⟨bc0_ a5, bc1_ a5, bc2_ a5, bc0_ a6, bc1_ a6, ((HB.out.cell (World.block_lt_of_cell? w _ hw134_0)).trans hw134_0), ((HB.out.cell (World.block_lt_of_cell? w _ hw135_0)).trans hw135_0), ((HB.out.cell (World.block_lt_of_cell? w _ hw136_0)).trans hw136_0), ((HB.out.cell (World.block_lt_of_cell? w _ hw137_0)).trans hw137_0)⟩ (fun hHeld => ?_); refine with_tabW impl_inside.tab5 impl_inside.bits5 (fun HT_ HW_ => ?_)
             generalize g2.drew = C9 at a5 a6 HB b7 b8 b9 c0 hHeld ⊢
             refine pu_ HT_ 0 67 (bs_ 30 1) ?_; refine pu_ HT_ 2 69 (bs_ 30 5) ?_; refine pu_ HT_ 5 72 (bs_ 30 37) ?_; refine pu_ HT_ 7 74 (bs_ 30 165) ?_; refine pu_ HT_ 8 75 (bs_ 30 421) ?_; refine pu_ HT_ 11 78 (bs_ 30 2469) ?_; refine pu_ HT_ 13 80 (bs_ 30 10661) ?_; refine pu_ HT_ 16 83 (bs_ 30 76197) ?_; refine pu_ HT_ 18 85 (bs_ 30 338341) ?_; refine pu_ HT_ 19 86 (bs_ 30 862629) ?_; refine pu_ HT_ 22 89 (bs_ 30 5056933) ?_; refine tk_ HT_ HW_ 1 68 (bs_ 30 5056935) hHeld ?_; refine pu_ HT_ 3 70 (bs_ 30 5056943) ?_; refine tk_ HT_ HW_ 4 71 (bs_ 30 5056959) hHeld ?_; refine tk_ HT_ HW_ 6 73 (bs_ 30 5057023) hHeld ?_; refine pu_ HT_ 9 76 (bs_ 30 5057535) ?_; refine tk_ HT_ HW_ 10 77 (bs_ 30 5058559) hHeld ?_; refine tk_ HT_ HW_ 12 79 (bs_ 30 5062655) hHeld ?_; refine pu_ HT_ 14 81 (bs_ 30 5079039) ?_; refine tk_ HT_ HW_ 15 82 (bs_ 30 5111807) hHeld ?_; refine tk_ HT_ HW_ 17 84 (bs_ 30 5242879) hHeld ?_; refine pu_ HT_ 20 87 (bs_ 30 6291455) ?_; refine tk_ HT_ HW_ 21 88 (bs_ 30 8388607) hHeld ?_; refine tk_ HT_ HW_ 23 90 (bs_ 30 16777215) hHeld ?_
             refine one_ (i := 24) (N := some 91) (bs_ 30 33554431) rfl rfl (one_of HT_.out (by kernel_rfl)) (by decide) (fun K hK => ?_)
             refine goes_ Try.func67 (by kernel_rfl) rfl #[.int .i64 (rd l0_0 a7), .int .i64 (rd l0_0 (a8)), .int .i64 (rd l0_2 a7), .int .i64 (rd l0_2 (a8)), .int .i64 a1_0] (by rfl) rfl rfl (by (try simp only [List.map_toArray, List.map_cons, List.map_nil]); first | done | (simp only [c5]; rfl) | rfl | (simp only [List.length_drop, List.length_take]; rfl)) ?_
             with_reducible refine (impl_between.calls (rd l0_0 a7) (rd l0_0 (a8)) (rd l0_2 a7) (rd l0_2 (a8)) a1_0 o5 o6 _ B3.out).mono ?_
             rintro e w' ⟨rfl, ⟨nd, rfl⟩⟩
             refine ⟨_, rfl, ?_⟩
             refine hK.out _ _ ⟨bc0_ a5, bc1_ a5, bc2_ a5, bc0_ a6, bc1_ a6, ((HB.out.cell (World.block_lt_of_cell? w _ hw134_0)).trans hw134_0), ((HB.out.cell (World.block_lt_of_cell? w _ hw135_0)).trans hw135_0), ((HB.out.cell (World.block_lt_of_cell? w _ hw136_0)).trans hw136_0), ((HB.out.cell (World.block_lt_of_cell? w _ hw137_0)).trans hw137_0)⟩ (fun hHeld => ?_)
             clear hK K; refine nm_ 91 ?_; refine pu_ HT_ 25 66 (bs_ 30 67108863) ?_; refine pu_ HT_ 26 92 (bs_ 30 134217727) ?_; refine pu_ HT_ 27 93 (bs_ 30 268435455) ?_; refine pu_ HT_ 28 8 (bs_ 30 536870911) ?_; refine pu_ HT_ 29 9 (bs_ 30 1073741823) ?_
             refine done_ (done_of HT_.out (by kernel_rfl)) ?_
             have s0 := bc0_ a6; have s1 := bc1_ a6; have s2 := bf_ a6 0; have s3 := bf_ a6 1
             try go_wp2
             go_ret
             exact ⟨by first | rfl | (simp [errW_none, errW_some] <;> rfl) | (simp only [← c5]; first | rfl | (simp [errW_none, errW_some] <;> rfl)) | (simp [*, errW_none, errW_some] <;> rfl), hw_ HB⟩
            ·rw [if_neg n6] at H; have o8 : decide ((wrap64 (l5 * a1_0)) ≤ (wrap64 (a1_1 * l6))) = false := decide_eq_false n6; clear n6; obtain rfl := Option.some.inj H; have B8 := d1.out; have B9 := g0.out; have s4 := bc0_ a5; have s5 := bc1_ a5; have s6 := bc2_ a5; have s7 := bf_ a5 0; have s8 := bf_ a5 1; have s9 := bf_ a5 2; have t0 := bc0_ a6; have t1 := bc1_ a6; have t2 := bf_ a6 0; have t3 := bf_ a6 1
             try go_wp2_with (first | ((with_reducible refine gc_ 66 rfl ?_); refine gl_ (some 37) rfl Try.func66 #[.slice A0_0 l0_0.length c0_0, .int .i64 a1_0] ?_; (with_reducible refine (impl_piece.calls kj2 _ _ l0_0 a1_0 a7 _ ?l7 ?l8 t9.out).mono ?_); (case l7 => exact cw_ (Kd.C_below c3.out HB.out)); (case l8 => exact m5.out); rintro e w' ⟨rfl, ⟨nd, rfl⟩⟩; refine ⟨_, rfl, ?_⟩))
             (try (rw [drewN_self wc]; generalize hq_ : World.drewN wc _ = wc; have d5 := qB_ hq_ a5; have d6 := qB_ hq_ a6; have d7 := qH_ hq_ HB; clear a5 a6 HB hq_; have a5 := d5; have a6 := d6; have HB := d7; clear d5 d6 d7))
             replace a5 := dB_ a5; replace a6 := dB_ a6; replace HB := dH_ HB
             have g8 : 0 ≤ (a7 : Int) := od_
             have g9 : a7 < (l0_0.length : Int) := od_
             obtain ⟨b1, m8, b3⟩ := Kd.at_int c3.out a7 g8 g9
             have hw128_0 := b3
             cases m8
             replace b3 := (HB.out.cell (World.block_lt_of_cell? w _ b3)).trans b3
             replace g8 := eq_true g8; replace g9 := eq_true g9
             have h2 : 0 ≤ ((a8) : Int) := od_
             have h3 : (a8) < (l0_0.length : Int) := od_
             obtain ⟨l9, m9, b4⟩ := Kd.at_int c3.out (a8) h2 h3
             have hw129_0 := b4
             obtain rfl : b1 = l9 := (by injection m9)
             replace b4 := (HB.out.cell (World.block_lt_of_cell? w _ b4)).trans b4
             replace h2 := eq_true h2; replace h3 := eq_true h3
             have h4 : 0 ≤ (a7 : Int) := od_
             have h5 : a7 < (l0_1.length : Int) := od_
             obtain ⟨c2, n0, b5⟩ := Kd.at_int j8.out a7 h4 h5
             have hw130_0 := b5
             cases n0
             replace b5 := (HB.out.cell (World.block_lt_of_cell? w _ b5)).trans b5
             replace h4 := eq_true h4; replace h5 := eq_true h5
             have h6 : 0 ≤ ((a8) : Int) := od_
             have h7 : (a8) < (l0_1.length : Int) := od_
             obtain ⟨m0, n1, b6⟩ := Kd.at_int j8.out (a8) h6 h7
             have hw131_0 := b6
             obtain rfl : c2 = m0 := (by injection n1)
             replace b6 := (HB.out.cell (World.block_lt_of_cell? w _ b6)).trans b6
             replace h6 := eq_true h6; replace h7 := eq_true h7
             refine start_ (n := 30) (S := fun w' => w'.cell? ⟨b0, 0, none⟩ = some (.slice (some b1) l0_0.length c0_0) ∧ w'.cell? ⟨b0, 1, none⟩ = some (.slice (some c2) l0_1.length c0_1) ∧ w'.cell? ⟨b0, 2, none⟩ = some (.slice A0_2 l0_2.length c0_2) ∧ w'.cell? ⟨c1, 0, none⟩ = some (.int .i64 a1_0) ∧ w'.cell? ⟨c1, 1, none⟩ = some (.int .i64 a1_1) ∧ w'.cell? (b1.add (a7).toNat) = some (.int .i64 (rd l0_0 a7)) ∧ w'.cell? (b1.add ((a8)).toNat) = some (.int .i64 (rd l0_0 (a8))) ∧ w'.cell? (c2.add (a7).toNat) = some (.int .i64 (rd l0_1 a7)) ∧ w'.cell? (c2.add ((a8)).toNat) = some (.int .i64 (rd l0_1 (a8)))) (ds := []) (bs_ 30 0) (by kernel_rfl) rfl (by kernel_rfl) ⟨bc0_ a5, bc1_ a5, bc2_ a5, bc0_ a6, bc1_ a6, ((HB.out.cell (World.block_lt_of_cell? w _ hw128_0)).trans hw128_0), ((HB.out.cell (World.block_lt_of_cell? w _ hw129_0)).trans hw129_0), ((HB.out.cell (World.block_lt_of_cell? w _ hw130_0)).trans hw130_0), ((HB.out.cell (World.block_lt_of_cell? w _ hw131_0)).trans hw131_0)⟩ (fun hHeld => ?_); refine with_tabW impl_inside.tab4 impl_inside.bits4 (fun HT_ HW_ => ?_)
             generalize wc.drew = g3 at a5 a6 HB b3 b4 b5 b6 hHeld ⊢
             refine pu_ HT_ 0 39 (bs_ 30 1) ?_; refine pu_ HT_ 2 41 (bs_ 30 5) ?_; refine pu_ HT_ 5 44 (bs_ 30 37) ?_; refine pu_ HT_ 7 46 (bs_ 30 165) ?_; refine pu_ HT_ 8 47 (bs_ 30 421) ?_; refine pu_ HT_ 11 50 (bs_ 30 2469) ?_; refine pu_ HT_ 13 52 (bs_ 30 10661) ?_; refine pu_ HT_ 16 55 (bs_ 30 76197) ?_; refine pu_ HT_ 18 57 (bs_ 30 338341) ?_; refine pu_ HT_ 19 58 (bs_ 30 862629) ?_; refine pu_ HT_ 22 61 (bs_ 30 5056933) ?_; refine tk_ HT_ HW_ 1 40 (bs_ 30 5056935) hHeld ?_; refine pu_ HT_ 3 42 (bs_ 30 5056943) ?_; refine tk_ HT_ HW_ 4 43 (bs_ 30 5056959) hHeld ?_; refine tk_ HT_ HW_ 6 45 (bs_ 30 5057023) hHeld ?_; refine pu_ HT_ 9 48 (bs_ 30 5057535) ?_; refine tk_ HT_ HW_ 10 49 (bs_ 30 5058559) hHeld ?_; refine tk_ HT_ HW_ 12 51 (bs_ 30 5062655) hHeld ?_; refine pu_ HT_ 14 53 (bs_ 30 5079039) ?_; refine tk_ HT_ HW_ 15 54 (bs_ 30 5111807) hHeld ?_; refine tk_ HT_ HW_ 17 56 (bs_ 30 5242879) hHeld ?_; refine pu_ HT_ 20 59 (bs_ 30 6291455) ?_; refine tk_ HT_ HW_ 21 60 (bs_ 30 8388607) hHeld ?_; refine tk_ HT_ HW_ 23 62 (bs_ 30 16777215) hHeld ?_
             refine one_ (i := 24) (N := some 63) (bs_ 30 33554431) rfl rfl (one_of HT_.out (by kernel_rfl)) (by decide) (fun K hK => ?_)
             refine goes_ Try.func67 (by kernel_rfl) rfl #[.int .i64 (rd l0_0 a7), .int .i64 (rd l0_0 (a8)), .int .i64 (rd l0_1 a7), .int .i64 (rd l0_1 (a8)), .int .i64 a1_0] (by rfl) rfl rfl (by (try simp only [List.map_toArray, List.map_cons, List.map_nil]); first | done | (simp only [c5]; rfl) | rfl | (simp only [List.length_drop, List.length_take]; rfl)) ?_
             with_reducible refine (impl_between.calls (rd l0_0 a7) (rd l0_0 (a8)) (rd l0_1 a7) (rd l0_1 (a8)) a1_0 l5 l6 _ A9.out).mono ?_
             rintro e w' ⟨rfl, ⟨nd, rfl⟩⟩
             refine ⟨_, rfl, ?_⟩
             refine hK.out _ _ ⟨bc0_ a5, bc1_ a5, bc2_ a5, bc0_ a6, bc1_ a6, ((HB.out.cell (World.block_lt_of_cell? w _ hw128_0)).trans hw128_0), ((HB.out.cell (World.block_lt_of_cell? w _ hw129_0)).trans hw129_0), ((HB.out.cell (World.block_lt_of_cell? w _ hw130_0)).trans hw130_0), ((HB.out.cell (World.block_lt_of_cell? w _ hw131_0)).trans hw131_0)⟩ (fun hHeld => ?_)
             clear hK K; refine nm_ 63 ?_; refine pu_ HT_ 25 38 (bs_ 30 67108863) ?_; refine pu_ HT_ 26 64 (bs_ 30 134217727) ?_; refine pu_ HT_ 27 65 (bs_ 30 268435455) ?_; refine pu_ HT_ 28 6 (bs_ 30 536870911) ?_; refine pu_ HT_ 29 7 (bs_ 30 1073741823) ?_
             refine done_ (done_of HT_.out (by kernel_rfl)) ?_
             try go_wp2
             (first | (rw [World.drewN_drewN]; (repeat rw [World.drewN_drewN]); generalize hq_ : World.drewN g3 _ = g3; have d5 : Aside0 (g3.heap[b0]? = some (.cells #[.slice (some b1) l0_0.length c0_0, .slice (some c2) l0_1.length c0_1, .slice A0_2 l0_2.length c0_2] 70 (0, 0))) := ⟨by rw [← hq_]; exact (bx_ a5)⟩; have d6 : Aside0 (g3.heap[c1]? = some (.cells #[.int .i64 a1_0, .int .i64 a1_1] 66 (0, 0))) := ⟨by rw [← hq_]; exact (bx_ a6)⟩; have d7 : Aside0 (Below w.heap.size w g3) := ⟨by rw [← hq_]; exact (hw_ HB)⟩; clear a5 a6 HB hq_; have a5 := d5; have a6 := d6; have HB := d7; clear d5 d6 d7) | (rw [(rfl : World.drewN g3 nd = World.drewN g3 nd)]; generalize hq_ : World.drewN g3 nd = g3; have d5 : Aside0 (g3.heap[b0]? = some (.cells #[.slice (some b1) l0_0.length c0_0, .slice (some c2) l0_1.length c0_1, .slice A0_2 l0_2.length c0_2] 70 (0, 0))) := ⟨by rw [← hq_]; exact (bx_ a5)⟩; have d6 : Aside0 (g3.heap[c1]? = some (.cells #[.int .i64 a1_0, .int .i64 a1_1] 66 (0, 0))) := ⟨by rw [← hq_]; exact (bx_ a6)⟩; have d7 : Aside0 (Below w.heap.size w g3) := ⟨by rw [← hq_]; exact (hw_ HB)⟩; clear a5 a6 HB hq_; have a5 := d5; have a6 := d6; have HB := d7; clear d5 d6 d7) | (try (rw [drewN_self g3]; generalize hq_ : World.drewN g3 _ = g3; have d5 := qB_ hq_ a5; have d6 := qB_ hq_ a6; have d7 := qH_ hq_ HB; clear a5 a6 HB hq_; have a5 := d5; have a6 := d6; have HB := d7; clear d5 d6 d7)))
             replace a5 := dB_ a5; replace a6 := dB_ a6; replace HB := dH_ HB
             have h8 : 0 ≤ (a7 : Int) := od_
             have h9 : a7 < (l0_0.length : Int) := od_
             obtain ⟨m1, n2, b7⟩ := Kd.at_int c3.out a7 h8 h9
             have hw134_0 := b7
             obtain rfl : b1 = m1 := (by injection n2)
             replace b7 := (HB.out.cell (World.block_lt_of_cell? w _ b7)).trans b7
             replace h8 := eq_true h8; replace h9 := eq_true h9
             have j1 : 0 ≤ ((a8) : Int) := od_
             have j2 : (a8) < (l0_0.length : Int) := od_
             obtain ⟨m2, n3, b8⟩ := Kd.at_int c3.out (a8) j1 j2
             have hw135_0 := b8
             obtain rfl : b1 = m2 := (by injection n3)
             replace b8 := (HB.out.cell (World.block_lt_of_cell? w _ b8)).trans b8
             replace j1 := eq_true j1; replace j2 := eq_true j2
             have j3 : 0 ≤ (a7 : Int) := od_
             have j4 : a7 < (l0_2.length : Int) := od_
             obtain ⟨d0, n4, b9⟩ := Kd.at_int j9.out a7 j3 j4
             have hw136_0 := b9
             cases n4
             replace b9 := (HB.out.cell (World.block_lt_of_cell? w _ b9)).trans b9
             replace j3 := eq_true j3; replace j4 := eq_true j4
             have j5 : 0 ≤ ((a8) : Int) := od_
             have j6 : (a8) < (l0_2.length : Int) := od_
             obtain ⟨m3, n5, c0⟩ := Kd.at_int j9.out (a8) j5 j6
             have hw137_0 := c0
             obtain rfl : d0 = m3 := (by injection n5)
             replace c0 := (HB.out.cell (World.block_lt_of_cell? w _ c0)).trans c0
             replace j5 := eq_true j5; replace j6 := eq_true j6
             refine start_ (n := 30) (S := fun w' => w'.cell? ⟨b0, 0, none⟩ = some (.slice (some b1) l0_0.length c0_0) ∧ w'.cell? ⟨b0, 1, none⟩ = some (.slice (some c2) l0_1.length c0_1) ∧ w'.cell? ⟨b0, 2, none⟩ = some (.slice (some d0) l0_2.length c0_2) ∧ w'.cell? ⟨c1, 0, none⟩ = some (.int .i64 a1_0) ∧ w'.cell? ⟨c1, 1, none⟩ = some (.int .i64 a1_1) ∧ w'.cell? (b1.add (a7).toNat) = some (.int .i64 (rd l0_0 a7)) ∧ w'.cell? (b1.add ((a8)).toNat) = some (.int .i64 (rd l0_0 (a8))) ∧ w'.cell? (d0.add (a7).toNat) = some (.int .i64 (rd l0_2 a7)) ∧ w'.cell? (d0.add ((a8)).toNat) = some (.int .i64 (rd l0_2 (a8)))) (ds := []) (bs_ 30 0) (by kernel_rfl) rfl (by kernel_rfl) ⟨bc0_ a5, bc1_ a5, bc2_ a5, bc0_ a6, bc1_ a6, ((HB.out.cell (World.block_lt_of_cell? w _ hw134_0)).trans hw134_0), ((HB.out.cell (World.block_lt_of_cell? w _ hw135_0)).trans hw135_0), ((HB.out.cell (World.block_lt_of_cell? w _ hw136_0)).trans hw136_0), ((HB.out.cell (World.block_lt_of_cell? w _ hw137_0)).trans hw137_0)⟩ (fun hHeld => ?_); refine with_tabW impl_inside.tab5 impl_inside.bits5 (fun HT_ HW_ => ?_)
             generalize g3.drew = D0 at a5 a6 HB b7 b8 b9 c0 hHeld ⊢
             refine pu_ HT_ 0 67 (bs_ 30 1) ?_; refine pu_ HT_ 2 69 (bs_ 30 5) ?_; refine pu_ HT_ 5 72 (bs_ 30 37) ?_; refine pu_ HT_ 7 74 (bs_ 30 165) ?_; refine pu_ HT_ 8 75 (bs_ 30 421) ?_; refine pu_ HT_ 11 78 (bs_ 30 2469) ?_; refine pu_ HT_ 13 80 (bs_ 30 10661) ?_; refine pu_ HT_ 16 83 (bs_ 30 76197) ?_; refine pu_ HT_ 18 85 (bs_ 30 338341) ?_; refine pu_ HT_ 19 86 (bs_ 30 862629) ?_; refine pu_ HT_ 22 89 (bs_ 30 5056933) ?_; refine tk_ HT_ HW_ 1 68 (bs_ 30 5056935) hHeld ?_; refine pu_ HT_ 3 70 (bs_ 30 5056943) ?_; refine tk_ HT_ HW_ 4 71 (bs_ 30 5056959) hHeld ?_; refine tk_ HT_ HW_ 6 73 (bs_ 30 5057023) hHeld ?_; refine pu_ HT_ 9 76 (bs_ 30 5057535) ?_; refine tk_ HT_ HW_ 10 77 (bs_ 30 5058559) hHeld ?_; refine tk_ HT_ HW_ 12 79 (bs_ 30 5062655) hHeld ?_; refine pu_ HT_ 14 81 (bs_ 30 5079039) ?_; refine tk_ HT_ HW_ 15 82 (bs_ 30 5111807) hHeld ?_; refine tk_ HT_ HW_ 17 84 (bs_ 30 5242879) hHeld ?_; refine pu_ HT_ 20 87 (bs_ 30 6291455) ?_; refine tk_ HT_ HW_ 21 88 (bs_ 30 8388607) hHeld ?_; refine tk_ HT_ HW_ 23 90 (bs_ 30 16777215) hHeld ?_
             refine one_ (i := 24) (N := some 91) (bs_ 30 33554431) rfl rfl (one_of HT_.out (by kernel_rfl)) (by decide) (fun K hK => ?_)
             refine goes_ Try.func67 (by kernel_rfl) rfl #[.int .i64 (rd l0_0 a7), .int .i64 (rd l0_0 (a8)), .int .i64 (rd l0_2 a7), .int .i64 (rd l0_2 (a8)), .int .i64 a1_0] (by rfl) rfl rfl (by (try simp only [List.map_toArray, List.map_cons, List.map_nil]); first | done | (simp only [c5]; rfl) | rfl | (simp only [List.length_drop, List.length_take]; rfl)) ?_
             with_reducible refine (impl_between.calls (rd l0_0 a7) (rd l0_0 (a8)) (rd l0_2 a7) (rd l0_2 (a8)) a1_0 o5 o6 _ B3.out).mono ?_
             rintro e w' ⟨rfl, ⟨nd, rfl⟩⟩
             refine ⟨_, rfl, ?_⟩
             refine hK.out _ _ ⟨bc0_ a5, bc1_ a5, bc2_ a5, bc0_ a6, bc1_ a6, ((HB.out.cell (World.block_lt_of_cell? w _ hw134_0)).trans hw134_0), ((HB.out.cell (World.block_lt_of_cell? w _ hw135_0)).trans hw135_0), ((HB.out.cell (World.block_lt_of_cell? w _ hw136_0)).trans hw136_0), ((HB.out.cell (World.block_lt_of_cell? w _ hw137_0)).trans hw137_0)⟩ (fun hHeld => ?_)
             clear hK K; refine nm_ 91 ?_; refine pu_ HT_ 25 66 (bs_ 30 67108863) ?_; refine pu_ HT_ 26 92 (bs_ 30 134217727) ?_; refine pu_ HT_ 27 93 (bs_ 30 268435455) ?_; refine pu_ HT_ 28 8 (bs_ 30 536870911) ?_; refine pu_ HT_ 29 9 (bs_ 30 1073741823) ?_
             refine done_ (done_of HT_.out (by kernel_rfl)) ?_
             have t4 := bc0_ a6; have t5 := bc1_ a6; have t6 := bf_ a6 0; have t7 := bf_ a6 1
             try go_wp2
             go_ret
             exact ⟨by first | rfl | (simp [errW_none, errW_some] <;> rfl) | (simp only [← c5]; first | rfl | (simp [errW_none, errW_some] <;> rfl)) | (simp [*, errW_none, errW_some] <;> rfl), hw_ HB⟩
           ·rw [if_neg p9] at H
            exact absurd H (by simp)
          ·rw [if_neg p8] at H
           exact absurd H (by simp)
         ·rw [if_neg p7] at H
          exact absurd H (by simp)
        ·rw [if_neg p6] at H
         exact absurd H (by simp)
       ·rw [if_neg p5] at H
        exact absurd H (by simp)
      ·rw [if_neg p4] at H
       exact absurd H (by simp)
     ·rw [if_neg p3] at H
      exact absurd H (by simp)
    ·rw [if_neg p2] at H
     exact absurd H (by simp)

end Go.Proofs.Ytkginilghcepbaa.QFnMoments
-- squeezed
