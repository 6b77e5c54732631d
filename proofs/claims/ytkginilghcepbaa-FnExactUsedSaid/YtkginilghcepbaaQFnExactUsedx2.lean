/- Lean functions that tell what the Go functions used by one law answer, and for each a proof that the Go code comes to just these answers; no condition. Printed by this session's own program over the kit's printer. -/
import Derived.Test.YtkginilghcepbaaWSq
import Derived.Test.YtkginilghcepbaaQFnExactUsedx0
import Derived.Test.YtkginilghcepbaaQFnExactUsedx1
namespace Go.Proofs.Ytkginilghcepbaa.QFnExactUsed
open Go.RowKit Go.Proofs.YtkginilghcepbaaW.PrintWords Go.Proofs.YtkginilghcepbaaW.PrintLast Go.Proofs.YtkginilghcepbaaW.PrintMore
attribute [local go_sem] max2_int min2_int max_two min_two max_three min_three max_four min_four   -- for this text's walks alone
attribute [local go_sem high] go_eql go_neq go_lss go_leq go_gtr go_geq go_store   -- for this text's walks alone
set_option linter.unusedVariables false
set_option linter.unusedSimpArgs false

/-! ### spec_l6Curve: function 50 -/
def spec_l6Curve.l0 : Nat → List (S101) → Int → Option (Bool)
 | 0, _, _ => none
 | k + 1, x0, x3 => if x3 < (x0.length : Int) then (if 0 ≤ x3 then ((spec_l1In.f ((rd_T101 x0 x3).f0) 1 1000000).bind fun g5 => (if g5 = true then ((spec_l1In.f ((rd_T101 x0 x3).f1) 1 1000000).bind fun g6 => (if g6 = true then (if x3 > 0 then (if 0 ≤ (wrap64 (x3 - 1)) then (if (wrap64 (x3 - 1)) < (x0.length : Int) then (if ((rd_T101 x0 (wrap64 (x3 - 1))).f0) ≥ ((rd_T101 x0 x3).f0) then (some false) else (if ((rd_T101 x0 (wrap64 (x3 - 1))).f1) ≤ ((rd_T101 x0 x3).f1) then (some false) else (spec_l6Curve.l0 k x0 (wrap64 (x3 + 1))))) else (none)) else (none)) else (spec_l6Curve.l0 k x0 (wrap64 (x3 + 1)))) else (some false))) else (some false))) else (none)) else ((spec_l1In.f (x0.length : Int) 1 20).bind fun g7 => (some g7))
def spec_l6Curve.f (k : Nat) (l0 : List (S101)) : Option (Bool) := spec_l6Curve.l0 k l0 0
theorem spec_l6Curve.mono_l : ∀ k, (∀ y0 y1, LeO (spec_l6Curve.l0 k y0 y1) (spec_l6Curve.l0 (k + 1) y0 y1))
 | 0 => fun _ _ r h => by simp [spec_l6Curve.l0] at h
 | k + 1 => by
  have h4 := spec_l6Curve.mono_l k
  ·intro y0 y1
   unfold spec_l6Curve.l0
   repeat' first
   | (with_reducible exact h4 _ _)
   | (with_reducible exact LeO.refl _)
   | (with_reducible exact LeO.none _)
   | (with_reducible refine LeO.ite ?_ ?_)
   | (with_reducible refine LeO.bind ?_ (fun _ => ?_))
   | exact h4 _ _
   | exact LeO.none _
   | refine LeO.ite ?_ ?_
   | refine LeO.bind ?_ (fun _ => ?_)
theorem spec_l6Curve.mono : ∀ a0 k, LeO (spec_l6Curve.f k a0) (spec_l6Curve.f (k + 1) a0) := by
 intro a0 k
 have h4 := spec_l6Curve.mono_l k
 unfold spec_l6Curve.f
 repeat' first
   | (with_reducible exact h4 _ _)
   | (with_reducible exact LeO.refl _)
   | (with_reducible exact LeO.none _)
   | (with_reducible refine LeO.ite ?_ ?_)
   | (with_reducible refine LeO.bind ?_ (fun _ => ?_))
   | exact h4 _ _
   | exact LeO.none _
   | refine LeO.ite ?_ ?_
   | refine LeO.bind ?_ (fun _ => ?_)
def spec_l6Curve.T4 : Bool × List (List Nat × List Nat) := (true, [([], []), ([], []), ([0, 1], [0, 1]), ([2], [2]), ([3], [3]), ([4], [4]), ([5], [5]), ([6, 5], [6]), ([7], [7]), ([7], [7]), ([8, 9, 7], [7, 8, 9]), ([10, 7], [7, 10]), ([11, 7], [7, 11]), ([12, 7, 7], [7, 12]), ([13, 7], [7, 13]), ([7, 14], [7, 14]), ([15, 13], [15]), ([16], [16]), ([17, 16], [16, 17]), ([18, 16, 16], [16, 18]), ([19], [19]), ([19], [19]), ([21, 19], [19, 21]), ([20, 22, 19], [19, 20, 22]), ([23, 19], [19, 23]), ([24, 19], [19, 24]), ([19], [19]), ([19], [19]), ([26, 27, 19], [19, 26, 27]), ([28, 19], [19, 28]), ([29, 19], [19, 29]), ([25, 30, 19], [19, 25, 30]), ([31, 19, 19], [19, 31]), ([32], [32]), ([32], [32]), ([34, 32], [32, 34]), ([33, 35, 32], [32, 33, 35]), ([36, 32], [32, 36]), ([37, 32], [32, 37]), ([32], [32]), ([32], [32]), ([39, 40, 32], [32, 39, 40]), ([41, 32], [32, 41]), ([42, 32], [32, 42]), ([38, 43, 32], [32, 38, 43]), ([32, 44, 19], [19, 32, 44]), ([19, 45, 16], [16, 19, 45]), ([16, 46], [16, 46])])
def spec_l6Curve.B4 : List Nat := [0, 0, 3, 7, 15, 31, 63, 127, 255, 255, 1023, 2047, 4095, 8191, 16383, 32767, 65535, 131071, 262143, 524287, 1048575, 1048575, 3145727, 8388607, 16777215, 33554431, 1048575, 1048575, 202375167, 470810623, 1007681535, 2147483647, 4294967295, 8589934591, 8589934591, 25769803775, 68719476735, 137438953471, 274877906943, 8589934591, 8589934591, 1657857376255, 3856880631807, 8254927142911, 17592186044415, 35184372088831, 70368744177663, 140737488355327]
theorem spec_l6Curve.tab4 : rtab .any (opsOf Try.f50 4) = spec_l6Curve.T4 := by kernel_rfl
theorem spec_l6Curve.bits4 : waitsOk spec_l6Curve.T4.2 spec_l6Curve.B4 = true := by kernel_rfl
set_option maxHeartbeats 8000000 in
set_option maxRecDepth 100000 in
theorem spec_l6Curve.calls (k : Nat) (A0 : Option Addr) (c0 : Nat) (l0 : List (S101)) (r : Bool) (w : World) (hr0 : Kd.C k101 w A0 l0.length l0) (hc0 : l0.length ≤ c0) (h : spec_l6Curve.f k l0 = some r) :
  Calls Try.prog 50 #[.slice A0 l0.length c0] w fun e w' => e = .returned (.bool r) ∧ Below w.heap.size w w' := by
 have d2 := mk_ hr0; have j9 := mk_ hc0; clear hr0 hc0; have HB := mk_ (Below.refl w.heap.size w)
 have H : (spec_l6Curve.l0 k l0 0) = some r := h
 clear h
 have H' := mk_ H
 clear H
 go_enter Try.func50, Try.ntmps50
 go_wp2
 go_loopg [3] k (fun kq v3 w' => ∃ (a1 : Int), v3 = .int .i64 a1 ∧ Aside0 (spec_l6Curve.l0 kq l0 a1 = some r) ∧ Aside0 (kq ≤ k) ∧ Aside0 (Below w.heap.size w w'))
 case atStart => exact ⟨(0), rf_, H', ⟨Nat.le_refl _⟩, ⟨hw_ HB⟩⟩
 case round =>
  clear H'
  obtain ⟨a1, rfl, HA, h8, HB⟩ := hrel
  cases gk with
  | zero => exact absurd HA.out (by simp [spec_l6Curve.l0])
  | succ k1 =>
   have H := HA.out; clear HA
   simp only [spec_l6Curve.l0] at H
   by_cases c2 : a1 < (l0.length : Int)
   ·rw [if_pos c2] at H; have j1 : decide (a1 < (l0.length : Int)) = true := decide_eq_true c2; clear c2; by_cases c3 : 0 ≤ a1
    ·rw [if_pos c3] at H; have j7 : decide (0 ≤ a1) = true := decide_eq_true c3; clear c3; replace H := Option.bind_eq_some_iff.mp H; obtain ⟨g5, j3, H⟩ := H; (try dsimp only at H); have A4 := mk_ j3; clear j3; by_cases c5 : g5 = true
     ·subst c5; rw [if_pos rfl] at H
      replace H := Option.bind_eq_some_iff.mp H; obtain ⟨g6, j4, H⟩ := H
      (try dsimp only at H); have A6 := mk_ j4; clear j4
      by_cases c7 : g6 = true
      ·subst c7; rw [if_pos rfl] at H
       by_cases c8 : a1 > 0
       ·rw [if_pos c8] at H; have j2 : decide (0 < a1) = true := decide_eq_true c8; clear c8
        obtain ⟨b5, d6⟩ : ∃ j_ : Int, (wrap64 (a1 - 1)) = j_ := ⟨_, rfl⟩
        replace H : (if 0 ≤ (b5) then (if (b5) < (l0.length : Int) then (if ((rd_T101 l0 (b5)).f0) ≥ ((rd_T101 l0 a1).f0) then (some false) else (if ((rd_T101 l0 (b5)).f1) ≤ ((rd_T101 l0 a1).f1) then (some false) else (spec_l6Curve.l0 k1 l0 (wrap64 (a1 + 1))))) else (none)) else (none)) = some r := by first | (rw [d6] at H; exact H) | (simp only [d6] at H ⊢; exact H)
        (try rw [d6] at A4)
        (try rw [d6] at A6)
        have hji9w : (IntKind.i64.wrap (a1 - 1)) = b5 := (i64_w _).trans d6
        by_cases h9 : 0 ≤ (b5)
        ·rw [if_pos h9] at H; have j5 : decide (0 ≤ (b5)) = true := decide_eq_true h9; clear h9; by_cases j0 : (b5) < (l0.length : Int)
         ·rw [if_pos j0] at H; have j6 : decide ((b5) < (l0.length : Int)) = true := decide_eq_true j0; clear j0; by_cases h2 : ((rd_T101 l0 (b5)).f0) ≥ ((rd_T101 l0 a1).f0)
          ·rw [if_pos h2] at H; have h5 : decide (((rd_T101 l0 a1).f0) ≤ ((rd_T101 l0 (b5)).f0)) = true := decide_eq_true h2; clear h2; obtain rfl := Option.some.inj H
           try go_wp2
           replace HB := dH_ HB
           have b6 : 0 ≤ (a1 : Int) := od_
           have b7 : a1 < (l0.length : Int) := od_
           obtain ⟨a2, c4, a3, a4⟩ := at_T101 d2.out a1 b6 b7
           have hw102_1 := a4
           have hw102_0 := a3
           cases c4
           replace a3 := (HB.out.cell (World.block_lt_of_cell? w _ a3)).trans a3
           replace a4 := (HB.out.cell (World.block_lt_of_cell? w _ a4)).trans a4
           replace b6 := eq_true b6; replace b7 := eq_true b7
           have b8 : 0 ≤ (a1 : Int) := od_
           have b9 : a1 < (l0.length : Int) := od_
           obtain ⟨c1, d3, a5, a6⟩ := at_T101 d2.out a1 b8 b9
           have hw104_1 := a6
           have hw104_0 := a5
           obtain rfl : a2 = c1 := (by injection d3)
           replace a5 := (HB.out.cell (World.block_lt_of_cell? w _ a5)).trans a5
           replace a6 := (HB.out.cell (World.block_lt_of_cell? w _ a6)).trans a6
           replace b8 := eq_true b8; replace b9 := eq_true b9
           have c6 : 0 ≤ ((b5) : Int) := od_
           have c9 : (b5) < (l0.length : Int) := od_
           obtain ⟨d4, g1, a7, a8⟩ := at_T101 d2.out (b5) c6 c9
           have hw106_1 := a8
           have hw106_0 := a7
           obtain rfl : a2 = d4 := (by injection g1)
           replace a7 := (HB.out.cell (World.block_lt_of_cell? w _ a7)).trans a7
           replace a8 := (HB.out.cell (World.block_lt_of_cell? w _ a8)).trans a8
           replace c6 := eq_true c6; replace c9 := eq_true c9
           have d0 : 0 ≤ (a1 : Int) := od_
           have d1 : a1 < (l0.length : Int) := od_
           obtain ⟨d5, g2, a9, b0⟩ := at_T101 d2.out a1 d0 d1
           have hw107_1 := b0
           have hw107_0 := a9
           obtain rfl : a2 = d5 := (by injection g2)
           replace a9 := (HB.out.cell (World.block_lt_of_cell? w _ a9)).trans a9
           replace b0 := (HB.out.cell (World.block_lt_of_cell? w _ b0)).trans b0
           replace d0 := eq_true d0; replace d1 := eq_true d1
           refine start_ (n := 48) (S := fun w' => w'.cell? (a2.add ((a1).toNat * 2)) = some (.int .i64 ((rd_T101 l0 a1).f0)) ∧ w'.cell? ⟨(a2.add ((a1).toNat * 2)).block, (a2.add ((a1).toNat * 2)).off + 1, none⟩ = some (.int .i64 ((rd_T101 l0 a1).f1)) ∧ w'.cell? (a2.add ((a1).toNat * 2)) = some (.int .i64 ((rd_T101 l0 a1).f0)) ∧ w'.cell? ⟨(a2.add ((a1).toNat * 2)).block, (a2.add ((a1).toNat * 2)).off + 1, none⟩ = some (.int .i64 ((rd_T101 l0 a1).f1)) ∧ w'.cell? (a2.add (((b5)).toNat * 2)) = some (.int .i64 ((rd_T101 l0 (b5)).f0)) ∧ w'.cell? ⟨(a2.add (((b5)).toNat * 2)).block, (a2.add (((b5)).toNat * 2)).off + 1, none⟩ = some (.int .i64 ((rd_T101 l0 (b5)).f1)) ∧ w'.cell? (a2.add ((a1).toNat * 2)) = some (.int .i64 ((rd_T101 l0 a1).f0)) ∧ w'.cell? ⟨(a2.add ((a1).toNat * 2)).block, (a2.add ((a1).toNat * 2)).off + 1, none⟩ = some (.int .i64 ((rd_T101 l0 a1).f1))) (ds := []) (bs_ 48 0) (by kernel_rfl) rfl (by kernel_rfl) ⟨((HB.out.cell (World.block_lt_of_cell? w _ hw102_0)).trans hw102_0), ((HB.out.cell (World.block_lt_of_cell? w _ hw102_1)).trans hw102_1), ((HB.out.cell (World.block_lt_of_cell? w _ hw104_0)).trans hw104_0), ((HB.out.cell (World.block_lt_of_cell? w _ hw104_1)).trans hw104_1), ((HB.out.cell (World.block_lt_of_cell? w _ hw106_0)).trans hw106_0), ((HB.out.cell (World.block_lt_of_cell? w _ hw106_1)).trans hw106_1), ((HB.out.cell (World.block_lt_of_cell? w _ hw107_0)).trans hw107_0), ((HB.out.cell (World.block_lt_of_cell? w _ hw107_1)).trans hw107_1)⟩ (fun hHeld => ?_); refine with_tabW spec_l6Curve.tab4 spec_l6Curve.bits4 (fun HT_ HW_ => ?_)
           generalize wr.drew = l1 at HB a3 a4 a5 a6 a7 a8 a9 b0 hHeld ⊢
           refine pu_ HT_ 0 10 (bs_ 48 1) ?_; refine pu_ HT_ 1 11 (bs_ 48 3) ?_; refine pu_ HT_ 2 12 (bs_ 48 7) ?_; refine pu_ HT_ 3 13 (bs_ 48 15) ?_; refine tk_ HT_ HW_ 4 14 (bs_ 48 31) hHeld ?_
           refine one_ (i := 5) (N := some 15) (bs_ 48 63) rfl rfl (one_of HT_.out (by kernel_rfl)) (by decide) (fun K hK => ?_)
           refine gs_ Try.func82 #[.int .i64 ((rd_T101 l0 a1).f0), .int .i64 1, .int .i64 1000000] ?_
           with_reducible refine (spec_l1In.calls ((rd_T101 l0 a1).f0) 1 1000000 true _ A4.out).mono ?_
           rintro e w' ⟨rfl, ⟨nd, rfl⟩⟩
           refine ⟨_, rfl, ?_⟩
           refine hK.out _ _ ⟨((HB.out.cell (World.block_lt_of_cell? w _ hw102_0)).trans hw102_0), ((HB.out.cell (World.block_lt_of_cell? w _ hw102_1)).trans hw102_1), ((HB.out.cell (World.block_lt_of_cell? w _ hw104_0)).trans hw104_0), ((HB.out.cell (World.block_lt_of_cell? w _ hw104_1)).trans hw104_1), ((HB.out.cell (World.block_lt_of_cell? w _ hw106_0)).trans hw106_0), ((HB.out.cell (World.block_lt_of_cell? w _ hw106_1)).trans hw106_1), ((HB.out.cell (World.block_lt_of_cell? w _ hw107_0)).trans hw107_0), ((HB.out.cell (World.block_lt_of_cell? w _ hw107_1)).trans hw107_1)⟩ (fun hHeld => ?_)
           clear hK K; refine nm_ 15 ?_; refine pu_ HT_ 6 16 (bs_ 48 127) ?_; refine pu_ HT_ 7 17 (bs_ 48 255) ?_; refine pu_ HT_ 8 18 (bs_ 48 511) ?_; refine pu_ HT_ 9 19 (bs_ 48 1023) ?_; refine pu_ HT_ 10 20 (bs_ 48 2047) ?_; refine pu_ HT_ 11 21 (bs_ 48 4095) ?_; refine tk_ HT_ HW_ 12 22 (bs_ 48 8191) hHeld ?_
           refine one_ (i := 13) (N := some 23) (bs_ 48 16383) rfl rfl (one_of HT_.out (by kernel_rfl)) (by decide) (fun K hK => ?_)
           refine gs_ Try.func82 #[.int .i64 ((rd_T101 l0 a1).f1), .int .i64 1, .int .i64 1000000] ?_
           with_reducible refine (spec_l1In.calls ((rd_T101 l0 a1).f1) 1 1000000 true _ A6.out).mono ?_
           rintro e w' ⟨rfl, ⟨nd, rfl⟩⟩
           refine ⟨_, rfl, ?_⟩
           refine hK.out _ _ ⟨((HB.out.cell (World.block_lt_of_cell? w _ hw102_0)).trans hw102_0), ((HB.out.cell (World.block_lt_of_cell? w _ hw102_1)).trans hw102_1), ((HB.out.cell (World.block_lt_of_cell? w _ hw104_0)).trans hw104_0), ((HB.out.cell (World.block_lt_of_cell? w _ hw104_1)).trans hw104_1), ((HB.out.cell (World.block_lt_of_cell? w _ hw106_0)).trans hw106_0), ((HB.out.cell (World.block_lt_of_cell? w _ hw106_1)).trans hw106_1), ((HB.out.cell (World.block_lt_of_cell? w _ hw107_0)).trans hw107_0), ((HB.out.cell (World.block_lt_of_cell? w _ hw107_1)).trans hw107_1)⟩ (fun hHeld => ?_)
           clear hK K; refine nm_ 23 ?_; refine pu_ HT_ 14 24 (bs_ 48 32767) ?_; refine pu_ HT_ 15 25 (bs_ 48 65535) ?_; refine pu_ HT_ 16 26 (bs_ 48 131071) ?_; refine pu_ HT_ 17 27 (bs_ 48 262143) ?_; refine pu_ HT_ 18 28 (bs_ 48 524287) ?_; refine pu_ HT_ 19 29 (bs_ 48 1048575) ?_; refine pu_ HT_ 20 30 (bs_ 48 2097151) ?_; refine pu_ HT_ 21 31 (bs_ 48 4194303) ?_; refine pu_ HT_ 22 32 (bs_ 48 8388607) ?_; refine pu_ HT_ 23 33 (bs_ 48 16777215) ?_; refine pu_ HT_ 24 34 (bs_ 48 33554431) ?_; refine pu_ HT_ 26 36 (bs_ 48 100663295) ?_; refine pu_ HT_ 27 37 (bs_ 48 234881023) ?_; refine pu_ HT_ 28 38 (bs_ 48 503316479) ?_; refine pu_ HT_ 29 39 (bs_ 48 1040187391) ?_; refine tk_ HT_ HW_ 25 35 (bs_ 48 1073741823) hHeld ?_; refine tk_ HT_ HW_ 30 40 (bs_ 48 2147483647) hHeld ?_; refine pu_ HT_ 31 41 (bs_ 48 4294967295) ?_; refine pu_ HT_ 32 42 (bs_ 48 8589934591) ?_; refine pn_ HT_ 33 43 (bs_ 48 17179869183) ?_; refine pn_ HT_ 34 44 (bs_ 48 34359738367) ?_; refine pn_ HT_ 35 45 (bs_ 48 68719476735) ?_; refine pn_ HT_ 36 46 (bs_ 48 137438953471) ?_; refine pn_ HT_ 37 47 (bs_ 48 274877906943) ?_; refine pn_ HT_ 38 48 (bs_ 48 549755813887) ?_; refine pn_ HT_ 39 49 (bs_ 48 1099511627775) ?_; refine pn_ HT_ 40 50 (bs_ 48 2199023255551) ?_; refine pn_ HT_ 41 51 (bs_ 48 4398046511103) ?_; refine pn_ HT_ 42 52 (bs_ 48 8796093022207) ?_; refine pn_ HT_ 43 53 (bs_ 48 17592186044415) ?_; refine pn_ HT_ 44 54 (bs_ 48 35184372088831) ?_; refine pu_ HT_ 45 55 (bs_ 48 70368744177663) ?_; refine pu_ HT_ 46 56 (bs_ 48 140737488355327) ?_; refine pu_ HT_ 47 57 (bs_ 48 281474976710655) ?_
           refine done_ (done_of HT_.out (by kernel_rfl)) ?_
           try go_wp2
           go_ret
           exact ⟨by first | rfl | (simp [errW_none, errW_some] <;> rfl) | (simp only [← d6]; first | rfl | (simp [errW_none, errW_some] <;> rfl)) | (simp [*, errW_none, errW_some] <;> rfl), hw_ HB⟩
          ·rw [if_neg h2] at H; have h5 : decide (((rd_T101 l0 a1).f0) ≤ ((rd_T101 l0 (b5)).f0)) = false := decide_eq_false h2; clear h2; by_cases h3 : ((rd_T101 l0 (b5)).f1) ≤ ((rd_T101 l0 a1).f1)
           ·rw [if_pos h3] at H; have h6 : decide (((rd_T101 l0 (b5)).f1) ≤ ((rd_T101 l0 a1).f1)) = true := decide_eq_true h3; clear h3; obtain rfl := Option.some.inj H
            try go_wp2
            replace HB := dH_ HB
            have b6 : 0 ≤ (a1 : Int) := od_
            have b7 : a1 < (l0.length : Int) := od_
            obtain ⟨a2, c4, a3, a4⟩ := at_T101 d2.out a1 b6 b7
            have hw102_1 := a4
            have hw102_0 := a3
            cases c4
            replace a3 := (HB.out.cell (World.block_lt_of_cell? w _ a3)).trans a3
            replace a4 := (HB.out.cell (World.block_lt_of_cell? w _ a4)).trans a4
            replace b6 := eq_true b6; replace b7 := eq_true b7
            have b8 : 0 ≤ (a1 : Int) := od_
            have b9 : a1 < (l0.length : Int) := od_
            obtain ⟨c1, d3, a5, a6⟩ := at_T101 d2.out a1 b8 b9
            have hw104_1 := a6
            have hw104_0 := a5
            obtain rfl : a2 = c1 := (by injection d3)
            replace a5 := (HB.out.cell (World.block_lt_of_cell? w _ a5)).trans a5
            replace a6 := (HB.out.cell (World.block_lt_of_cell? w _ a6)).trans a6
            replace b8 := eq_true b8; replace b9 := eq_true b9
            have c6 : 0 ≤ ((b5) : Int) := od_
            have c9 : (b5) < (l0.length : Int) := od_
            obtain ⟨d4, g1, a7, a8⟩ := at_T101 d2.out (b5) c6 c9
            have hw106_1 := a8
            have hw106_0 := a7
            obtain rfl : a2 = d4 := (by injection g1)
            replace a7 := (HB.out.cell (World.block_lt_of_cell? w _ a7)).trans a7
            replace a8 := (HB.out.cell (World.block_lt_of_cell? w _ a8)).trans a8
            replace c6 := eq_true c6; replace c9 := eq_true c9
            have d0 : 0 ≤ (a1 : Int) := od_
            have d1 : a1 < (l0.length : Int) := od_
            obtain ⟨d5, g2, a9, b0⟩ := at_T101 d2.out a1 d0 d1
            have hw107_1 := b0
            have hw107_0 := a9
            obtain rfl : a2 = d5 := (by injection g2)
            replace a9 := (HB.out.cell (World.block_lt_of_cell? w _ a9)).trans a9
            replace b0 := (HB.out.cell (World.block_lt_of_cell? w _ b0)).trans b0
            replace d0 := eq_true d0; replace d1 := eq_true d1
            have d7 : 0 ≤ ((b5) : Int) := od_
            have d8 : (b5) < (l0.length : Int) := od_
            obtain ⟨g3, g8, b1, b2⟩ := at_T101 d2.out (b5) d7 d8
            have hw108_1 := b2
            have hw108_0 := b1
            obtain rfl : a2 = g3 := (by injection g8)
            replace b1 := (HB.out.cell (World.block_lt_of_cell? w _ b1)).trans b1
            replace b2 := (HB.out.cell (World.block_lt_of_cell? w _ b2)).trans b2
            replace d7 := eq_true d7; replace d8 := eq_true d8
            have d9 : 0 ≤ (a1 : Int) := od_
            have g0 : a1 < (l0.length : Int) := od_
            obtain ⟨g4, g9, b3, b4⟩ := at_T101 d2.out a1 d9 g0
            have hw109_1 := b4
            have hw109_0 := b3
            obtain rfl : a2 = g4 := (by injection g9)
            replace b3 := (HB.out.cell (World.block_lt_of_cell? w _ b3)).trans b3
            replace b4 := (HB.out.cell (World.block_lt_of_cell? w _ b4)).trans b4
            replace d9 := eq_true d9; replace g0 := eq_true g0
            refine start_ (n := 48) (S := fun w' => w'.cell? (a2.add ((a1).toNat * 2)) = some (.int .i64 ((rd_T101 l0 a1).f0)) ∧ w'.cell? ⟨(a2.add ((a1).toNat * 2)).block, (a2.add ((a1).toNat * 2)).off + 1, none⟩ = some (.int .i64 ((rd_T101 l0 a1).f1)) ∧ w'.cell? (a2.add ((a1).toNat * 2)) = some (.int .i64 ((rd_T101 l0 a1).f0)) ∧ w'.cell? ⟨(a2.add ((a1).toNat * 2)).block, (a2.add ((a1).toNat * 2)).off + 1, none⟩ = some (.int .i64 ((rd_T101 l0 a1).f1)) ∧ w'.cell? (a2.add (((b5)).toNat * 2)) = some (.int .i64 ((rd_T101 l0 (b5)).f0)) ∧ w'.cell? ⟨(a2.add (((b5)).toNat * 2)).block, (a2.add (((b5)).toNat * 2)).off + 1, none⟩ = some (.int .i64 ((rd_T101 l0 (b5)).f1)) ∧ w'.cell? (a2.add ((a1).toNat * 2)) = some (.int .i64 ((rd_T101 l0 a1).f0)) ∧ w'.cell? ⟨(a2.add ((a1).toNat * 2)).block, (a2.add ((a1).toNat * 2)).off + 1, none⟩ = some (.int .i64 ((rd_T101 l0 a1).f1)) ∧ w'.cell? (a2.add (((b5)).toNat * 2)) = some (.int .i64 ((rd_T101 l0 (b5)).f0)) ∧ w'.cell? ⟨(a2.add (((b5)).toNat * 2)).block, (a2.add (((b5)).toNat * 2)).off + 1, none⟩ = some (.int .i64 ((rd_T101 l0 (b5)).f1)) ∧ w'.cell? (a2.add ((a1).toNat * 2)) = some (.int .i64 ((rd_T101 l0 a1).f0)) ∧ w'.cell? ⟨(a2.add ((a1).toNat * 2)).block, (a2.add ((a1).toNat * 2)).off + 1, none⟩ = some (.int .i64 ((rd_T101 l0 a1).f1))) (ds := []) (bs_ 48 0) (by kernel_rfl) rfl (by kernel_rfl) ⟨((HB.out.cell (World.block_lt_of_cell? w _ hw102_0)).trans hw102_0), ((HB.out.cell (World.block_lt_of_cell? w _ hw102_1)).trans hw102_1), ((HB.out.cell (World.block_lt_of_cell? w _ hw104_0)).trans hw104_0), ((HB.out.cell (World.block_lt_of_cell? w _ hw104_1)).trans hw104_1), ((HB.out.cell (World.block_lt_of_cell? w _ hw106_0)).trans hw106_0), ((HB.out.cell (World.block_lt_of_cell? w _ hw106_1)).trans hw106_1), ((HB.out.cell (World.block_lt_of_cell? w _ hw107_0)).trans hw107_0), ((HB.out.cell (World.block_lt_of_cell? w _ hw107_1)).trans hw107_1), ((HB.out.cell (World.block_lt_of_cell? w _ hw108_0)).trans hw108_0), ((HB.out.cell (World.block_lt_of_cell? w _ hw108_1)).trans hw108_1), ((HB.out.cell (World.block_lt_of_cell? w _ hw109_0)).trans hw109_0), ((HB.out.cell (World.block_lt_of_cell? w _ hw109_1)).trans hw109_1)⟩ (fun hHeld => ?_); refine with_tabW spec_l6Curve.tab4 spec_l6Curve.bits4 (fun HT_ HW_ => ?_)
            generalize wr.drew = l2 at HB a3 a4 a5 a6 a7 a8 a9 b0 b1 b2 b3 b4 hHeld ⊢
            refine pu_ HT_ 0 10 (bs_ 48 1) ?_; refine pu_ HT_ 1 11 (bs_ 48 3) ?_; refine pu_ HT_ 2 12 (bs_ 48 7) ?_; refine pu_ HT_ 3 13 (bs_ 48 15) ?_; refine tk_ HT_ HW_ 4 14 (bs_ 48 31) hHeld ?_
            refine one_ (i := 5) (N := some 15) (bs_ 48 63) rfl rfl (one_of HT_.out (by kernel_rfl)) (by decide) (fun K hK => ?_)
            refine gs_ Try.func82 #[.int .i64 ((rd_T101 l0 a1).f0), .int .i64 1, .int .i64 1000000] ?_
            with_reducible refine (spec_l1In.calls ((rd_T101 l0 a1).f0) 1 1000000 true _ A4.out).mono ?_
            rintro e w' ⟨rfl, ⟨nd, rfl⟩⟩
            refine ⟨_, rfl, ?_⟩
            refine hK.out _ _ ⟨((HB.out.cell (World.block_lt_of_cell? w _ hw102_0)).trans hw102_0), ((HB.out.cell (World.block_lt_of_cell? w _ hw102_1)).trans hw102_1), ((HB.out.cell (World.block_lt_of_cell? w _ hw104_0)).trans hw104_0), ((HB.out.cell (World.block_lt_of_cell? w _ hw104_1)).trans hw104_1), ((HB.out.cell (World.block_lt_of_cell? w _ hw106_0)).trans hw106_0), ((HB.out.cell (World.block_lt_of_cell? w _ hw106_1)).trans hw106_1), ((HB.out.cell (World.block_lt_of_cell? w _ hw107_0)).trans hw107_0), ((HB.out.cell (World.block_lt_of_cell? w _ hw107_1)).trans hw107_1), ((HB.out.cell (World.block_lt_of_cell? w _ hw108_0)).trans hw108_0), ((HB.out.cell (World.block_lt_of_cell? w _ hw108_1)).trans hw108_1), ((HB.out.cell (World.block_lt_of_cell? w _ hw109_0)).trans hw109_0), ((HB.out.cell (World.block_lt_of_cell? w _ hw109_1)).trans hw109_1)⟩ (fun hHeld => ?_)
            clear hK K; refine nm_ 15 ?_; refine pu_ HT_ 6 16 (bs_ 48 127) ?_; refine pu_ HT_ 7 17 (bs_ 48 255) ?_; refine pu_ HT_ 8 18 (bs_ 48 511) ?_; refine pu_ HT_ 9 19 (bs_ 48 1023) ?_; refine pu_ HT_ 10 20 (bs_ 48 2047) ?_; refine pu_ HT_ 11 21 (bs_ 48 4095) ?_; refine tk_ HT_ HW_ 12 22 (bs_ 48 8191) hHeld ?_
            refine one_ (i := 13) (N := some 23) (bs_ 48 16383) rfl rfl (one_of HT_.out (by kernel_rfl)) (by decide) (fun K hK => ?_)
            refine gs_ Try.func82 #[.int .i64 ((rd_T101 l0 a1).f1), .int .i64 1, .int .i64 1000000] ?_
            with_reducible refine (spec_l1In.calls ((rd_T101 l0 a1).f1) 1 1000000 true _ A6.out).mono ?_
            rintro e w' ⟨rfl, ⟨nd, rfl⟩⟩
            refine ⟨_, rfl, ?_⟩
            refine hK.out _ _ ⟨((HB.out.cell (World.block_lt_of_cell? w _ hw102_0)).trans hw102_0), ((HB.out.cell (World.block_lt_of_cell? w _ hw102_1)).trans hw102_1), ((HB.out.cell (World.block_lt_of_cell? w _ hw104_0)).trans hw104_0), ((HB.out.cell (World.block_lt_of_cell? w _ hw104_1)).trans hw104_1), ((HB.out.cell (World.block_lt_of_cell? w _ hw106_0)).trans hw106_0), ((HB.out.cell (World.block_lt_of_cell? w _ hw106_1)).trans hw106_1), ((HB.out.cell (World.block_lt_of_cell? w _ hw107_0)).trans hw107_0), ((HB.out.cell (World.block_lt_of_cell? w _ hw107_1)).trans hw107_1), ((HB.out.cell (World.block_lt_of_cell? w _ hw108_0)).trans hw108_0), ((HB.out.cell (World.block_lt_of_cell? w _ hw108_1)).trans hw108_1), ((HB.out.cell (World.block_lt_of_cell? w _ hw109_0)).trans hw109_0), ((HB.out.cell (World.block_lt_of_cell? w _ hw109_1)).trans hw109_1)⟩ (fun hHeld => ?_)
            clear hK K; refine nm_ 23 ?_; refine pu_ HT_ 14 24 (bs_ 48 32767) ?_; refine pu_ HT_ 15 25 (bs_ 48 65535) ?_; refine pu_ HT_ 16 26 (bs_ 48 131071) ?_; refine pu_ HT_ 17 27 (bs_ 48 262143) ?_; refine pu_ HT_ 18 28 (bs_ 48 524287) ?_; refine pu_ HT_ 19 29 (bs_ 48 1048575) ?_; refine pu_ HT_ 20 30 (bs_ 48 2097151) ?_; refine pu_ HT_ 21 31 (bs_ 48 4194303) ?_; refine pu_ HT_ 22 32 (bs_ 48 8388607) ?_; refine pu_ HT_ 23 33 (bs_ 48 16777215) ?_; refine pu_ HT_ 24 34 (bs_ 48 33554431) ?_; refine pu_ HT_ 26 36 (bs_ 48 100663295) ?_; refine pu_ HT_ 27 37 (bs_ 48 234881023) ?_; refine pu_ HT_ 28 38 (bs_ 48 503316479) ?_; refine pu_ HT_ 29 39 (bs_ 48 1040187391) ?_; refine tk_ HT_ HW_ 25 35 (bs_ 48 1073741823) hHeld ?_; refine tk_ HT_ HW_ 30 40 (bs_ 48 2147483647) hHeld ?_; refine pu_ HT_ 31 41 (bs_ 48 4294967295) ?_; refine pu_ HT_ 32 42 (bs_ 48 8589934591) ?_; refine pu_ HT_ 33 43 (bs_ 48 17179869183) ?_; refine pu_ HT_ 34 44 (bs_ 48 34359738367) ?_; refine pu_ HT_ 35 45 (bs_ 48 68719476735) ?_; refine pu_ HT_ 36 46 (bs_ 48 137438953471) ?_; refine pu_ HT_ 37 47 (bs_ 48 274877906943) ?_; refine pu_ HT_ 39 49 (bs_ 48 824633720831) ?_; refine pu_ HT_ 40 50 (bs_ 48 1924145348607) ?_; refine pu_ HT_ 41 51 (bs_ 48 4123168604159) ?_; refine pu_ HT_ 42 52 (bs_ 48 8521215115263) ?_; refine tk_ HT_ HW_ 38 48 (bs_ 48 8796093022207) hHeld ?_; refine tk_ HT_ HW_ 43 53 (bs_ 48 17592186044415) hHeld ?_; refine pu_ HT_ 44 54 (bs_ 48 35184372088831) ?_; refine pu_ HT_ 45 55 (bs_ 48 70368744177663) ?_; refine pu_ HT_ 46 56 (bs_ 48 140737488355327) ?_; refine pu_ HT_ 47 57 (bs_ 48 281474976710655) ?_
            refine done_ (done_of HT_.out (by kernel_rfl)) ?_
            try go_wp2
            go_ret
            exact ⟨by first | rfl | (simp [errW_none, errW_some] <;> rfl) | (simp only [← d6]; first | rfl | (simp [errW_none, errW_some] <;> rfl)) | (simp [*, errW_none, errW_some] <;> rfl), hw_ HB⟩
           ·rw [if_neg h3] at H; have h6 : decide (((rd_T101 l0 (b5)).f1) ≤ ((rd_T101 l0 a1).f1)) = false := decide_eq_false h3; clear h3
            have H' := mk_ H
            clear H
            try go_wp2
            replace HB := dH_ HB
            have b6 : 0 ≤ (a1 : Int) := od_
            have b7 : a1 < (l0.length : Int) := od_
            obtain ⟨a2, c4, a3, a4⟩ := at_T101 d2.out a1 b6 b7
            have hw102_1 := a4
            have hw102_0 := a3
            cases c4
            replace a3 := (HB.out.cell (World.block_lt_of_cell? w _ a3)).trans a3
            replace a4 := (HB.out.cell (World.block_lt_of_cell? w _ a4)).trans a4
            replace b6 := eq_true b6; replace b7 := eq_true b7
            have b8 : 0 ≤ (a1 : Int) := od_
            have b9 : a1 < (l0.length : Int) := od_
            obtain ⟨c1, d3, a5, a6⟩ := at_T101 d2.out a1 b8 b9
            have hw104_1 := a6
            have hw104_0 := a5
            obtain rfl : a2 = c1 := (by injection d3)
            replace a5 := (HB.out.cell (World.block_lt_of_cell? w _ a5)).trans a5
            replace a6 := (HB.out.cell (World.block_lt_of_cell? w _ a6)).trans a6
            replace b8 := eq_true b8; replace b9 := eq_true b9
            have c6 : 0 ≤ ((b5) : Int) := od_
            have c9 : (b5) < (l0.length : Int) := od_
            obtain ⟨d4, g1, a7, a8⟩ := at_T101 d2.out (b5) c6 c9
            have hw106_1 := a8
            have hw106_0 := a7
            obtain rfl : a2 = d4 := (by injection g1)
            replace a7 := (HB.out.cell (World.block_lt_of_cell? w _ a7)).trans a7
            replace a8 := (HB.out.cell (World.block_lt_of_cell? w _ a8)).trans a8
            replace c6 := eq_true c6; replace c9 := eq_true c9
            have d0 : 0 ≤ (a1 : Int) := od_
            have d1 : a1 < (l0.length : Int) := od_
            obtain ⟨d5, g2, a9, b0⟩ := at_T101 d2.out a1 d0 d1
            have hw107_1 := b0
            have hw107_0 := a9
            obtain rfl : a2 = d5 := (by injection g2)
            replace a9 := (HB.out.cell (World.block_lt_of_cell? w _ a9)).trans a9
            replace b0 := (HB.out.cell (World.block_lt_of_cell? w _ b0)).trans b0
            replace d0 := eq_true d0; replace d1 := eq_true d1
            have d7 : 0 ≤ ((b5) : Int) := od_
            have d8 : (b5) < (l0.length : Int) := od_
            obtain ⟨g3, g8, b1, b2⟩ := at_T101 d2.out (b5) d7 d8
            have hw108_1 := b2
            have hw108_0 := b1
            obtain rfl : a2 = g3 := (by injection g8)
            replace b1 := (HB.out.cell (World.block_lt_of_cell? w _ b1)).trans b1
            replace b2 := (HB.out.cell (World.block_lt_of_cell? w _ b2)).trans b2
            replace d7 := eq_true d7; replace d8 := eq_true d8
            have d9 : 0 ≤ (a1 : Int) := od_
            have g0 : a1 < (l0.length : Int) := od_
            obtain ⟨g4, g9, b3, b4⟩ := at_T101 d2.out a1 d9 g0
            have hw109_1 := b4
            have hw109_0 := b3
            obtain rfl : a2 = g4 := (by injection g9)
            replace b3 := (HB.out.cell (World.block_lt_of_cell? w _ b3)).trans b3
            replace b4 := (HB.out.cell (World.block_lt_of_cell? w _ b4)).trans b4
            replace d9 := eq_true d9; replace g0 := eq_true g0
            refine start_ (n := 48) (S := fun w' => w'.cell? (a2.add ((a1).toNat * 2)) = some (.int .i64 ((rd_T101 l0 a1).f0)) ∧ w'.cell? ⟨(a2.add ((a1).toNat * 2)).block, (a2.add ((a1).toNat * 2)).off + 1, none⟩ = some (.int .i64 ((rd_T101 l0 a1).f1)) ∧ w'.cell? (a2.add ((a1).toNat * 2)) = some (.int .i64 ((rd_T101 l0 a1).f0)) ∧ w'.cell? ⟨(a2.add ((a1).toNat * 2)).block, (a2.add ((a1).toNat * 2)).off + 1, none⟩ = some (.int .i64 ((rd_T101 l0 a1).f1)) ∧ w'.cell? (a2.add (((b5)).toNat * 2)) = some (.int .i64 ((rd_T101 l0 (b5)).f0)) ∧ w'.cell? ⟨(a2.add (((b5)).toNat * 2)).block, (a2.add (((b5)).toNat * 2)).off + 1, none⟩ = some (.int .i64 ((rd_T101 l0 (b5)).f1)) ∧ w'.cell? (a2.add ((a1).toNat * 2)) = some (.int .i64 ((rd_T101 l0 a1).f0)) ∧ w'.cell? ⟨(a2.add ((a1).toNat * 2)).block, (a2.add ((a1).toNat * 2)).off + 1, none⟩ = some (.int .i64 ((rd_T101 l0 a1).f1)) ∧ w'.cell? (a2.add (((b5)).toNat * 2)) = some (.int .i64 ((rd_T101 l0 (b5)).f0)) ∧ w'.cell? ⟨(a2.add (((b5)).toNat * 2)).block, (a2.add (((b5)).toNat * 2)).off + 1, none⟩ = some (.int .i64 ((rd_T101 l0 (b5)).f1)) ∧ w'.cell? (a2.add ((a1).toNat * 2)) = some (.int .i64 ((rd_T101 l0 a1).f0)) ∧ w'.cell? ⟨(a2.add ((a1).toNat * 2)).block, (a2.add ((a1).toNat * 2)).off + 1, none⟩ = some (.int .i64 ((rd_T101 l0 a1).f1))) (ds := []) (bs_ 48 0) (by kernel_rfl) rfl (by kernel_rfl) ⟨((HB.out.cell (World.block_lt_of_cell? w _ hw102_0)).trans hw102_0), ((HB.out.cell (World.block_lt_of_cell? w _ hw102_1)).trans hw102_1), ((HB.out.cell (World.block_lt_of_cell? w _ hw104_0)).trans hw104_0), ((HB.out.cell (World.block_lt_of_cell? w _ hw104_1)).trans hw104_1), ((HB.out.cell (World.block_lt_of_cell? w _ hw106_0)).trans hw106_0), ((HB.out.cell (World.block_lt_of_cell? w _ hw106_1)).trans hw106_1), ((HB.out.cell (World.block_lt_of_cell? w _ hw107_0)).trans hw107_0), ((HB.out.cell (World.block_lt_of_cell? w _ hw107_1)).trans hw107_1), ((HB.out.cell (World.block_lt_of_cell? w _ hw108_0)).trans hw108_0), ((HB.out.cell (World.block_lt_of_cell? w _ hw108_1)).trans hw108_1), ((HB.out.cell (World.block_lt_of_cell? w _ hw109_0)).trans hw109_0), ((HB.out.cell (World.block_lt_of_cell? w _ hw109_1)).trans hw109_1)⟩ (fun hHeld => ?_); refine with_tabW spec_l6Curve.tab4 spec_l6Curve.bits4 (fun HT_ HW_ => ?_)
            generalize wr.drew = l3 at HB a3 a4 a5 a6 a7 a8 a9 b0 b1 b2 b3 b4 hHeld ⊢
            refine pu_ HT_ 0 10 (bs_ 48 1) ?_; refine pu_ HT_ 1 11 (bs_ 48 3) ?_; refine pu_ HT_ 2 12 (bs_ 48 7) ?_; refine pu_ HT_ 3 13 (bs_ 48 15) ?_; refine tk_ HT_ HW_ 4 14 (bs_ 48 31) hHeld ?_
            refine one_ (i := 5) (N := some 15) (bs_ 48 63) rfl rfl (one_of HT_.out (by kernel_rfl)) (by decide) (fun K hK => ?_)
            refine gs_ Try.func82 #[.int .i64 ((rd_T101 l0 a1).f0), .int .i64 1, .int .i64 1000000] ?_
            with_reducible refine (spec_l1In.calls ((rd_T101 l0 a1).f0) 1 1000000 true _ A4.out).mono ?_
            rintro e w' ⟨rfl, ⟨nd, rfl⟩⟩
            refine ⟨_, rfl, ?_⟩
            refine hK.out _ _ ⟨((HB.out.cell (World.block_lt_of_cell? w _ hw102_0)).trans hw102_0), ((HB.out.cell (World.block_lt_of_cell? w _ hw102_1)).trans hw102_1), ((HB.out.cell (World.block_lt_of_cell? w _ hw104_0)).trans hw104_0), ((HB.out.cell (World.block_lt_of_cell? w _ hw104_1)).trans hw104_1), ((HB.out.cell (World.block_lt_of_cell? w _ hw106_0)).trans hw106_0), ((HB.out.cell (World.block_lt_of_cell? w _ hw106_1)).trans hw106_1), ((HB.out.cell (World.block_lt_of_cell? w _ hw107_0)).trans hw107_0), ((HB.out.cell (World.block_lt_of_cell? w _ hw107_1)).trans hw107_1), ((HB.out.cell (World.block_lt_of_cell? w _ hw108_0)).trans hw108_0), ((HB.out.cell (World.block_lt_of_cell? w _ hw108_1)).trans hw108_1), ((HB.out.cell (World.block_lt_of_cell? w _ hw109_0)).trans hw109_0), ((HB.out.cell (World.block_lt_of_cell? w _ hw109_1)).trans hw109_1)⟩ (fun hHeld => ?_)
            clear hK K; refine nm_ 15 ?_; refine pu_ HT_ 6 16 (bs_ 48 127) ?_; refine pu_ HT_ 7 17 (bs_ 48 255) ?_; refine pu_ HT_ 8 18 (bs_ 48 511) ?_; refine pu_ HT_ 9 19 (bs_ 48 1023) ?_; refine pu_ HT_ 10 20 (bs_ 48 2047) ?_; refine pu_ HT_ 11 21 (bs_ 48 4095) ?_; refine tk_ HT_ HW_ 12 22 (bs_ 48 8191) hHeld ?_
            refine one_ (i := 13) (N := some 23) (bs_ 48 16383) rfl rfl (one_of HT_.out (by kernel_rfl)) (by decide) (fun K hK => ?_)
            refine gs_ Try.func82 #[.int .i64 ((rd_T101 l0 a1).f1), .int .i64 1, .int .i64 1000000] ?_
            with_reducible refine (spec_l1In.calls ((rd_T101 l0 a1).f1) 1 1000000 true _ A6.out).mono ?_
            rintro e w' ⟨rfl, ⟨nd, rfl⟩⟩
            refine ⟨_, rfl, ?_⟩
            refine hK.out _ _ ⟨((HB.out.cell (World.block_lt_of_cell? w _ hw102_0)).trans hw102_0), ((HB.out.cell (World.block_lt_of_cell? w _ hw102_1)).trans hw102_1), ((HB.out.cell (World.block_lt_of_cell? w _ hw104_0)).trans hw104_0), ((HB.out.cell (World.block_lt_of_cell? w _ hw104_1)).trans hw104_1), ((HB.out.cell (World.block_lt_of_cell? w _ hw106_0)).trans hw106_0), ((HB.out.cell (World.block_lt_of_cell? w _ hw106_1)).trans hw106_1), ((HB.out.cell (World.block_lt_of_cell? w _ hw107_0)).trans hw107_0), ((HB.out.cell (World.block_lt_of_cell? w _ hw107_1)).trans hw107_1), ((HB.out.cell (World.block_lt_of_cell? w _ hw108_0)).trans hw108_0), ((HB.out.cell (World.block_lt_of_cell? w _ hw108_1)).trans hw108_1), ((HB.out.cell (World.block_lt_of_cell? w _ hw109_0)).trans hw109_0), ((HB.out.cell (World.block_lt_of_cell? w _ hw109_1)).trans hw109_1)⟩ (fun hHeld => ?_)
            clear hK K; refine nm_ 23 ?_; refine pu_ HT_ 14 24 (bs_ 48 32767) ?_; refine pu_ HT_ 15 25 (bs_ 48 65535) ?_; refine pu_ HT_ 16 26 (bs_ 48 131071) ?_; refine pu_ HT_ 17 27 (bs_ 48 262143) ?_; refine pu_ HT_ 18 28 (bs_ 48 524287) ?_; refine pu_ HT_ 19 29 (bs_ 48 1048575) ?_; refine pu_ HT_ 20 30 (bs_ 48 2097151) ?_; refine pu_ HT_ 21 31 (bs_ 48 4194303) ?_; refine pu_ HT_ 22 32 (bs_ 48 8388607) ?_; refine pu_ HT_ 23 33 (bs_ 48 16777215) ?_; refine pu_ HT_ 24 34 (bs_ 48 33554431) ?_; refine pu_ HT_ 26 36 (bs_ 48 100663295) ?_; refine pu_ HT_ 27 37 (bs_ 48 234881023) ?_; refine pu_ HT_ 28 38 (bs_ 48 503316479) ?_; refine pu_ HT_ 29 39 (bs_ 48 1040187391) ?_; refine tk_ HT_ HW_ 25 35 (bs_ 48 1073741823) hHeld ?_; refine tk_ HT_ HW_ 30 40 (bs_ 48 2147483647) hHeld ?_; refine pu_ HT_ 31 41 (bs_ 48 4294967295) ?_; refine pu_ HT_ 32 42 (bs_ 48 8589934591) ?_; refine pu_ HT_ 33 43 (bs_ 48 17179869183) ?_; refine pu_ HT_ 34 44 (bs_ 48 34359738367) ?_; refine pu_ HT_ 35 45 (bs_ 48 68719476735) ?_; refine pu_ HT_ 36 46 (bs_ 48 137438953471) ?_; refine pu_ HT_ 37 47 (bs_ 48 274877906943) ?_; refine pu_ HT_ 39 49 (bs_ 48 824633720831) ?_; refine pu_ HT_ 40 50 (bs_ 48 1924145348607) ?_; refine pu_ HT_ 41 51 (bs_ 48 4123168604159) ?_; refine pu_ HT_ 42 52 (bs_ 48 8521215115263) ?_; refine tk_ HT_ HW_ 38 48 (bs_ 48 8796093022207) hHeld ?_; refine tk_ HT_ HW_ 43 53 (bs_ 48 17592186044415) hHeld ?_; refine pu_ HT_ 44 54 (bs_ 48 35184372088831) ?_; refine pu_ HT_ 45 55 (bs_ 48 70368744177663) ?_; refine pu_ HT_ 46 56 (bs_ 48 140737488355327) ?_; refine pu_ HT_ 47 57 (bs_ 48 281474976710655) ?_
            refine done_ (done_of HT_.out (by kernel_rfl)) ?_
            try go_wp2
            go_roundg k1
            case measure => have := h8.out; omega
            case rel => exact ⟨(wrap64 (a1 + 1)), rf_, H', ⟨by have := h8.out; omega⟩, ⟨hw_ HB⟩⟩
         ·rw [if_neg j0] at H
          exact absurd H (by simp)
        ·rw [if_neg h9] at H
         exact absurd H (by simp)
       ·rw [if_neg c8] at H; have j2 : decide (0 < a1) = false := decide_eq_false c8; clear c8
        have H' := mk_ H
        clear H
        try go_wp2
        replace HB := dH_ HB
        have b6 : 0 ≤ (a1 : Int) := od_
        have b7 : a1 < (l0.length : Int) := od_
        obtain ⟨a2, c4, a3, a4⟩ := at_T101 d2.out a1 b6 b7
        have hw102_1 := a4
        have hw102_0 := a3
        cases c4
        replace a3 := (HB.out.cell (World.block_lt_of_cell? w _ a3)).trans a3
        replace a4 := (HB.out.cell (World.block_lt_of_cell? w _ a4)).trans a4
        replace b6 := eq_true b6; replace b7 := eq_true b7
        have b8 : 0 ≤ (a1 : Int) := od_
        have b9 : a1 < (l0.length : Int) := od_
        obtain ⟨c1, d3, a5, a6⟩ := at_T101 d2.out a1 b8 b9
        have hw104_1 := a6
        have hw104_0 := a5
        obtain rfl : a2 = c1 := (by injection d3)
        replace a5 := (HB.out.cell (World.block_lt_of_cell? w _ a5)).trans a5
        replace a6 := (HB.out.cell (World.block_lt_of_cell? w _ a6)).trans a6
        replace b8 := eq_true b8; replace b9 := eq_true b9
        refine start_ (n := 48) (S := fun w' => w'.cell? (a2.add ((a1).toNat * 2)) = some (.int .i64 ((rd_T101 l0 a1).f0)) ∧ w'.cell? ⟨(a2.add ((a1).toNat * 2)).block, (a2.add ((a1).toNat * 2)).off + 1, none⟩ = some (.int .i64 ((rd_T101 l0 a1).f1)) ∧ w'.cell? (a2.add ((a1).toNat * 2)) = some (.int .i64 ((rd_T101 l0 a1).f0)) ∧ w'.cell? ⟨(a2.add ((a1).toNat * 2)).block, (a2.add ((a1).toNat * 2)).off + 1, none⟩ = some (.int .i64 ((rd_T101 l0 a1).f1))) (ds := []) (bs_ 48 0) (by kernel_rfl) rfl (by kernel_rfl) ⟨((HB.out.cell (World.block_lt_of_cell? w _ hw102_0)).trans hw102_0), ((HB.out.cell (World.block_lt_of_cell? w _ hw102_1)).trans hw102_1), ((HB.out.cell (World.block_lt_of_cell? w _ hw104_0)).trans hw104_0), ((HB.out.cell (World.block_lt_of_cell? w _ hw104_1)).trans hw104_1)⟩ (fun hHeld => ?_); refine with_tabW spec_l6Curve.tab4 spec_l6Curve.bits4 (fun HT_ HW_ => ?_)
        generalize wr.drew = l4 at HB a3 a4 a5 a6 hHeld ⊢
        refine pu_ HT_ 0 10 (bs_ 48 1) ?_; refine pu_ HT_ 1 11 (bs_ 48 3) ?_; refine pu_ HT_ 2 12 (bs_ 48 7) ?_; refine pu_ HT_ 3 13 (bs_ 48 15) ?_; refine tk_ HT_ HW_ 4 14 (bs_ 48 31) hHeld ?_
        refine one_ (i := 5) (N := some 15) (bs_ 48 63) rfl rfl (one_of HT_.out (by kernel_rfl)) (by decide) (fun K hK => ?_)
        refine gs_ Try.func82 #[.int .i64 ((rd_T101 l0 a1).f0), .int .i64 1, .int .i64 1000000] ?_
        with_reducible refine (spec_l1In.calls ((rd_T101 l0 a1).f0) 1 1000000 true _ A4.out).mono ?_
        rintro e w' ⟨rfl, ⟨nd, rfl⟩⟩
        refine ⟨_, rfl, ?_⟩
        refine hK.out _ _ ⟨((HB.out.cell (World.block_lt_of_cell? w _ hw102_0)).trans hw102_0), ((HB.out.cell (World.block_lt_of_cell? w _ hw102_1)).trans hw102_1), ((HB.out.cell (World.block_lt_of_cell? w _ hw104_0)).trans hw104_0), ((HB.out.cell (World.block_lt_of_cell? w _ hw104_1)).trans hw104_1)⟩ (fun hHeld => ?_)
        clear hK K; refine nm_ 15 ?_; refine pu_ HT_ 6 16 (bs_ 48 127) ?_; refine pu_ HT_ 7 17 (bs_ 48 255) ?_; refine pu_ HT_ 8 18 (bs_ 48 511) ?_; refine pu_ HT_ 9 19 (bs_ 48 1023) ?_; refine pu_ HT_ 10 20 (bs_ 48 2047) ?_; refine pu_ HT_ 11 21 (bs_ 48 4095) ?_; refine tk_ HT_ HW_ 12 22 (bs_ 48 8191) hHeld ?_
        refine one_ (i := 13) (N := some 23) (bs_ 48 16383) rfl rfl (one_of HT_.out (by kernel_rfl)) (by decide) (fun K hK => ?_)
        refine gs_ Try.func82 #[.int .i64 ((rd_T101 l0 a1).f1), .int .i64 1, .int .i64 1000000] ?_
        with_reducible refine (spec_l1In.calls ((rd_T101 l0 a1).f1) 1 1000000 true _ A6.out).mono ?_
        rintro e w' ⟨rfl, ⟨nd, rfl⟩⟩
        refine ⟨_, rfl, ?_⟩
        refine hK.out _ _ ⟨((HB.out.cell (World.block_lt_of_cell? w _ hw102_0)).trans hw102_0), ((HB.out.cell (World.block_lt_of_cell? w _ hw102_1)).trans hw102_1), ((HB.out.cell (World.block_lt_of_cell? w _ hw104_0)).trans hw104_0), ((HB.out.cell (World.block_lt_of_cell? w _ hw104_1)).trans hw104_1)⟩ (fun hHeld => ?_)
        clear hK K; refine nm_ 23 ?_; refine pu_ HT_ 14 24 (bs_ 48 32767) ?_; refine pu_ HT_ 15 25 (bs_ 48 65535) ?_; refine pu_ HT_ 16 26 (bs_ 48 131071) ?_; refine pu_ HT_ 17 27 (bs_ 48 262143) ?_; refine pu_ HT_ 18 28 (bs_ 48 524287) ?_; refine pu_ HT_ 19 29 (bs_ 48 1048575) ?_; refine pn_ HT_ 20 30 (bs_ 48 2097151) ?_; refine pn_ HT_ 21 31 (bs_ 48 4194303) ?_; refine pn_ HT_ 22 32 (bs_ 48 8388607) ?_; refine pn_ HT_ 23 33 (bs_ 48 16777215) ?_; refine pn_ HT_ 24 34 (bs_ 48 33554431) ?_; refine pn_ HT_ 25 35 (bs_ 48 67108863) ?_; refine pn_ HT_ 26 36 (bs_ 48 134217727) ?_; refine pn_ HT_ 27 37 (bs_ 48 268435455) ?_; refine pn_ HT_ 28 38 (bs_ 48 536870911) ?_; refine pn_ HT_ 29 39 (bs_ 48 1073741823) ?_; refine pn_ HT_ 30 40 (bs_ 48 2147483647) ?_; refine pn_ HT_ 31 41 (bs_ 48 4294967295) ?_; refine pn_ HT_ 32 42 (bs_ 48 8589934591) ?_; refine pn_ HT_ 33 43 (bs_ 48 17179869183) ?_; refine pn_ HT_ 34 44 (bs_ 48 34359738367) ?_; refine pn_ HT_ 35 45 (bs_ 48 68719476735) ?_; refine pn_ HT_ 36 46 (bs_ 48 137438953471) ?_; refine pn_ HT_ 37 47 (bs_ 48 274877906943) ?_; refine pn_ HT_ 38 48 (bs_ 48 549755813887) ?_; refine pn_ HT_ 39 49 (bs_ 48 1099511627775) ?_; refine pn_ HT_ 40 50 (bs_ 48 2199023255551) ?_; refine pn_ HT_ 41 51 (bs_ 48 4398046511103) ?_; refine pn_ HT_ 42 52 (bs_ 48 8796093022207) ?_; refine pn_ HT_ 43 53 (bs_ 48 17592186044415) ?_; refine pn_ HT_ 44 54 (bs_ 48 35184372088831) ?_; refine pn_ HT_ 45 55 (bs_ 48 70368744177663) ?_; refine pu_ HT_ 46 56 (bs_ 48 140737488355327) ?_; refine pu_ HT_ 47 57 (bs_ 48 281474976710655) ?_
        refine done_ (done_of HT_.out (by kernel_rfl)) ?_
        try go_wp2
        go_roundg k1
        case measure => have := h8.out; omega
        case rel => exact ⟨(wrap64 (a1 + 1)), rf_, H', ⟨by have := h8.out; omega⟩, ⟨hw_ HB⟩⟩
      ·replace c7 := Bool.eq_false_iff.mpr c7; subst c7; rw [if_neg (show ¬ (false = true) by decide)] at H; obtain rfl := Option.some.inj H
       try go_wp2
       replace HB := dH_ HB
       have b6 : 0 ≤ (a1 : Int) := od_
       have b7 : a1 < (l0.length : Int) := od_
       obtain ⟨a2, c4, a3, a4⟩ := at_T101 d2.out a1 b6 b7
       have hw102_1 := a4
       have hw102_0 := a3
       cases c4
       replace a3 := (HB.out.cell (World.block_lt_of_cell? w _ a3)).trans a3
       replace a4 := (HB.out.cell (World.block_lt_of_cell? w _ a4)).trans a4
       replace b6 := eq_true b6; replace b7 := eq_true b7
       have b8 : 0 ≤ (a1 : Int) := od_
       have b9 : a1 < (l0.length : Int) := od_
       obtain ⟨c1, d3, a5, a6⟩ := at_T101 d2.out a1 b8 b9
       have hw104_1 := a6
       have hw104_0 := a5
       obtain rfl : a2 = c1 := (by injection d3)
       replace a5 := (HB.out.cell (World.block_lt_of_cell? w _ a5)).trans a5
       replace a6 := (HB.out.cell (World.block_lt_of_cell? w _ a6)).trans a6
       replace b8 := eq_true b8; replace b9 := eq_true b9
       refine start_ (n := 48) (S := fun w' => w'.cell? (a2.add ((a1).toNat * 2)) = some (.int .i64 ((rd_T101 l0 a1).f0)) ∧ w'.cell? ⟨(a2.add ((a1).toNat * 2)).block, (a2.add ((a1).toNat * 2)).off + 1, none⟩ = some (.int .i64 ((rd_T101 l0 a1).f1)) ∧ w'.cell? (a2.add ((a1).toNat * 2)) = some (.int .i64 ((rd_T101 l0 a1).f0)) ∧ w'.cell? ⟨(a2.add ((a1).toNat * 2)).block, (a2.add ((a1).toNat * 2)).off + 1, none⟩ = some (.int .i64 ((rd_T101 l0 a1).f1))) (ds := []) (bs_ 48 0) (by kernel_rfl) rfl (by kernel_rfl) ⟨((HB.out.cell (World.block_lt_of_cell? w _ hw102_0)).trans hw102_0), ((HB.out.cell (World.block_lt_of_cell? w _ hw102_1)).trans hw102_1), ((HB.out.cell (World.block_lt_of_cell? w _ hw104_0)).trans hw104_0), ((HB.out.cell (World.block_lt_of_cell? w _ hw104_1)).trans hw104_1)⟩ (fun hHeld => ?_); refine with_tabW spec_l6Curve.tab4 spec_l6Curve.bits4 (fun HT_ HW_ => ?_)
       generalize wr.drew = l5 at HB a3 a4 a5 a6 hHeld ⊢
       refine pu_ HT_ 0 10 (bs_ 48 1) ?_; refine pu_ HT_ 1 11 (bs_ 48 3) ?_; refine pu_ HT_ 2 12 (bs_ 48 7) ?_; refine pu_ HT_ 3 13 (bs_ 48 15) ?_; refine tk_ HT_ HW_ 4 14 (bs_ 48 31) hHeld ?_
       refine one_ (i := 5) (N := some 15) (bs_ 48 63) rfl rfl (one_of HT_.out (by kernel_rfl)) (by decide) (fun K hK => ?_)
       refine gs_ Try.func82 #[.int .i64 ((rd_T101 l0 a1).f0), .int .i64 1, .int .i64 1000000] ?_
       with_reducible refine (spec_l1In.calls ((rd_T101 l0 a1).f0) 1 1000000 true _ A4.out).mono ?_
       rintro e w' ⟨rfl, ⟨nd, rfl⟩⟩
       refine ⟨_, rfl, ?_⟩
       refine hK.out _ _ ⟨((HB.out.cell (World.block_lt_of_cell? w _ hw102_0)).trans hw102_0), ((HB.out.cell (World.block_lt_of_cell? w _ hw102_1)).trans hw102_1), ((HB.out.cell (World.block_lt_of_cell? w _ hw104_0)).trans hw104_0), ((HB.out.cell (World.block_lt_of_cell? w _ hw104_1)).trans hw104_1)⟩ (fun hHeld => ?_)
       clear hK K; refine nm_ 15 ?_; refine pu_ HT_ 6 16 (bs_ 48 127) ?_; refine pu_ HT_ 7 17 (bs_ 48 255) ?_; refine pu_ HT_ 8 18 (bs_ 48 511) ?_; refine pu_ HT_ 9 19 (bs_ 48 1023) ?_; refine pu_ HT_ 10 20 (bs_ 48 2047) ?_; refine pu_ HT_ 11 21 (bs_ 48 4095) ?_; refine tk_ HT_ HW_ 12 22 (bs_ 48 8191) hHeld ?_
       refine one_ (i := 13) (N := some 23) (bs_ 48 16383) rfl rfl (one_of HT_.out (by kernel_rfl)) (by decide) (fun K hK => ?_)
       refine gs_ Try.func82 #[.int .i64 ((rd_T101 l0 a1).f1), .int .i64 1, .int .i64 1000000] ?_
       with_reducible refine (spec_l1In.calls ((rd_T101 l0 a1).f1) 1 1000000 false _ A6.out).mono ?_
       rintro e w' ⟨rfl, ⟨nd, rfl⟩⟩
       refine ⟨_, rfl, ?_⟩
       refine hK.out _ _ ⟨((HB.out.cell (World.block_lt_of_cell? w _ hw102_0)).trans hw102_0), ((HB.out.cell (World.block_lt_of_cell? w _ hw102_1)).trans hw102_1), ((HB.out.cell (World.block_lt_of_cell? w _ hw104_0)).trans hw104_0), ((HB.out.cell (World.block_lt_of_cell? w _ hw104_1)).trans hw104_1)⟩ (fun hHeld => ?_)
       clear hK K; refine nm_ 23 ?_; refine pu_ HT_ 14 24 (bs_ 48 32767) ?_; refine pu_ HT_ 15 25 (bs_ 48 65535) ?_; refine pu_ HT_ 16 26 (bs_ 48 131071) ?_; refine pn_ HT_ 17 27 (bs_ 48 262143) ?_; refine pn_ HT_ 18 28 (bs_ 48 524287) ?_; refine pn_ HT_ 19 29 (bs_ 48 1048575) ?_; refine pn_ HT_ 20 30 (bs_ 48 2097151) ?_; refine pn_ HT_ 21 31 (bs_ 48 4194303) ?_; refine pn_ HT_ 22 32 (bs_ 48 8388607) ?_; refine pn_ HT_ 23 33 (bs_ 48 16777215) ?_; refine pn_ HT_ 24 34 (bs_ 48 33554431) ?_; refine pn_ HT_ 25 35 (bs_ 48 67108863) ?_; refine pn_ HT_ 26 36 (bs_ 48 134217727) ?_; refine pn_ HT_ 27 37 (bs_ 48 268435455) ?_; refine pn_ HT_ 28 38 (bs_ 48 536870911) ?_; refine pn_ HT_ 29 39 (bs_ 48 1073741823) ?_; refine pn_ HT_ 30 40 (bs_ 48 2147483647) ?_; refine pn_ HT_ 31 41 (bs_ 48 4294967295) ?_; refine pn_ HT_ 32 42 (bs_ 48 8589934591) ?_; refine pn_ HT_ 33 43 (bs_ 48 17179869183) ?_; refine pn_ HT_ 34 44 (bs_ 48 34359738367) ?_; refine pn_ HT_ 35 45 (bs_ 48 68719476735) ?_; refine pn_ HT_ 36 46 (bs_ 48 137438953471) ?_; refine pn_ HT_ 37 47 (bs_ 48 274877906943) ?_; refine pn_ HT_ 38 48 (bs_ 48 549755813887) ?_; refine pn_ HT_ 39 49 (bs_ 48 1099511627775) ?_; refine pn_ HT_ 40 50 (bs_ 48 2199023255551) ?_; refine pn_ HT_ 41 51 (bs_ 48 4398046511103) ?_; refine pn_ HT_ 42 52 (bs_ 48 8796093022207) ?_; refine pn_ HT_ 43 53 (bs_ 48 17592186044415) ?_; refine pn_ HT_ 44 54 (bs_ 48 35184372088831) ?_; refine pn_ HT_ 45 55 (bs_ 48 70368744177663) ?_; refine pn_ HT_ 46 56 (bs_ 48 140737488355327) ?_; refine pu_ HT_ 47 57 (bs_ 48 281474976710655) ?_
       refine done_ (done_of HT_.out (by kernel_rfl)) ?_
       try go_wp2
       go_ret
       exact ⟨re_, hw_ HB⟩
     ·replace c5 := Bool.eq_false_iff.mpr c5; subst c5; rw [if_neg (show ¬ (false = true) by decide)] at H; obtain rfl := Option.some.inj H
      try go_wp2
      replace HB := dH_ HB
      have b6 : 0 ≤ (a1 : Int) := od_
      have b7 : a1 < (l0.length : Int) := od_
      obtain ⟨a2, c4, a3, a4⟩ := at_T101 d2.out a1 b6 b7
      have hw102_1 := a4
      have hw102_0 := a3
      cases c4
      replace a3 := (HB.out.cell (World.block_lt_of_cell? w _ a3)).trans a3
      replace a4 := (HB.out.cell (World.block_lt_of_cell? w _ a4)).trans a4
      replace b6 := eq_true b6; replace b7 := eq_true b7
      refine start_ (n := 48) (S := fun w' => w'.cell? (a2.add ((a1).toNat * 2)) = some (.int .i64 ((rd_T101 l0 a1).f0)) ∧ w'.cell? ⟨(a2.add ((a1).toNat * 2)).block, (a2.add ((a1).toNat * 2)).off + 1, none⟩ = some (.int .i64 ((rd_T101 l0 a1).f1))) (ds := []) (bs_ 48 0) (by kernel_rfl) rfl (by kernel_rfl) ⟨((HB.out.cell (World.block_lt_of_cell? w _ hw102_0)).trans hw102_0), ((HB.out.cell (World.block_lt_of_cell? w _ hw102_1)).trans hw102_1)⟩ (fun hHeld => ?_); refine with_tabW spec_l6Curve.tab4 spec_l6Curve.bits4 (fun HT_ HW_ => ?_)
      generalize wr.drew = l6 at HB a3 a4 hHeld ⊢
      refine pu_ HT_ 0 10 (bs_ 48 1) ?_; refine pu_ HT_ 1 11 (bs_ 48 3) ?_; refine pu_ HT_ 2 12 (bs_ 48 7) ?_; refine pu_ HT_ 3 13 (bs_ 48 15) ?_; refine tk_ HT_ HW_ 4 14 (bs_ 48 31) hHeld ?_
      refine one_ (i := 5) (N := some 15) (bs_ 48 63) rfl rfl (one_of HT_.out (by kernel_rfl)) (by decide) (fun K hK => ?_)
      refine gs_ Try.func82 #[.int .i64 ((rd_T101 l0 a1).f0), .int .i64 1, .int .i64 1000000] ?_
      with_reducible refine (spec_l1In.calls ((rd_T101 l0 a1).f0) 1 1000000 false _ A4.out).mono ?_
      rintro e w' ⟨rfl, ⟨nd, rfl⟩⟩
      refine ⟨_, rfl, ?_⟩
      refine hK.out _ _ ⟨((HB.out.cell (World.block_lt_of_cell? w _ hw102_0)).trans hw102_0), ((HB.out.cell (World.block_lt_of_cell? w _ hw102_1)).trans hw102_1)⟩ (fun hHeld => ?_)
      clear hK K; refine nm_ 15 ?_; refine pu_ HT_ 6 16 (bs_ 48 127) ?_; refine pu_ HT_ 7 17 (bs_ 48 255) ?_; refine pn_ HT_ 8 18 (bs_ 48 511) ?_; refine pn_ HT_ 9 19 (bs_ 48 1023) ?_; refine pn_ HT_ 10 20 (bs_ 48 2047) ?_; refine pn_ HT_ 11 21 (bs_ 48 4095) ?_; refine pn_ HT_ 12 22 (bs_ 48 8191) ?_; refine pn_ HT_ 13 23 (bs_ 48 16383) ?_; refine pn_ HT_ 14 24 (bs_ 48 32767) ?_; refine pu_ HT_ 15 25 (bs_ 48 65535) ?_; refine pu_ HT_ 16 26 (bs_ 48 131071) ?_; refine pn_ HT_ 17 27 (bs_ 48 262143) ?_; refine pn_ HT_ 18 28 (bs_ 48 524287) ?_; refine pn_ HT_ 19 29 (bs_ 48 1048575) ?_; refine pn_ HT_ 20 30 (bs_ 48 2097151) ?_; refine pn_ HT_ 21 31 (bs_ 48 4194303) ?_; refine pn_ HT_ 22 32 (bs_ 48 8388607) ?_; refine pn_ HT_ 23 33 (bs_ 48 16777215) ?_; refine pn_ HT_ 24 34 (bs_ 48 33554431) ?_; refine pn_ HT_ 25 35 (bs_ 48 67108863) ?_; refine pn_ HT_ 26 36 (bs_ 48 134217727) ?_; refine pn_ HT_ 27 37 (bs_ 48 268435455) ?_; refine pn_ HT_ 28 38 (bs_ 48 536870911) ?_; refine pn_ HT_ 29 39 (bs_ 48 1073741823) ?_; refine pn_ HT_ 30 40 (bs_ 48 2147483647) ?_; refine pn_ HT_ 31 41 (bs_ 48 4294967295) ?_; refine pn_ HT_ 32 42 (bs_ 48 8589934591) ?_; refine pn_ HT_ 33 43 (bs_ 48 17179869183) ?_; refine pn_ HT_ 34 44 (bs_ 48 34359738367) ?_; refine pn_ HT_ 35 45 (bs_ 48 68719476735) ?_; refine pn_ HT_ 36 46 (bs_ 48 137438953471) ?_; refine pn_ HT_ 37 47 (bs_ 48 274877906943) ?_; refine pn_ HT_ 38 48 (bs_ 48 549755813887) ?_; refine pn_ HT_ 39 49 (bs_ 48 1099511627775) ?_; refine pn_ HT_ 40 50 (bs_ 48 2199023255551) ?_; refine pn_ HT_ 41 51 (bs_ 48 4398046511103) ?_; refine pn_ HT_ 42 52 (bs_ 48 8796093022207) ?_; refine pn_ HT_ 43 53 (bs_ 48 17592186044415) ?_; refine pn_ HT_ 44 54 (bs_ 48 35184372088831) ?_; refine pn_ HT_ 45 55 (bs_ 48 70368744177663) ?_; refine pn_ HT_ 46 56 (bs_ 48 140737488355327) ?_; refine pu_ HT_ 47 57 (bs_ 48 281474976710655) ?_
      refine done_ (done_of HT_.out (by kernel_rfl)) ?_
      try go_wp2
      go_ret
      exact ⟨re_, hw_ HB⟩
    ·rw [if_neg c3] at H
     exact absurd H (by simp)
   ·rw [if_neg c2] at H; have j1 : decide (a1 < (l0.length : Int)) = false := decide_eq_false c2; clear c2; replace H := Option.bind_eq_some_iff.mp H; obtain ⟨g7, h7, H⟩ := H; (try dsimp only at H); have j8 := mk_ h7; clear h7; obtain rfl := Option.some.inj H
    go_wp2_with (first | ((with_reducible refine gc_ 82 rfl ?_); refine gl_ (some 60) rfl Try.func82 #[.int .i64 (l0.length : Int), .int .i64 1, .int .i64 20] ?_; (with_reducible refine (spec_l1In.calls (l0.length : Int) 1 20 g7 _ j8.out).mono ?_); rintro e w' ⟨rfl, ⟨nd, rfl⟩⟩; refine ⟨_, rfl, ?_⟩))
    go_ret
    exact ⟨re_, hw_ HB⟩

end Go.Proofs.Ytkginilghcepbaa.QFnExactUsed
-- squeezed
