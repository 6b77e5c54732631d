/- Lean functions that tell what the Go functions used by one law answer, and for each a proof that the Go code comes to just these answers; no condition. Printed by this session's own program over the kit's printer. -/
import Derived.Test.YtnphbpkpjinddaaWSq
import Derived.Test.YtnphbpkpjinddaaQFnCyclesx0
import Derived.Test.YtnphbpkpjinddaaQFnCyclesx1
namespace Go.Proofs.Ytnphbpkpjinddaa.QFnCycles
open Go.RowKit Go.Proofs.YtnphbpkpjinddaaW.PrintWords Go.Proofs.YtnphbpkpjinddaaW.PrintLast Go.Proofs.YtnphbpkpjinddaaW.PrintMore
attribute [local go_sem] max2_int min2_int max_two min_two max_three min_three max_four min_four   -- for this text's walks alone
attribute [local go_sem high] go_eql go_neq go_lss go_leq go_gtr go_geq go_store   -- for this text's walks alone
set_option linter.unusedVariables false
set_option linter.unusedSimpArgs false

/-! ### impl_fatigueOk: function 104 -/
def impl_fatigueOk.l0 : Nat → List (S83) → List (S83) → Int → Int → Option (Bool)
 | 0, _, _, _, _ => none
 | k + 1, x0, x5, x6, x7 => if x7 < x6 then (if 0 ≤ x7 then (if x7 < (x5.length : Int) then ((impl_in.f ((rd_T83 x5 x7).f0) 1 1000000).bind fun d5 => (if d5 = true then ((impl_in.f ((rd_T83 x5 x7).f1) 1 1000000).bind fun d6 => (if d6 = true then (if x7 > 0 then (if 0 ≤ (wrap64 (x7 - 1)) then (if (wrap64 (x7 - 1)) < (x0.length : Int) then (if ((rd_T83 x0 (wrap64 (x7 - 1))).f0) ≥ ((rd_T83 x5 x7).f0) then (some false) else (if ((rd_T83 x0 (wrap64 (x7 - 1))).f1) ≤ ((rd_T83 x5 x7).f1) then (some false) else (impl_fatigueOk.l0 k x0 x5 x6 (wrap64 (x7 + 1))))) else (none)) else (none)) else (impl_fatigueOk.l0 k x0 x5 x6 (wrap64 (x7 + 1)))) else (some false))) else (some false))) else (none)) else (none)) else ((impl_in.f (x0.length : Int) 1 20).bind fun d7 => (some d7))
def impl_fatigueOk.f (k : Nat) (l0 : List (S83)) : Option (Bool) := impl_fatigueOk.l0 k l0 l0 (l0.length : Int) 0
theorem impl_fatigueOk.mono_l : ∀ k, (∀ y0 y1 y2 y3, LeO (impl_fatigueOk.l0 k y0 y1 y2 y3) (impl_fatigueOk.l0 (k + 1) y0 y1 y2 y3))
 | 0 => fun _ _ _ _ r h => by simp [impl_fatigueOk.l0] at h
 | k + 1 => by
  have g1 := impl_fatigueOk.mono_l k
  ·intro y0 y1 y2 y3
   unfold impl_fatigueOk.l0
   repeat' first
   | (with_reducible exact g1 _ _ _ _)
   | (with_reducible exact LeO.refl _)
   | (with_reducible exact LeO.none _)
   | (with_reducible refine LeO.ite ?_ ?_)
   | (with_reducible refine LeO.bind ?_ (fun _ => ?_))
   | exact g1 _ _ _ _
   | exact LeO.none _
   | refine LeO.ite ?_ ?_
   | refine LeO.bind ?_ (fun _ => ?_)
theorem impl_fatigueOk.mono : ∀ a0 k, LeO (impl_fatigueOk.f k a0) (impl_fatigueOk.f (k + 1) a0) := by
 intro a0 k
 have g1 := impl_fatigueOk.mono_l k
 unfold impl_fatigueOk.f
 repeat' first
   | (with_reducible exact g1 _ _ _ _)
   | (with_reducible exact LeO.refl _)
   | (with_reducible exact LeO.none _)
   | (with_reducible refine LeO.ite ?_ ?_)
   | (with_reducible refine LeO.bind ?_ (fun _ => ?_))
   | exact g1 _ _ _ _
   | exact LeO.none _
   | refine LeO.ite ?_ ?_
   | refine LeO.bind ?_ (fun _ => ?_)
def impl_fatigueOk.T4 : Bool × List (List Nat × List Nat) := (true, [([], []), ([0], [0]), ([1], [1]), ([2], [2]), ([3, 2], [3]), ([4], [4]), ([5, 4], [4, 5]), ([6, 4, 4], [4, 6]), ([7, 4], [4, 7]), ([4, 8], [4, 8]), ([9, 7], [9]), ([10], [10]), ([11, 10], [10, 11]), ([12, 10, 10], [10, 12]), ([13], [13]), ([13], [13]), ([15, 13], [13, 15]), ([14, 16, 13], [13, 14, 16]), ([17, 13], [13, 17]), ([18, 13], [13, 18]), ([13], [13]), ([20, 13], [13, 20]), ([19, 21, 13], [13, 19, 21]), ([22, 13, 13], [13, 22]), ([23], [23]), ([23], [23]), ([25, 23], [23, 25]), ([24, 26, 23], [23, 24, 26]), ([27, 23], [23, 27]), ([28, 23], [23, 28]), ([23], [23]), ([30, 23], [23, 30]), ([29, 31, 23], [23, 29, 31]), ([23, 32, 13], [13, 23, 32]), ([13, 33, 10], [10, 13, 33]), ([10, 34], [10, 34])])
def impl_fatigueOk.B4 : List Nat := [0, 1, 3, 7, 15, 31, 63, 127, 255, 511, 1023, 2047, 4095, 8191, 16383, 16383, 49151, 131071, 262143, 524287, 16383, 1064959, 4194303, 8388607, 16777215, 16777215, 50331647, 134217727, 268435455, 536870911, 16777215, 1090519039, 4294967295, 8589934591, 17179869183, 34359738367]
theorem impl_fatigueOk.tab4 : rtab .any (opsOf Try.f104 4) = impl_fatigueOk.T4 := by kernel_rfl
theorem impl_fatigueOk.bits4 : waitsOk impl_fatigueOk.T4.2 impl_fatigueOk.B4 = true := by kernel_rfl
set_option maxHeartbeats 8000000 in
set_option maxRecDepth 100000 in
theorem impl_fatigueOk.calls (k : Nat) (A0 : Option Addr) (c0 : Nat) (l0 : List (S83)) (r : Bool) (w : World) (hr0 : Kd.C k83 w A0 l0.length l0) (hc0 : l0.length ≤ c0) (h : impl_fatigueOk.f k l0 = some r) :
  Calls Try.prog 104 #[.slice A0 l0.length c0] w fun e w' => e = .returned (.bool r) ∧ Below w.heap.size w w' := by
 have m7 := Try.underlying83
 have d2 := mk_ hr0; have n7 := mk_ hc0; clear hr0 hc0; have HB := mk_ (Below.refl w.heap.size w)
 have H : (impl_fatigueOk.l0 k l0 l0 (l0.length : Int) 0) = some r := h
 clear h
 have H' := mk_ H
 clear H
 go_enter Try.func104, Try.ntmps104
 go_wp2
 go_loopg [7] k (fun kq v7 w' => ∃ (a2 : Int), v7 = .int .i64 a2 ∧ Aside0 (impl_fatigueOk.l0 kq l0 l0 (l0.length : Int) a2 = some r) ∧ Aside0 (kq ≤ k) ∧ Aside0 (Below w.heap.size w w'))
 case atStart => exact ⟨(0), rf_, H', ⟨Nat.le_refl _⟩, ⟨hw_ HB⟩⟩
 case round =>
  clear H'
  obtain ⟨a2, rfl, HA, g5, HB⟩ := hrel
  cases gk with
  | zero => exact absurd HA.out (by simp [impl_fatigueOk.l0])
  | succ k1 =>
   have H := HA.out; clear HA
   simp only [impl_fatigueOk.l0] at H
   by_cases c2 : a2 < (l0.length : Int)
   ·rw [if_pos c2] at H; have l5 : decide (a2 < (l0.length : Int)) = true := decide_eq_true c2; clear c2; by_cases c3 : 0 ≤ a2
    ·rw [if_pos c3] at H; have m8 : decide (0 ≤ a2) = true := decide_eq_true c3; clear c3; by_cases c4 : a2 < (l0.length : Int)
     ·rw [if_pos c4] at H; have m9 : decide (a2 < (l0.length : Int)) = true := decide_eq_true c4; clear c4; replace H := Option.bind_eq_some_iff.mp H; obtain ⟨d5, m3, H⟩ := H; (try dsimp only at H); have A5 := mk_ m3; clear m3; by_cases c6 : d5 = true
      ·subst c6; rw [if_pos rfl] at H
       replace H := Option.bind_eq_some_iff.mp H; obtain ⟨d6, m4, H⟩ := H
       (try dsimp only at H); have A7 := mk_ m4; clear m4
       by_cases c8 : d6 = true
       ·subst c8; rw [if_pos rfl] at H
        by_cases c9 : a2 > 0
        ·rw [if_pos c9] at H; have l6 : decide (0 < a2) = true := decide_eq_true c9; clear c9
         obtain ⟨a6, b6⟩ : ∃ j_ : Int, (wrap64 (a2 - 1)) = j_ := ⟨_, rfl⟩
         replace H : (if 0 ≤ (a6) then (if (a6) < (l0.length : Int) then (if ((rd_T83 l0 (a6)).f0) ≥ ((rd_T83 l0 a2).f0) then (some false) else (if ((rd_T83 l0 (a6)).f1) ≤ ((rd_T83 l0 a2).f1) then (some false) else (impl_fatigueOk.l0 k1 l0 l0 (l0.length : Int) (wrap64 (a2 + 1))))) else (none)) else (none)) = some r := by first | (rw [b6] at H; exact H) | (simp only [b6] at H ⊢; exact H)
         (try rw [b6] at A5)
         (try rw [b6] at A7)
         have hji10w : (IntKind.i64.wrap (a2 - 1)) = a6 := (i64_w _).trans b6
         by_cases g6 : 0 ≤ (a6)
         ·rw [if_pos g6] at H; have m5 : decide (0 ≤ (a6)) = true := decide_eq_true g6; clear g6; by_cases g7 : (a6) < (l0.length : Int)
          ·rw [if_pos g7] at H; have m6 : decide ((a6) < (l0.length : Int)) = true := decide_eq_true g7; clear g7; by_cases d9 : ((rd_T83 l0 (a6)).f0) ≥ ((rd_T83 l0 a2).f0)
           ·rw [if_pos d9] at H; have g2 : decide (((rd_T83 l0 a2).f0) ≤ ((rd_T83 l0 (a6)).f0)) = true := decide_eq_true d9; clear d9; obtain rfl := Option.some.inj H
            have b2 : 0 ≤ (a2 : Int) := od_
            have b3 : a2 < (l0.length : Int) := od_
            obtain ⟨a9, b7, a4, a5⟩ := at_T83 d2.out a2 b2 b3; cases b7
            replace a4 := (HB.out.cell (World.block_lt_of_cell? w _ a4)).trans a4
            replace a5 := (HB.out.cell (World.block_lt_of_cell? w _ a5)).trans a5
            replace b2 := eq_true b2; replace b3 := eq_true b3
            try go_wp2_with (first | ((with_reducible refine gd_ 4 rfl ?_); refine box_event ?hg (N := 4) ?hd (cs := #[.int .i64 0, .int .i64 0]) (t := 83) ?hr ?_; (case hd => rfl); (case hg => rfl); (case hr => exact hr_); intro a3 hg l7 hbox hb; have a1 := mk_ (hbox); have b4 := gb_ hg HB; replace HB := bp_ HB hb; have b5 := b4; clear hb hbox hg; have g8 := bc0_ a1; have g9 := bc1_ a1; have h2 := bf_ a1 0; have h3 := bf_ a1 1))
            have b8 : Aside0 (((l7.setCell ⟨a3, 0, none⟩ (.int .i64 ((rd_T83 l0 a2).f0))).setCell ⟨a3, 1, none⟩ (.int .i64 ((rd_T83 l0 a2).f1))).heap[a3]? = some (.cells #[.int .i64 ((rd_T83 l0 a2).f0), .int .i64 ((rd_T83 l0 a2).f1)] 83 (0, 0))) := ⟨by (with_reducible repeat (first | refine blk_drewN ?_ _ | refine blk_drew ?_ | refine blk_alloc ?_ _)); refine blk_put (cs := #[.int .i64 ((rd_T83 l0 a2).f0), .int .i64 0]) ?_ 1 _ rfl; (with_reducible repeat (first | refine blk_drewN ?_ _ | refine blk_drew ?_ | refine blk_alloc ?_ _)); refine blk_put (cs := #[.int .i64 0, .int .i64 0]) ?_ 0 _ rfl; (with_reducible repeat (first | refine blk_drewN ?_ _ | refine blk_drew ?_ | refine blk_alloc ?_ _)); exact a1.out⟩
            have b9 : Aside0 (Below w.heap.size w ((l7.setCell ⟨a3, 0, none⟩ (.int .i64 ((rd_T83 l0 a2).f0))).setCell ⟨a3, 1, none⟩ (.int .i64 ((rd_T83 l0 a2).f1)))) := ⟨by repeat (first | (with_reducible first | exact HB.out | apply below_alloc | apply pw_below_drewN | apply below_drew1 | refine below_set ?_ b5.out) | exact HB.out)⟩
            (try clear a1); (try clear HB)
            generalize ((l7.setCell ⟨a3, 0, none⟩ (.int .i64 ((rd_T83 l0 a2).f0))).setCell ⟨a3, 1, none⟩ (.int .i64 ((rd_T83 l0 a2).f1))) = n0 at b8 b9 ⊢
            have a1 := b8
            have HB := b9
            clear b8 b9
            replace a1 := dB_ a1; replace HB := dH_ HB
            have c1 : 0 ≤ ((a6) : Int) := od_
            have c5 : (a6) < (l0.length : Int) := od_
            obtain ⟨c7, d3, a7, a8⟩ := at_T83 d2.out (a6) c1 c5
            have hw190_1 := a8
            have hw190_0 := a7
            obtain rfl : a9 = c7 := (by injection d3)
            replace a7 := (HB.out.cell (World.block_lt_of_cell? w _ a7)).trans a7
            replace a8 := (HB.out.cell (World.block_lt_of_cell? w _ a8)).trans a8
            replace c1 := eq_true c1; replace c5 := eq_true c5
            refine start_ (n := 36) (S := fun w' => w'.cell? ⟨a3, 0, none⟩ = some (.int .i64 ((rd_T83 l0 a2).f0)) ∧ w'.cell? ⟨a3, 1, none⟩ = some (.int .i64 ((rd_T83 l0 a2).f1)) ∧ w'.cell? (a9.add (((a6)).toNat * 2)) = some (.int .i64 ((rd_T83 l0 (a6)).f0)) ∧ w'.cell? ⟨(a9.add (((a6)).toNat * 2)).block, (a9.add (((a6)).toNat * 2)).off + 1, none⟩ = some (.int .i64 ((rd_T83 l0 (a6)).f1))) (ds := []) (bs_ 36 0) (by kernel_rfl) rfl (by kernel_rfl) ⟨bc0_ a1, bc1_ a1, ((HB.out.cell (World.block_lt_of_cell? w _ hw190_0)).trans hw190_0), ((HB.out.cell (World.block_lt_of_cell? w _ hw190_1)).trans hw190_1)⟩ (fun hHeld => ?_); refine with_tabW impl_fatigueOk.tab4 impl_fatigueOk.bits4 (fun HT_ HW_ => ?_)
            generalize n0.drew = n8 at a1 HB a7 a8 hHeld ⊢
            refine pu_ HT_ 0 12 (bs_ 36 1) ?_; refine tk_ HT_ HW_ 1 13 (bs_ 36 3) hHeld ?_
            refine one_ (i := 2) (N := some 14) (bs_ 36 7) rfl rfl (one_of HT_.out (by kernel_rfl)) (by decide) (fun K hK => ?_)
            refine gs_ Try.func76 #[.int .i64 ((rd_T83 l0 a2).f0), .int .i64 1, .int .i64 1000000] ?_
            with_reducible refine (impl_in.calls ((rd_T83 l0 a2).f0) 1 1000000 true _ A5.out).mono ?_
            rintro e w' ⟨rfl, ⟨nd, rfl⟩⟩
            refine ⟨_, rfl, ?_⟩
            refine hK.out _ _ ⟨bc0_ a1, bc1_ a1, ((HB.out.cell (World.block_lt_of_cell? w _ hw190_0)).trans hw190_0), ((HB.out.cell (World.block_lt_of_cell? w _ hw190_1)).trans hw190_1)⟩ (fun hHeld => ?_)
            clear hK K; refine nm_ 14 ?_; refine pu_ HT_ 3 15 (bs_ 36 15) ?_; refine pu_ HT_ 4 16 (bs_ 36 31) ?_; refine pu_ HT_ 5 17 (bs_ 36 63) ?_; refine tk_ HT_ HW_ 6 18 (bs_ 36 127) hHeld ?_
            refine one_ (i := 7) (N := some 19) (bs_ 36 255) rfl rfl (one_of HT_.out (by kernel_rfl)) (by decide) (fun K hK => ?_)
            refine gs_ Try.func76 #[.int .i64 ((rd_T83 l0 a2).f1), .int .i64 1, .int .i64 1000000] ?_
            with_reducible refine (impl_in.calls ((rd_T83 l0 a2).f1) 1 1000000 true _ A7.out).mono ?_
            rintro e w' ⟨rfl, ⟨nd, rfl⟩⟩
            refine ⟨_, rfl, ?_⟩
            refine hK.out _ _ ⟨bc0_ a1, bc1_ a1, ((HB.out.cell (World.block_lt_of_cell? w _ hw190_0)).trans hw190_0), ((HB.out.cell (World.block_lt_of_cell? w _ hw190_1)).trans hw190_1)⟩ (fun hHeld => ?_)
            clear hK K; refine nm_ 19 ?_; refine pu_ HT_ 8 20 (bs_ 36 511) ?_; refine pu_ HT_ 9 21 (bs_ 36 1023) ?_; refine pu_ HT_ 10 22 (bs_ 36 2047) ?_; refine pu_ HT_ 11 23 (bs_ 36 4095) ?_; refine pu_ HT_ 12 24 (bs_ 36 8191) ?_; refine pu_ HT_ 13 25 (bs_ 36 16383) ?_; refine pu_ HT_ 14 26 (bs_ 36 32767) ?_; refine pu_ HT_ 15 27 (bs_ 36 65535) ?_; refine pu_ HT_ 16 28 (bs_ 36 131071) ?_; refine pu_ HT_ 17 29 (bs_ 36 262143) ?_; refine pu_ HT_ 18 30 (bs_ 36 524287) ?_; refine pu_ HT_ 20 32 (bs_ 36 1572863) ?_; refine tk_ HT_ HW_ 19 31 (bs_ 36 2097151) hHeld ?_; refine tk_ HT_ HW_ 21 33 (bs_ 36 4194303) hHeld ?_; refine pu_ HT_ 22 34 (bs_ 36 8388607) ?_; refine pu_ HT_ 23 35 (bs_ 36 16777215) ?_; refine pn_ HT_ 24 36 (bs_ 36 33554431) ?_; refine pn_ HT_ 25 37 (bs_ 36 67108863) ?_; refine pn_ HT_ 26 38 (bs_ 36 134217727) ?_; refine pn_ HT_ 27 39 (bs_ 36 268435455) ?_; refine pn_ HT_ 28 40 (bs_ 36 536870911) ?_; refine pn_ HT_ 29 41 (bs_ 36 1073741823) ?_; refine pn_ HT_ 30 42 (bs_ 36 2147483647) ?_; refine pn_ HT_ 31 43 (bs_ 36 4294967295) ?_; refine pn_ HT_ 32 44 (bs_ 36 8589934591) ?_; refine pu_ HT_ 33 45 (bs_ 36 17179869183) ?_; refine pu_ HT_ 34 46 (bs_ 36 34359738367) ?_; refine pu_ HT_ 35 47 (bs_ 36 68719476735) ?_
            refine done_ (done_of HT_.out (by kernel_rfl)) ?_
            try go_wp2
            go_ret
            exact ⟨by first | rfl | (simp [errW_none, errW_some] <;> rfl) | (simp only [← b6]; first | rfl | (simp [errW_none, errW_some] <;> rfl)) | (simp [*, errW_none, errW_some] <;> rfl), hw_ HB⟩
           ·rw [if_neg d9] at H; have g2 : decide (((rd_T83 l0 a2).f0) ≤ ((rd_T83 l0 (a6)).f0)) = false := decide_eq_false d9; clear d9; by_cases g0 : ((rd_T83 l0 (a6)).f1) ≤ ((rd_T83 l0 a2).f1)
            ·rw [if_pos g0] at H; have g3 : decide (((rd_T83 l0 (a6)).f1) ≤ ((rd_T83 l0 a2).f1)) = true := decide_eq_true g0; clear g0; obtain rfl := Option.some.inj H
             have b2 : 0 ≤ (a2 : Int) := od_
             have b3 : a2 < (l0.length : Int) := od_
             obtain ⟨a9, b7, a4, a5⟩ := at_T83 d2.out a2 b2 b3; cases b7
             replace a4 := (HB.out.cell (World.block_lt_of_cell? w _ a4)).trans a4
             replace a5 := (HB.out.cell (World.block_lt_of_cell? w _ a5)).trans a5
             replace b2 := eq_true b2; replace b3 := eq_true b3
             try go_wp2_with (first | ((with_reducible refine gd_ 4 rfl ?_); refine box_event ?hg (N := 4) ?hd (cs := #[.int .i64 0, .int .i64 0]) (t := 83) ?hr ?_; (case hd => rfl); (case hg => rfl); (case hr => exact hr_); intro a3 hg l8 hbox hb; have a1 := mk_ (hbox); have b4 := gb_ hg HB; replace HB := bp_ HB hb; have b5 := b4; clear hb hbox hg; have h4 := bc0_ a1; have h5 := bc1_ a1; have h6 := bf_ a1 0; have h7 := bf_ a1 1))
             have b8 : Aside0 (((l8.setCell ⟨a3, 0, none⟩ (.int .i64 ((rd_T83 l0 a2).f0))).setCell ⟨a3, 1, none⟩ (.int .i64 ((rd_T83 l0 a2).f1))).heap[a3]? = some (.cells #[.int .i64 ((rd_T83 l0 a2).f0), .int .i64 ((rd_T83 l0 a2).f1)] 83 (0, 0))) := ⟨by (with_reducible repeat (first | refine blk_drewN ?_ _ | refine blk_drew ?_ | refine blk_alloc ?_ _)); refine blk_put (cs := #[.int .i64 ((rd_T83 l0 a2).f0), .int .i64 0]) ?_ 1 _ rfl; (with_reducible repeat (first | refine blk_drewN ?_ _ | refine blk_drew ?_ | refine blk_alloc ?_ _)); refine blk_put (cs := #[.int .i64 0, .int .i64 0]) ?_ 0 _ rfl; (with_reducible repeat (first | refine blk_drewN ?_ _ | refine blk_drew ?_ | refine blk_alloc ?_ _)); exact a1.out⟩
             have b9 : Aside0 (Below w.heap.size w ((l8.setCell ⟨a3, 0, none⟩ (.int .i64 ((rd_T83 l0 a2).f0))).setCell ⟨a3, 1, none⟩ (.int .i64 ((rd_T83 l0 a2).f1)))) := ⟨by repeat (first | (with_reducible first | exact HB.out | apply below_alloc | apply pw_below_drewN | apply below_drew1 | refine below_set ?_ b5.out) | exact HB.out)⟩
             (try clear a1); (try clear HB)
             generalize ((l8.setCell ⟨a3, 0, none⟩ (.int .i64 ((rd_T83 l0 a2).f0))).setCell ⟨a3, 1, none⟩ (.int .i64 ((rd_T83 l0 a2).f1))) = n1 at b8 b9 ⊢
             have a1 := b8
             have HB := b9
             clear b8 b9
             replace a1 := dB_ a1; replace HB := dH_ HB
             have c1 : 0 ≤ ((a6) : Int) := od_
             have c5 : (a6) < (l0.length : Int) := od_
             obtain ⟨c7, d3, a7, a8⟩ := at_T83 d2.out (a6) c1 c5
             have hw190_1 := a8
             have hw190_0 := a7
             obtain rfl : a9 = c7 := (by injection d3)
             replace a7 := (HB.out.cell (World.block_lt_of_cell? w _ a7)).trans a7
             replace a8 := (HB.out.cell (World.block_lt_of_cell? w _ a8)).trans a8
             replace c1 := eq_true c1; replace c5 := eq_true c5
             have d0 : 0 ≤ ((a6) : Int) := od_
             have d1 : (a6) < (l0.length : Int) := od_
             obtain ⟨d4, d8, b0, b1⟩ := at_T83 d2.out (a6) d0 d1
             have hw191_1 := b1
             have hw191_0 := b0
             obtain rfl : a9 = d4 := (by injection d8)
             replace b0 := (HB.out.cell (World.block_lt_of_cell? w _ b0)).trans b0
             replace b1 := (HB.out.cell (World.block_lt_of_cell? w _ b1)).trans b1
             replace d0 := eq_true d0; replace d1 := eq_true d1
             refine start_ (n := 36) (S := fun w' => w'.cell? ⟨a3, 0, none⟩ = some (.int .i64 ((rd_T83 l0 a2).f0)) ∧ w'.cell? ⟨a3, 1, none⟩ = some (.int .i64 ((rd_T83 l0 a2).f1)) ∧ w'.cell? (a9.add (((a6)).toNat * 2)) = some (.int .i64 ((rd_T83 l0 (a6)).f0)) ∧ w'.cell? ⟨(a9.add (((a6)).toNat * 2)).block, (a9.add (((a6)).toNat * 2)).off + 1, none⟩ = some (.int .i64 ((rd_T83 l0 (a6)).f1)) ∧ w'.cell? (a9.add (((a6)).toNat * 2)) = some (.int .i64 ((rd_T83 l0 (a6)).f0)) ∧ w'.cell? ⟨(a9.add (((a6)).toNat * 2)).block, (a9.add (((a6)).toNat * 2)).off + 1, none⟩ = some (.int .i64 ((rd_T83 l0 (a6)).f1))) (ds := []) (bs_ 36 0) (by kernel_rfl) rfl (by kernel_rfl) ⟨bc0_ a1, bc1_ a1, ((HB.out.cell (World.block_lt_of_cell? w _ hw190_0)).trans hw190_0), ((HB.out.cell (World.block_lt_of_cell? w _ hw190_1)).trans hw190_1), ((HB.out.cell (World.block_lt_of_cell? w _ hw191_0)).trans hw191_0), ((HB.out.cell (World.block_lt_of_cell? w _ hw191_1)).trans hw191_1)⟩ (fun hHeld => ?_); refine with_tabW impl_fatigueOk.tab4 impl_fatigueOk.bits4 (fun HT_ HW_ => ?_)
             generalize n1.drew = n9 at a1 HB a7 a8 b0 b1 hHeld ⊢
             refine pu_ HT_ 0 12 (bs_ 36 1) ?_; refine tk_ HT_ HW_ 1 13 (bs_ 36 3) hHeld ?_
             refine one_ (i := 2) (N := some 14) (bs_ 36 7) rfl rfl (one_of HT_.out (by kernel_rfl)) (by decide) (fun K hK => ?_)
             refine gs_ Try.func76 #[.int .i64 ((rd_T83 l0 a2).f0), .int .i64 1, .int .i64 1000000] ?_
             with_reducible refine (impl_in.calls ((rd_T83 l0 a2).f0) 1 1000000 true _ A5.out).mono ?_
             rintro e w' ⟨rfl, ⟨nd, rfl⟩⟩
             refine ⟨_, rfl, ?_⟩
             refine hK.out _ _ ⟨bc0_ a1, bc1_ a1, ((HB.out.cell (World.block_lt_of_cell? w _ hw190_0)).trans hw190_0), ((HB.out.cell (World.block_lt_of_cell? w _ hw190_1)).trans hw190_1), ((HB.out.cell (World.block_lt_of_cell? w _ hw191_0)).trans hw191_0), ((HB.out.cell (World.block_lt_of_cell? w _ hw191_1)).trans hw191_1)⟩ (fun hHeld => ?_)
             clear hK K; refine nm_ 14 ?_; refine pu_ HT_ 3 15 (bs_ 36 15) ?_; refine pu_ HT_ 4 16 (bs_ 36 31) ?_; refine pu_ HT_ 5 17 (bs_ 36 63) ?_; refine tk_ HT_ HW_ 6 18 (bs_ 36 127) hHeld ?_
             refine one_ (i := 7) (N := some 19) (bs_ 36 255) rfl rfl (one_of HT_.out (by kernel_rfl)) (by decide) (fun K hK => ?_)
             refine gs_ Try.func76 #[.int .i64 ((rd_T83 l0 a2).f1), .int .i64 1, .int .i64 1000000] ?_
             with_reducible refine (impl_in.calls ((rd_T83 l0 a2).f1) 1 1000000 true _ A7.out).mono ?_
             rintro e w' ⟨rfl, ⟨nd, rfl⟩⟩
             refine ⟨_, rfl, ?_⟩
             refine hK.out _ _ ⟨bc0_ a1, bc1_ a1, ((HB.out.cell (World.block_lt_of_cell? w _ hw190_0)).trans hw190_0), ((HB.out.cell (World.block_lt_of_cell? w _ hw190_1)).trans hw190_1), ((HB.out.cell (World.block_lt_of_cell? w _ hw191_0)).trans hw191_0), ((HB.out.cell (World.block_lt_of_cell? w _ hw191_1)).trans hw191_1)⟩ (fun hHeld => ?_)
             clear hK K; refine nm_ 19 ?_; refine pu_ HT_ 8 20 (bs_ 36 511) ?_; refine pu_ HT_ 9 21 (bs_ 36 1023) ?_; refine pu_ HT_ 10 22 (bs_ 36 2047) ?_; refine pu_ HT_ 11 23 (bs_ 36 4095) ?_; refine pu_ HT_ 12 24 (bs_ 36 8191) ?_; refine pu_ HT_ 13 25 (bs_ 36 16383) ?_; refine pu_ HT_ 14 26 (bs_ 36 32767) ?_; refine pu_ HT_ 15 27 (bs_ 36 65535) ?_; refine pu_ HT_ 16 28 (bs_ 36 131071) ?_; refine pu_ HT_ 17 29 (bs_ 36 262143) ?_; refine pu_ HT_ 18 30 (bs_ 36 524287) ?_; refine pu_ HT_ 20 32 (bs_ 36 1572863) ?_; refine tk_ HT_ HW_ 19 31 (bs_ 36 2097151) hHeld ?_; refine tk_ HT_ HW_ 21 33 (bs_ 36 4194303) hHeld ?_; refine pu_ HT_ 22 34 (bs_ 36 8388607) ?_; refine pu_ HT_ 23 35 (bs_ 36 16777215) ?_; refine pu_ HT_ 24 36 (bs_ 36 33554431) ?_; refine pu_ HT_ 25 37 (bs_ 36 67108863) ?_; refine pu_ HT_ 26 38 (bs_ 36 134217727) ?_; refine pu_ HT_ 27 39 (bs_ 36 268435455) ?_; refine pu_ HT_ 28 40 (bs_ 36 536870911) ?_; refine pu_ HT_ 30 42 (bs_ 36 1610612735) ?_; refine tk_ HT_ HW_ 29 41 (bs_ 36 2147483647) hHeld ?_; refine tk_ HT_ HW_ 31 43 (bs_ 36 4294967295) hHeld ?_; refine pu_ HT_ 32 44 (bs_ 36 8589934591) ?_; refine pu_ HT_ 33 45 (bs_ 36 17179869183) ?_; refine pu_ HT_ 34 46 (bs_ 36 34359738367) ?_; refine pu_ HT_ 35 47 (bs_ 36 68719476735) ?_
             refine done_ (done_of HT_.out (by kernel_rfl)) ?_
             try go_wp2
             go_ret
             exact ⟨by first | rfl | (simp [errW_none, errW_some] <;> rfl) | (simp only [← b6]; first | rfl | (simp [errW_none, errW_some] <;> rfl)) | (simp [*, errW_none, errW_some] <;> rfl), hw_ HB⟩
            ·rw [if_neg g0] at H; have g3 : decide (((rd_T83 l0 (a6)).f1) ≤ ((rd_T83 l0 a2).f1)) = false := decide_eq_false g0; clear g0
             have H' := mk_ H
             clear H
             have b2 : 0 ≤ (a2 : Int) := od_
             have b3 : a2 < (l0.length : Int) := od_
             obtain ⟨a9, b7, a4, a5⟩ := at_T83 d2.out a2 b2 b3; cases b7
             replace a4 := (HB.out.cell (World.block_lt_of_cell? w _ a4)).trans a4
             replace a5 := (HB.out.cell (World.block_lt_of_cell? w _ a5)).trans a5
             replace b2 := eq_true b2; replace b3 := eq_true b3
             try go_wp2_with (first | ((with_reducible refine gd_ 4 rfl ?_); refine box_event ?hg (N := 4) ?hd (cs := #[.int .i64 0, .int .i64 0]) (t := 83) ?hr ?_; (case hd => rfl); (case hg => rfl); (case hr => exact hr_); intro a3 hg l9 hbox hb; have a1 := mk_ (hbox); have b4 := gb_ hg HB; replace HB := bp_ HB hb; have b5 := b4; clear hb hbox hg; have h8 := bc0_ a1; have h9 := bc1_ a1; have j0 := bf_ a1 0; have j1 := bf_ a1 1))
             have b8 : Aside0 (((l9.setCell ⟨a3, 0, none⟩ (.int .i64 ((rd_T83 l0 a2).f0))).setCell ⟨a3, 1, none⟩ (.int .i64 ((rd_T83 l0 a2).f1))).heap[a3]? = some (.cells #[.int .i64 ((rd_T83 l0 a2).f0), .int .i64 ((rd_T83 l0 a2).f1)] 83 (0, 0))) := ⟨by (with_reducible repeat (first | refine blk_drewN ?_ _ | refine blk_drew ?_ | refine blk_alloc ?_ _)); refine blk_put (cs := #[.int .i64 ((rd_T83 l0 a2).f0), .int .i64 0]) ?_ 1 _ rfl; (with_reducible repeat (first | refine blk_drewN ?_ _ | refine blk_drew ?_ | refine blk_alloc ?_ _)); refine blk_put (cs := #[.int .i64 0, .int .i64 0]) ?_ 0 _ rfl; (with_reducible repeat (first | refine blk_drewN ?_ _ | refine blk_drew ?_ | refine blk_alloc ?_ _)); exact a1.out⟩
             have b9 : Aside0 (Below w.heap.size w ((l9.setCell ⟨a3, 0, none⟩ (.int .i64 ((rd_T83 l0 a2).f0))).setCell ⟨a3, 1, none⟩ (.int .i64 ((rd_T83 l0 a2).f1)))) := ⟨by repeat (first | (with_reducible first | exact HB.out | apply below_alloc | apply pw_below_drewN | apply below_drew1 | refine below_set ?_ b5.out) | exact HB.out)⟩
             (try clear a1); (try clear HB)
             generalize ((l9.setCell ⟨a3, 0, none⟩ (.int .i64 ((rd_T83 l0 a2).f0))).setCell ⟨a3, 1, none⟩ (.int .i64 ((rd_T83 l0 a2).f1))) = n2 at b8 b9 ⊢
             have a1 := b8
             have HB := b9
             clear b8 b9
             replace a1 := dB_ a1; replace HB := dH_ HB
             have c1 : 0 ≤ ((a6) : Int) := od_
             have c5 : (a6) < (l0.length : Int) := od_
             obtain ⟨c7, d3, a7, a8⟩ := at_T83 d2.out (a6) c1 c5
             have hw190_1 := a8
             have hw190_0 := a7
             obtain rfl : a9 = c7 := (by injection d3)
             replace a7 := (HB.out.cell (World.block_lt_of_cell? w _ a7)).trans a7
             replace a8 := (HB.out.cell (World.block_lt_of_cell? w _ a8)).trans a8
             replace c1 := eq_true c1; replace c5 := eq_true c5
             have d0 : 0 ≤ ((a6) : Int) := od_
             have d1 : (a6) < (l0.length : Int) := od_
             obtain ⟨d4, d8, b0, b1⟩ := at_T83 d2.out (a6) d0 d1
             have hw191_1 := b1
             have hw191_0 := b0
             obtain rfl : a9 = d4 := (by injection d8)
             replace b0 := (HB.out.cell (World.block_lt_of_cell? w _ b0)).trans b0
             replace b1 := (HB.out.cell (World.block_lt_of_cell? w _ b1)).trans b1
             replace d0 := eq_true d0; replace d1 := eq_true d1
             refine start_ (n := 36) (S := fun w' => w'.cell? ⟨a3, 0, none⟩ = some (.int .i64 ((rd_T83 l0 a2).f0)) ∧ w'.cell? ⟨a3, 1, none⟩ = some (.int .i64 ((rd_T83 l0 a2).f1)) ∧ w'.cell? (a9.add (((a6)).toNat * 2)) = some (.int .i64 ((rd_T83 l0 (a6)).f0)) ∧ w'.cell? ⟨(a9.add (((a6)).toNat * 2)).block, (a9.add (((a6)).toNat * 2)).off + 1, none⟩ = some (.int .i64 ((rd_T83 l0 (a6)).f1)) ∧ w'.cell? (a9.add (((a6)).toNat * 2)) = some (.int .i64 ((rd_T83 l0 (a6)).f0)) ∧ w'.cell? ⟨(a9.add (((a6)).toNat * 2)).block, (a9.add (((a6)).toNat * 2)).off + 1, none⟩ = some (.int .i64 ((rd_T83 l0 (a6)).f1))) (ds := []) (bs_ 36 0) (by kernel_rfl) rfl (by kernel_rfl) ⟨bc0_ a1, bc1_ a1, ((HB.out.cell (World.block_lt_of_cell? w _ hw190_0)).trans hw190_0), ((HB.out.cell (World.block_lt_of_cell? w _ hw190_1)).trans hw190_1), ((HB.out.cell (World.block_lt_of_cell? w _ hw191_0)).trans hw191_0), ((HB.out.cell (World.block_lt_of_cell? w _ hw191_1)).trans hw191_1)⟩ (fun hHeld => ?_); refine with_tabW impl_fatigueOk.tab4 impl_fatigueOk.bits4 (fun HT_ HW_ => ?_)
             generalize n2.drew = o0 at a1 HB a7 a8 b0 b1 hHeld ⊢
             refine pu_ HT_ 0 12 (bs_ 36 1) ?_; refine tk_ HT_ HW_ 1 13 (bs_ 36 3) hHeld ?_
             refine one_ (i := 2) (N := some 14) (bs_ 36 7) rfl rfl (one_of HT_.out (by kernel_rfl)) (by decide) (fun K hK => ?_)
             refine gs_ Try.func76 #[.int .i64 ((rd_T83 l0 a2).f0), .int .i64 1, .int .i64 1000000] ?_
             with_reducible refine (impl_in.calls ((rd_T83 l0 a2).f0) 1 1000000 true _ A5.out).mono ?_
             rintro e w' ⟨rfl, ⟨nd, rfl⟩⟩
             refine ⟨_, rfl, ?_⟩
             refine hK.out _ _ ⟨bc0_ a1, bc1_ a1, ((HB.out.cell (World.block_lt_of_cell? w _ hw190_0)).trans hw190_0), ((HB.out.cell (World.block_lt_of_cell? w _ hw190_1)).trans hw190_1), ((HB.out.cell (World.block_lt_of_cell? w _ hw191_0)).trans hw191_0), ((HB.out.cell (World.block_lt_of_cell? w _ hw191_1)).trans hw191_1)⟩ (fun hHeld => ?_)
             clear hK K; refine nm_ 14 ?_; refine pu_ HT_ 3 15 (bs_ 36 15) ?_; refine pu_ HT_ 4 16 (bs_ 36 31) ?_; refine pu_ HT_ 5 17 (bs_ 36 63) ?_; refine tk_ HT_ HW_ 6 18 (bs_ 36 127) hHeld ?_
             refine one_ (i := 7) (N := some 19) (bs_ 36 255) rfl rfl (one_of HT_.out (by kernel_rfl)) (by decide) (fun K hK => ?_)
             refine gs_ Try.func76 #[.int .i64 ((rd_T83 l0 a2).f1), .int .i64 1, .int .i64 1000000] ?_
             with_reducible refine (impl_in.calls ((rd_T83 l0 a2).f1) 1 1000000 true _ A7.out).mono ?_
             rintro e w' ⟨rfl, ⟨nd, rfl⟩⟩
             refine ⟨_, rfl, ?_⟩
             refine hK.out _ _ ⟨bc0_ a1, bc1_ a1, ((HB.out.cell (World.block_lt_of_cell? w _ hw190_0)).trans hw190_0), ((HB.out.cell (World.block_lt_of_cell? w _ hw190_1)).trans hw190_1), ((HB.out.cell (World.block_lt_of_cell? w _ hw191_0)).trans hw191_0), ((HB.out.cell (World.block_lt_of_cell? w _ hw191_1)).trans hw191_1)⟩ (fun hHeld => ?_)
             clear hK K; refine nm_ 19 ?_; refine pu_ HT_ 8 20 (bs_ 36 511) ?_; refine pu_ HT_ 9 21 (bs_ 36 1023) ?_; refine pu_ HT_ 10 22 (bs_ 36 2047) ?_; refine pu_ HT_ 11 23 (bs_ 36 4095) ?_; refine pu_ HT_ 12 24 (bs_ 36 8191) ?_; refine pu_ HT_ 13 25 (bs_ 36 16383) ?_; refine pu_ HT_ 14 26 (bs_ 36 32767) ?_; refine pu_ HT_ 15 27 (bs_ 36 65535) ?_; refine pu_ HT_ 16 28 (bs_ 36 131071) ?_; refine pu_ HT_ 17 29 (bs_ 36 262143) ?_; refine pu_ HT_ 18 30 (bs_ 36 524287) ?_; refine pu_ HT_ 20 32 (bs_ 36 1572863) ?_; refine tk_ HT_ HW_ 19 31 (bs_ 36 2097151) hHeld ?_; refine tk_ HT_ HW_ 21 33 (bs_ 36 4194303) hHeld ?_; refine pu_ HT_ 22 34 (bs_ 36 8388607) ?_; refine pu_ HT_ 23 35 (bs_ 36 16777215) ?_; refine pu_ HT_ 24 36 (bs_ 36 33554431) ?_; refine pu_ HT_ 25 37 (bs_ 36 67108863) ?_; refine pu_ HT_ 26 38 (bs_ 36 134217727) ?_; refine pu_ HT_ 27 39 (bs_ 36 268435455) ?_; refine pu_ HT_ 28 40 (bs_ 36 536870911) ?_; refine pu_ HT_ 30 42 (bs_ 36 1610612735) ?_; refine tk_ HT_ HW_ 29 41 (bs_ 36 2147483647) hHeld ?_; refine tk_ HT_ HW_ 31 43 (bs_ 36 4294967295) hHeld ?_; refine pu_ HT_ 32 44 (bs_ 36 8589934591) ?_; refine pu_ HT_ 33 45 (bs_ 36 17179869183) ?_; refine pu_ HT_ 34 46 (bs_ 36 34359738367) ?_; refine pu_ HT_ 35 47 (bs_ 36 68719476735) ?_
             refine done_ (done_of HT_.out (by kernel_rfl)) ?_
             try go_wp2
             go_roundg k1
             case measure => have := g5.out; omega
             case rel => exact ⟨(wrap64 (a2 + 1)), rf_, H', ⟨by have := g5.out; omega⟩, ⟨hw_ HB⟩⟩
          ·rw [if_neg g7] at H
           exact absurd H (by simp)
         ·rw [if_neg g6] at H
          exact absurd H (by simp)
        ·rw [if_neg c9] at H; have l6 : decide (0 < a2) = false := decide_eq_false c9; clear c9
         have H' := mk_ H
         clear H
         have b2 : 0 ≤ (a2 : Int) := od_
         have b3 : a2 < (l0.length : Int) := od_
         obtain ⟨a9, b7, a4, a5⟩ := at_T83 d2.out a2 b2 b3; cases b7
         replace a4 := (HB.out.cell (World.block_lt_of_cell? w _ a4)).trans a4
         replace a5 := (HB.out.cell (World.block_lt_of_cell? w _ a5)).trans a5
         replace b2 := eq_true b2; replace b3 := eq_true b3
         try go_wp2_with (first | ((with_reducible refine gd_ 4 rfl ?_); refine box_event ?hg (N := 4) ?hd (cs := #[.int .i64 0, .int .i64 0]) (t := 83) ?hr ?_; (case hd => rfl); (case hg => rfl); (case hr => exact hr_); intro a3 hg m0 hbox hb; have a1 := mk_ (hbox); have b4 := gb_ hg HB; replace HB := bp_ HB hb; have b5 := b4; clear hb hbox hg; have j2 := bc0_ a1; have j3 := bc1_ a1; have j4 := bf_ a1 0; have j5 := bf_ a1 1))
         have b8 : Aside0 (((m0.setCell ⟨a3, 0, none⟩ (.int .i64 ((rd_T83 l0 a2).f0))).setCell ⟨a3, 1, none⟩ (.int .i64 ((rd_T83 l0 a2).f1))).heap[a3]? = some (.cells #[.int .i64 ((rd_T83 l0 a2).f0), .int .i64 ((rd_T83 l0 a2).f1)] 83 (0, 0))) := ⟨by (with_reducible repeat (first | refine blk_drewN ?_ _ | refine blk_drew ?_ | refine blk_alloc ?_ _)); refine blk_put (cs := #[.int .i64 ((rd_T83 l0 a2).f0), .int .i64 0]) ?_ 1 _ rfl; (with_reducible repeat (first | refine blk_drewN ?_ _ | refine blk_drew ?_ | refine blk_alloc ?_ _)); refine blk_put (cs := #[.int .i64 0, .int .i64 0]) ?_ 0 _ rfl; (with_reducible repeat (first | refine blk_drewN ?_ _ | refine blk_drew ?_ | refine blk_alloc ?_ _)); exact a1.out⟩
         have b9 : Aside0 (Below w.heap.size w ((m0.setCell ⟨a3, 0, none⟩ (.int .i64 ((rd_T83 l0 a2).f0))).setCell ⟨a3, 1, none⟩ (.int .i64 ((rd_T83 l0 a2).f1)))) := ⟨by repeat (first | (with_reducible first | exact HB.out | apply below_alloc | apply pw_below_drewN | apply below_drew1 | refine below_set ?_ b5.out) | exact HB.out)⟩
         (try clear a1); (try clear HB)
         generalize ((m0.setCell ⟨a3, 0, none⟩ (.int .i64 ((rd_T83 l0 a2).f0))).setCell ⟨a3, 1, none⟩ (.int .i64 ((rd_T83 l0 a2).f1))) = n3 at b8 b9 ⊢
         have a1 := b8
         have HB := b9
         clear b8 b9
         replace a1 := dB_ a1; replace HB := dH_ HB
         refine start_ (n := 36) (S := fun w' => w'.cell? ⟨a3, 0, none⟩ = some (.int .i64 ((rd_T83 l0 a2).f0)) ∧ w'.cell? ⟨a3, 1, none⟩ = some (.int .i64 ((rd_T83 l0 a2).f1))) (ds := []) (bs_ 36 0) (by kernel_rfl) rfl (by kernel_rfl) ⟨bc0_ a1, bc1_ a1⟩ (fun hHeld => ?_); refine with_tabW impl_fatigueOk.tab4 impl_fatigueOk.bits4 (fun HT_ HW_ => ?_)
         generalize n3.drew = o1 at a1 HB hHeld ⊢
         refine pu_ HT_ 0 12 (bs_ 36 1) ?_; refine tk_ HT_ HW_ 1 13 (bs_ 36 3) hHeld ?_
         refine one_ (i := 2) (N := some 14) (bs_ 36 7) rfl rfl (one_of HT_.out (by kernel_rfl)) (by decide) (fun K hK => ?_)
         refine gs_ Try.func76 #[.int .i64 ((rd_T83 l0 a2).f0), .int .i64 1, .int .i64 1000000] ?_
         with_reducible refine (impl_in.calls ((rd_T83 l0 a2).f0) 1 1000000 true _ A5.out).mono ?_
         rintro e w' ⟨rfl, ⟨nd, rfl⟩⟩
         refine ⟨_, rfl, ?_⟩
         refine hK.out _ _ ⟨bc0_ a1, bc1_ a1⟩ (fun hHeld => ?_)
         clear hK K; refine nm_ 14 ?_; refine pu_ HT_ 3 15 (bs_ 36 15) ?_; refine pu_ HT_ 4 16 (bs_ 36 31) ?_; refine pu_ HT_ 5 17 (bs_ 36 63) ?_; refine tk_ HT_ HW_ 6 18 (bs_ 36 127) hHeld ?_
         refine one_ (i := 7) (N := some 19) (bs_ 36 255) rfl rfl (one_of HT_.out (by kernel_rfl)) (by decide) (fun K hK => ?_)
         refine gs_ Try.func76 #[.int .i64 ((rd_T83 l0 a2).f1), .int .i64 1, .int .i64 1000000] ?_
         with_reducible refine (impl_in.calls ((rd_T83 l0 a2).f1) 1 1000000 true _ A7.out).mono ?_
         rintro e w' ⟨rfl, ⟨nd, rfl⟩⟩
         refine ⟨_, rfl, ?_⟩
         refine hK.out _ _ ⟨bc0_ a1, bc1_ a1⟩ (fun hHeld => ?_)
         clear hK K; refine nm_ 19 ?_; refine pu_ HT_ 8 20 (bs_ 36 511) ?_; refine pu_ HT_ 9 21 (bs_ 36 1023) ?_; refine pu_ HT_ 10 22 (bs_ 36 2047) ?_; refine pu_ HT_ 11 23 (bs_ 36 4095) ?_; refine pu_ HT_ 12 24 (bs_ 36 8191) ?_; refine pu_ HT_ 13 25 (bs_ 36 16383) ?_; refine pn_ HT_ 14 26 (bs_ 36 32767) ?_; refine pn_ HT_ 15 27 (bs_ 36 65535) ?_; refine pn_ HT_ 16 28 (bs_ 36 131071) ?_; refine pn_ HT_ 17 29 (bs_ 36 262143) ?_; refine pn_ HT_ 18 30 (bs_ 36 524287) ?_; refine pn_ HT_ 19 31 (bs_ 36 1048575) ?_; refine pn_ HT_ 20 32 (bs_ 36 2097151) ?_; refine pn_ HT_ 21 33 (bs_ 36 4194303) ?_; refine pn_ HT_ 22 34 (bs_ 36 8388607) ?_; refine pn_ HT_ 23 35 (bs_ 36 16777215) ?_; refine pn_ HT_ 24 36 (bs_ 36 33554431) ?_; refine pn_ HT_ 25 37 (bs_ 36 67108863) ?_; refine pn_ HT_ 26 38 (bs_ 36 134217727) ?_; refine pn_ HT_ 27 39 (bs_ 36 268435455) ?_; refine pn_ HT_ 28 40 (bs_ 36 536870911) ?_; refine pn_ HT_ 29 41 (bs_ 36 1073741823) ?_; refine pn_ HT_ 30 42 (bs_ 36 2147483647) ?_; refine pn_ HT_ 31 43 (bs_ 36 4294967295) ?_; refine pn_ HT_ 32 44 (bs_ 36 8589934591) ?_; refine pn_ HT_ 33 45 (bs_ 36 17179869183) ?_; refine pu_ HT_ 34 46 (bs_ 36 34359738367) ?_; refine pu_ HT_ 35 47 (bs_ 36 68719476735) ?_
         refine done_ (done_of HT_.out (by kernel_rfl)) ?_
         try go_wp2
         go_roundg k1
         case measure => have := g5.out; omega
         case rel => exact ⟨(wrap64 (a2 + 1)), rf_, H', ⟨by have := g5.out; omega⟩, ⟨hw_ HB⟩⟩
       ·replace c8 := Bool.eq_false_iff.mpr c8; subst c8; rw [if_neg (show ¬ (false = true) by decide)] at H; obtain rfl := Option.some.inj H
        have b2 : 0 ≤ (a2 : Int) := od_
        have b3 : a2 < (l0.length : Int) := od_
        obtain ⟨a9, b7, a4, a5⟩ := at_T83 d2.out a2 b2 b3; cases b7
        replace a4 := (HB.out.cell (World.block_lt_of_cell? w _ a4)).trans a4
        replace a5 := (HB.out.cell (World.block_lt_of_cell? w _ a5)).trans a5
        replace b2 := eq_true b2; replace b3 := eq_true b3
        try go_wp2_with (first | ((with_reducible refine gd_ 4 rfl ?_); refine box_event ?hg (N := 4) ?hd (cs := #[.int .i64 0, .int .i64 0]) (t := 83) ?hr ?_; (case hd => rfl); (case hg => rfl); (case hr => exact hr_); intro a3 hg m1 hbox hb; have a1 := mk_ (hbox); have b4 := gb_ hg HB; replace HB := bp_ HB hb; have b5 := b4; clear hb hbox hg; have j6 := bc0_ a1; have j7 := bc1_ a1; have j8 := bf_ a1 0; have j9 := bf_ a1 1))
        have b8 : Aside0 (((m1.setCell ⟨a3, 0, none⟩ (.int .i64 ((rd_T83 l0 a2).f0))).setCell ⟨a3, 1, none⟩ (.int .i64 ((rd_T83 l0 a2).f1))).heap[a3]? = some (.cells #[.int .i64 ((rd_T83 l0 a2).f0), .int .i64 ((rd_T83 l0 a2).f1)] 83 (0, 0))) := ⟨by (with_reducible repeat (first | refine blk_drewN ?_ _ | refine blk_drew ?_ | refine blk_alloc ?_ _)); refine blk_put (cs := #[.int .i64 ((rd_T83 l0 a2).f0), .int .i64 0]) ?_ 1 _ rfl; (with_reducible repeat (first | refine blk_drewN ?_ _ | refine blk_drew ?_ | refine blk_alloc ?_ _)); refine blk_put (cs := #[.int .i64 0, .int .i64 0]) ?_ 0 _ rfl; (with_reducible repeat (first | refine blk_drewN ?_ _ | refine blk_drew ?_ | refine blk_alloc ?_ _)); exact a1.out⟩
        have b9 : Aside0 (Below w.heap.size w ((m1.setCell ⟨a3, 0, none⟩ (.int .i64 ((rd_T83 l0 a2).f0))).setCell ⟨a3, 1, none⟩ (.int .i64 ((rd_T83 l0 a2).f1)))) := ⟨by repeat (first | (with_reducible first | exact HB.out | apply below_alloc | apply pw_below_drewN | apply below_drew1 | refine below_set ?_ b5.out) | exact HB.out)⟩
        (try clear a1); (try clear HB)
        generalize ((m1.setCell ⟨a3, 0, none⟩ (.int .i64 ((rd_T83 l0 a2).f0))).setCell ⟨a3, 1, none⟩ (.int .i64 ((rd_T83 l0 a2).f1))) = n4 at b8 b9 ⊢
        have a1 := b8
        have HB := b9
        clear b8 b9
        replace a1 := dB_ a1; replace HB := dH_ HB
        refine start_ (n := 36) (S := fun w' => w'.cell? ⟨a3, 0, none⟩ = some (.int .i64 ((rd_T83 l0 a2).f0)) ∧ w'.cell? ⟨a3, 1, none⟩ = some (.int .i64 ((rd_T83 l0 a2).f1))) (ds := []) (bs_ 36 0) (by kernel_rfl) rfl (by kernel_rfl) ⟨bc0_ a1, bc1_ a1⟩ (fun hHeld => ?_); refine with_tabW impl_fatigueOk.tab4 impl_fatigueOk.bits4 (fun HT_ HW_ => ?_)
        generalize n4.drew = o2 at a1 HB hHeld ⊢
        refine pu_ HT_ 0 12 (bs_ 36 1) ?_; refine tk_ HT_ HW_ 1 13 (bs_ 36 3) hHeld ?_
        refine one_ (i := 2) (N := some 14) (bs_ 36 7) rfl rfl (one_of HT_.out (by kernel_rfl)) (by decide) (fun K hK => ?_)
        refine gs_ Try.func76 #[.int .i64 ((rd_T83 l0 a2).f0), .int .i64 1, .int .i64 1000000] ?_
        with_reducible refine (impl_in.calls ((rd_T83 l0 a2).f0) 1 1000000 true _ A5.out).mono ?_
        rintro e w' ⟨rfl, ⟨nd, rfl⟩⟩
        refine ⟨_, rfl, ?_⟩
        refine hK.out _ _ ⟨bc0_ a1, bc1_ a1⟩ (fun hHeld => ?_)
        clear hK K; refine nm_ 14 ?_; refine pu_ HT_ 3 15 (bs_ 36 15) ?_; refine pu_ HT_ 4 16 (bs_ 36 31) ?_; refine pu_ HT_ 5 17 (bs_ 36 63) ?_; refine tk_ HT_ HW_ 6 18 (bs_ 36 127) hHeld ?_
        refine one_ (i := 7) (N := some 19) (bs_ 36 255) rfl rfl (one_of HT_.out (by kernel_rfl)) (by decide) (fun K hK => ?_)
        refine gs_ Try.func76 #[.int .i64 ((rd_T83 l0 a2).f1), .int .i64 1, .int .i64 1000000] ?_
        with_reducible refine (impl_in.calls ((rd_T83 l0 a2).f1) 1 1000000 false _ A7.out).mono ?_
        rintro e w' ⟨rfl, ⟨nd, rfl⟩⟩
        refine ⟨_, rfl, ?_⟩
        refine hK.out _ _ ⟨bc0_ a1, bc1_ a1⟩ (fun hHeld => ?_)
        clear hK K; refine nm_ 19 ?_; refine pu_ HT_ 8 20 (bs_ 36 511) ?_; refine pu_ HT_ 9 21 (bs_ 36 1023) ?_; refine pu_ HT_ 10 22 (bs_ 36 2047) ?_; refine pn_ HT_ 11 23 (bs_ 36 4095) ?_; refine pn_ HT_ 12 24 (bs_ 36 8191) ?_; refine pn_ HT_ 13 25 (bs_ 36 16383) ?_; refine pn_ HT_ 14 26 (bs_ 36 32767) ?_; refine pn_ HT_ 15 27 (bs_ 36 65535) ?_; refine pn_ HT_ 16 28 (bs_ 36 131071) ?_; refine pn_ HT_ 17 29 (bs_ 36 262143) ?_; refine pn_ HT_ 18 30 (bs_ 36 524287) ?_; refine pn_ HT_ 19 31 (bs_ 36 1048575) ?_; refine pn_ HT_ 20 32 (bs_ 36 2097151) ?_; refine pn_ HT_ 21 33 (bs_ 36 4194303) ?_; refine pn_ HT_ 22 34 (bs_ 36 8388607) ?_; refine pn_ HT_ 23 35 (bs_ 36 16777215) ?_; refine pn_ HT_ 24 36 (bs_ 36 33554431) ?_; refine pn_ HT_ 25 37 (bs_ 36 67108863) ?_; refine pn_ HT_ 26 38 (bs_ 36 134217727) ?_; refine pn_ HT_ 27 39 (bs_ 36 268435455) ?_; refine pn_ HT_ 28 40 (bs_ 36 536870911) ?_; refine pn_ HT_ 29 41 (bs_ 36 1073741823) ?_; refine pn_ HT_ 30 42 (bs_ 36 2147483647) ?_; refine pn_ HT_ 31 43 (bs_ 36 4294967295) ?_; refine pn_ HT_ 32 44 (bs_ 36 8589934591) ?_; refine pn_ HT_ 33 45 (bs_ 36 17179869183) ?_; refine pn_ HT_ 34 46 (bs_ 36 34359738367) ?_; refine pu_ HT_ 35 47 (bs_ 36 68719476735) ?_
        refine done_ (done_of HT_.out (by kernel_rfl)) ?_
        try go_wp2
        go_ret
        exact ⟨re_, hw_ HB⟩
      ·replace c6 := Bool.eq_false_iff.mpr c6; subst c6; rw [if_neg (show ¬ (false = true) by decide)] at H; obtain rfl := Option.some.inj H
       have b2 : 0 ≤ (a2 : Int) := od_
       have b3 : a2 < (l0.length : Int) := od_
       obtain ⟨a9, b7, a4, a5⟩ := at_T83 d2.out a2 b2 b3; cases b7
       replace a4 := (HB.out.cell (World.block_lt_of_cell? w _ a4)).trans a4
       replace a5 := (HB.out.cell (World.block_lt_of_cell? w _ a5)).trans a5
       replace b2 := eq_true b2; replace b3 := eq_true b3
       try go_wp2_with (first | ((with_reducible refine gd_ 4 rfl ?_); refine box_event ?hg (N := 4) ?hd (cs := #[.int .i64 0, .int .i64 0]) (t := 83) ?hr ?_; (case hd => rfl); (case hg => rfl); (case hr => exact hr_); intro a3 hg m2 hbox hb; have a1 := mk_ (hbox); have b4 := gb_ hg HB; replace HB := bp_ HB hb; have b5 := b4; clear hb hbox hg; have l1 := bc0_ a1; have l2 := bc1_ a1; have l3 := bf_ a1 0; have l4 := bf_ a1 1))
       have b8 : Aside0 (((m2.setCell ⟨a3, 0, none⟩ (.int .i64 ((rd_T83 l0 a2).f0))).setCell ⟨a3, 1, none⟩ (.int .i64 ((rd_T83 l0 a2).f1))).heap[a3]? = some (.cells #[.int .i64 ((rd_T83 l0 a2).f0), .int .i64 ((rd_T83 l0 a2).f1)] 83 (0, 0))) := ⟨by (with_reducible repeat (first | refine blk_drewN ?_ _ | refine blk_drew ?_ | refine blk_alloc ?_ _)); refine blk_put (cs := #[.int .i64 ((rd_T83 l0 a2).f0), .int .i64 0]) ?_ 1 _ rfl; (with_reducible repeat (first | refine blk_drewN ?_ _ | refine blk_drew ?_ | refine blk_alloc ?_ _)); refine blk_put (cs := #[.int .i64 0, .int .i64 0]) ?_ 0 _ rfl; (with_reducible repeat (first | refine blk_drewN ?_ _ | refine blk_drew ?_ | refine blk_alloc ?_ _)); exact a1.out⟩
       have b9 : Aside0 (Below w.heap.size w ((m2.setCell ⟨a3, 0, none⟩ (.int .i64 ((rd_T83 l0 a2).f0))).setCell ⟨a3, 1, none⟩ (.int .i64 ((rd_T83 l0 a2).f1)))) := ⟨by repeat (first | (with_reducible first | exact HB.out | apply below_alloc | apply pw_below_drewN | apply below_drew1 | refine below_set ?_ b5.out) | exact HB.out)⟩
       (try clear a1); (try clear HB)
       generalize ((m2.setCell ⟨a3, 0, none⟩ (.int .i64 ((rd_T83 l0 a2).f0))).setCell ⟨a3, 1, none⟩ (.int .i64 ((rd_T83 l0 a2).f1))) = n5 at b8 b9 ⊢
       have a1 := b8
       have HB := b9
       clear b8 b9
       replace a1 := dB_ a1; replace HB := dH_ HB
       refine start_ (n := 36) (S := fun w' => w'.cell? ⟨a3, 0, none⟩ = some (.int .i64 ((rd_T83 l0 a2).f0)) ∧ w'.cell? ⟨a3, 1, none⟩ = some (.int .i64 ((rd_T83 l0 a2).f1))) (ds := []) (bs_ 36 0) (by kernel_rfl) rfl (by kernel_rfl) ⟨bc0_ a1, bc1_ a1⟩ (fun hHeld => ?_); refine with_tabW impl_fatigueOk.tab4 impl_fatigueOk.bits4 (fun HT_ HW_ => ?_)
       generalize n5.drew = o3 at a1 HB hHeld ⊢
       refine pu_ HT_ 0 12 (bs_ 36 1) ?_; refine tk_ HT_ HW_ 1 13 (bs_ 36 3) hHeld ?_
       refine one_ (i := 2) (N := some 14) (bs_ 36 7) rfl rfl (one_of HT_.out (by kernel_rfl)) (by decide) (fun K hK => ?_)
       refine gs_ Try.func76 #[.int .i64 ((rd_T83 l0 a2).f0), .int .i64 1, .int .i64 1000000] ?_
       with_reducible refine (impl_in.calls ((rd_T83 l0 a2).f0) 1 1000000 false _ A5.out).mono ?_
       rintro e w' ⟨rfl, ⟨nd, rfl⟩⟩
       refine ⟨_, rfl, ?_⟩
       refine hK.out _ _ ⟨bc0_ a1, bc1_ a1⟩ (fun hHeld => ?_)
       clear hK K; refine nm_ 14 ?_; refine pu_ HT_ 3 15 (bs_ 36 15) ?_; refine pu_ HT_ 4 16 (bs_ 36 31) ?_; refine pn_ HT_ 5 17 (bs_ 36 63) ?_; refine pn_ HT_ 6 18 (bs_ 36 127) ?_; refine pn_ HT_ 7 19 (bs_ 36 255) ?_; refine pn_ HT_ 8 20 (bs_ 36 511) ?_; refine pu_ HT_ 9 21 (bs_ 36 1023) ?_; refine pu_ HT_ 10 22 (bs_ 36 2047) ?_; refine pn_ HT_ 11 23 (bs_ 36 4095) ?_; refine pn_ HT_ 12 24 (bs_ 36 8191) ?_; refine pn_ HT_ 13 25 (bs_ 36 16383) ?_; refine pn_ HT_ 14 26 (bs_ 36 32767) ?_; refine pn_ HT_ 15 27 (bs_ 36 65535) ?_; refine pn_ HT_ 16 28 (bs_ 36 131071) ?_; refine pn_ HT_ 17 29 (bs_ 36 262143) ?_; refine pn_ HT_ 18 30 (bs_ 36 524287) ?_; refine pn_ HT_ 19 31 (bs_ 36 1048575) ?_; refine pn_ HT_ 20 32 (bs_ 36 2097151) ?_; refine pn_ HT_ 21 33 (bs_ 36 4194303) ?_; refine pn_ HT_ 22 34 (bs_ 36 8388607) ?_; refine pn_ HT_ 23 35 (bs_ 36 16777215) ?_; refine pn_ HT_ 24 36 (bs_ 36 33554431) ?_; refine pn_ HT_ 25 37 (bs_ 36 67108863) ?_; refine pn_ HT_ 26 38 (bs_ 36 134217727) ?_; refine pn_ HT_ 27 39 (bs_ 36 268435455) ?_; refine pn_ HT_ 28 40 (bs_ 36 536870911) ?_; refine pn_ HT_ 29 41 (bs_ 36 1073741823) ?_; refine pn_ HT_ 30 42 (bs_ 36 2147483647) ?_; refine pn_ HT_ 31 43 (bs_ 36 4294967295) ?_; refine pn_ HT_ 32 44 (bs_ 36 8589934591) ?_; refine pn_ HT_ 33 45 (bs_ 36 17179869183) ?_; refine pn_ HT_ 34 46 (bs_ 36 34359738367) ?_; refine pu_ HT_ 35 47 (bs_ 36 68719476735) ?_
       refine done_ (done_of HT_.out (by kernel_rfl)) ?_
       try go_wp2
       go_ret
       exact ⟨re_, hw_ HB⟩
     ·rw [if_neg c4] at H
      exact absurd H (by simp)
    ·rw [if_neg c3] at H
     exact absurd H (by simp)
   ·rw [if_neg c2] at H; have l5 : decide (a2 < (l0.length : Int)) = false := decide_eq_false c2; clear c2; replace H := Option.bind_eq_some_iff.mp H; obtain ⟨d7, g4, H⟩ := H; (try dsimp only at H); have n6 := mk_ g4; clear g4; obtain rfl := Option.some.inj H
    go_wp2_with (first | ((with_reducible refine gc_ 76 rfl ?_); refine gl_ (some 51) rfl Try.func76 #[.int .i64 (l0.length : Int), .int .i64 1, .int .i64 20] ?_; (with_reducible refine (impl_in.calls (l0.length : Int) 1 20 d7 _ n6.out).mono ?_); rintro e w' ⟨rfl, ⟨nd, rfl⟩⟩; refine ⟨_, rfl, ?_⟩))
    go_ret
    exact ⟨re_, hw_ HB⟩

end Go.Proofs.Ytnphbpkpjinddaa.QFnCycles
-- squeezed
