/- Lean functions that tell what the Go functions used by one law answer, and for each a proof that the Go code comes to just these answers; no condition. Printed by this session's own program over the kit's printer. -/
import Derived.Test.YteedbciobdcmaaaWSq
import Derived.Test.YteedbciobdcmaaaQFnExactLeavesx0
namespace Go.Proofs.Yteedbciobdcmaaa.QFnExactLeaves
open Go.RowKit Go.Proofs.YteedbciobdcmaaaW.PrintWords Go.Proofs.YteedbciobdcmaaaW.PrintLast Go.Proofs.YteedbciobdcmaaaW.PrintMore
attribute [local go_sem] max2_int min2_int max_two min_two max_three min_three max_four min_four   -- for this text's walks alone
attribute [local go_sem high] go_eql go_neq go_lss go_leq go_gtr go_geq go_store   -- for this text's walks alone
set_option linter.unusedVariables false
set_option linter.unusedSimpArgs false

/-! ### spec_l2With: function 34 -/
def spec_l2With.l0 : Nat → List (S60) → Int → Int → Int → Option (Int × Int)
 | 0, _, _, _, _ => none
 | k + 1, x1, x5, x162000, x162001 => if x5 < (x1.length : Int) then (if 0 ≤ x5 then (spec_l2With.l0 k x1 (wrap64 (x5 + 1)) (wrap64 (x162000 + ((rd_T60 x1 x5).f0))) (wrap64 (x162001 + (wrap64 (((rd_T60 x1 x5).f0) * ((rd_T60 x1 x5).f1)))))) else (none)) else (some (x162000, x162001))
def spec_l2With.f (k : Nat) (a0_0 : Int) (a0_1 : Int) (l1 : List (S60)) : Option (Int × Int) := spec_l2With.l0 k l1 0 a0_0 a0_1
theorem spec_l2With.mono_l : ∀ k, (∀ y0 y1 y2 y3, LeO (spec_l2With.l0 k y0 y1 y2 y3) (spec_l2With.l0 (k + 1) y0 y1 y2 y3))
 | 0 => fun _ _ _ _ r h => by simp [spec_l2With.l0] at h
 | k + 1 => by
  have ih0 := spec_l2With.mono_l k
  ·intro y0 y1 y2 y3
   unfold spec_l2With.l0
   repeat' first
   | (with_reducible exact ih0 _ _ _ _)
   | (with_reducible exact LeO.refl _)
   | (with_reducible exact LeO.none _)
   | (with_reducible refine LeO.ite ?_ ?_)
   | (with_reducible refine LeO.bind ?_ (fun _ => ?_))
   | exact ih0 _ _ _ _
   | exact LeO.none _
   | refine LeO.ite ?_ ?_
   | refine LeO.bind ?_ (fun _ => ?_)
theorem spec_l2With.mono : ∀ a0 a1 a2 k, LeO (spec_l2With.f k a0 a1 a2) (spec_l2With.f (k + 1) a0 a1 a2) := by
 intro a0 a1 a2 k
 have ih0 := spec_l2With.mono_l k
 unfold spec_l2With.f
 repeat' first
   | (with_reducible exact ih0 _ _ _ _)
   | (with_reducible exact LeO.refl _)
   | (with_reducible exact LeO.none _)
   | (with_reducible refine LeO.ite ?_ ?_)
   | (with_reducible refine LeO.bind ?_ (fun _ => ?_))
   | exact ih0 _ _ _ _
   | exact LeO.none _
   | refine LeO.ite ?_ ?_
   | refine LeO.bind ?_ (fun _ => ?_)
def spec_l2With.T4 : Bool × List (List Nat × List Nat) := (true, [([], []), ([0], [0]), ([], []), ([], []), ([2, 3], [2, 3]), ([4], [4]), ([5], [5]), ([1, 6], [1, 6]), ([], []), ([8], [8]), ([], []), ([], []), ([10, 11], [10, 11]), ([12], [12]), ([13], [13]), ([], []), ([], []), ([15, 16], [15, 16]), ([17], [17]), ([18], [18]), ([14, 19], [14, 19]), ([9, 20], [9, 20]), ([7, 21], [7, 21]), ([22, 0, 1, 2, 3, 4, 5, 6, 7, 8, 9, 10, 11, 12, 13, 14, 15, 16, 17, 18, 19, 20, 21, 22], [22])])
def spec_l2With.B4 : List Nat := [0, 1, 0, 0, 12, 28, 60, 127, 0, 256, 0, 0, 3072, 7168, 15360, 0, 0, 98304, 229376, 491520, 1047552, 2096896, 4194303, 8388607]
theorem spec_l2With.tab4 : rtab .any (opsOf Try.f34 4) = spec_l2With.T4 := by kernel_rfl
theorem spec_l2With.bits4 : waitsOk spec_l2With.T4.2 spec_l2With.B4 = true := by kernel_rfl
set_option maxHeartbeats 8000000 in
set_option maxRecDepth 100000 in
theorem spec_l2With.calls (k : Nat) (a0_0 : Int) (a0_1 : Int) (A1 : Option Addr) (c1 : Nat) (l1 : List (S60)) (r1 : Int) (r2 : Int) (w : World) (hr1 : Kd.C k60 w A1 l1.length l1) (hc1 : l1.length ≤ c1) (h : spec_l2With.f k a0_0 a0_1 l1 = some (r1, r2)) :
  Calls Try.prog 34 #[.agg #[.int .i64 a0_0, .int .i64 a0_1], .slice A1 l1.length c1] w fun e w' => e = .returned (.agg #[.int .i64 r1, .int .i64 r2]) ∧ Below w.heap.size w w' := by
 have hu35 := Try.underlying35
 have HR1 := mk_ hr1; have HC1 := mk_ hc1; clear hr1 hc1; have HB := mk_ (Below.refl w.heap.size w)
 have H : (spec_l2With.l0 k l1 0 a0_0 a0_1) = some (r1, r2) := h
 clear h
 have H' := mk_ H
 clear H
 go_enter Try.func34, Try.ntmps34
 go_wp2_with (first | ((with_reducible refine gd_ 2 rfl ?_); refine box_event ?hg (N := 2) ?hd (cs := #[.int .i64 a0_0, .int .i64 a0_1]) (t := 35) ?hr ?_; (case hd => rfl); (case hg => rfl); (case hr => exact hr_); intro gb161 hg w3 hbox hb; have BK161 := mk_ (hbox); have GW161 := gb_ hg HB; replace HB := bp_ HB hb; have GE161 := GW161; clear hb hbox hg) | ((with_reducible refine gd_ 4 rfl ?_); refine box_event ?hg (N := 4) ?hd (cs := #[.int .i64 0, .int .i64 0]) (t := 35) ?hr ?_; (case hd => rfl); (case hg => rfl); (case hr => exact hr_); intro gb162 hg w4 hbox hb; have BK162 := mk_ (hbox); have GW162 := gb_ hg HB; replace HB := bp_ HB hb; have GE162 := GW162; have NB161_162 := nb_ hg BK161; replace BK161 := bl_ BK161 hb; have NB162_161 := ns_ NB161_162; clear hb hbox hg))
 go_loopg [5] k (fun kq v5 w' => ∃ (x5_1 : Int) (x162000_1 : Int) (x162001_1 : Int), v5 = .int .i64 x5_1 ∧ Aside0 (spec_l2With.l0 kq l1 x5_1 x162000_1 x162001_1 = some (r1, r2)) ∧ Aside0 (kq ≤ k) ∧ Aside0 (w'.heap[gb161]? = some (.cells #[.int .i64 x162000_1, .int .i64 x162001_1] 35 (0, 0))) ∧ Aside0 (w'.heap[gb162]? = some (.cells #[.int .i64 0, .int .i64 0] 35 (0, 0))) ∧ Aside0 (Below w.heap.size w w'))
 case atStart => exact ⟨(0), (a0_0), (a0_1), rf_, H', ⟨Nat.le_refl _⟩, bw_ BK161, bw_ BK162, ⟨hw_ HB⟩⟩
 case round =>
  clear H'; (try clear c1)
  obtain ⟨x5_1, x162000_1, x162001_1, rfl, HA, HK1, BK161, BK162, HB⟩ := hrel
  cases gk with
  | zero => exact absurd HA.out (by simp [spec_l2With.l0])
  | succ k1 =>
   have H := HA.out; clear HA
   simp only [spec_l2With.l0] at H
   by_cases c5 : x5_1 < (l1.length : Int)
   ·rw [if_pos c5] at H; have c5b0 : decide (x5_1 < (l1.length : Int)) = true := decide_eq_true c5; clear c5; by_cases c6 : 0 ≤ x5_1
    ·rw [if_pos c6] at H; have c6b0 : decide (0 ≤ x5_1) = true := decide_eq_true c6; clear c6
     have H' := mk_ H
     clear H
     try go_wp2
     replace BK161 := dB_ BK161; replace BK162 := dB_ BK162; replace HB := dH_ HB
     have p163 : 0 ≤ (x5_1 : Int) := od_
     have q163 : x5_1 < (l1.length : Int) := od_
     obtain ⟨ad163, e163, hx163_0, hx163_1⟩ := at_T60 HR1.out x5_1 p163 q163
     have hw163_1 := hx163_1
     have hw163_0 := hx163_0
     cases e163
     replace hx163_0 := (HB.out.cell (World.block_lt_of_cell? w _ hx163_0)).trans hx163_0
     replace hx163_1 := (HB.out.cell (World.block_lt_of_cell? w _ hx163_1)).trans hx163_1
     replace p163 := eq_true p163; replace q163 := eq_true q163
     have p164 : 0 ≤ (x5_1 : Int) := od_
     have q164 : x5_1 < (l1.length : Int) := od_
     obtain ⟨ad164, e164, hx164_0, hx164_1⟩ := at_T60 HR1.out x5_1 p164 q164
     have hw164_1 := hx164_1
     have hw164_0 := hx164_0
     obtain rfl : ad163 = ad164 := (by injection e164)
     replace hx164_0 := (HB.out.cell (World.block_lt_of_cell? w _ hx164_0)).trans hx164_0
     replace hx164_1 := (HB.out.cell (World.block_lt_of_cell? w _ hx164_1)).trans hx164_1
     replace p164 := eq_true p164; replace q164 := eq_true q164
     have p165 : 0 ≤ (x5_1 : Int) := od_
     have q165 : x5_1 < (l1.length : Int) := od_
     obtain ⟨ad165, e165, hx165_0, hx165_1⟩ := at_T60 HR1.out x5_1 p165 q165
     have hw165_1 := hx165_1
     have hw165_0 := hx165_0
     obtain rfl : ad163 = ad165 := (by injection e165)
     replace hx165_0 := (HB.out.cell (World.block_lt_of_cell? w _ hx165_0)).trans hx165_0
     replace hx165_1 := (HB.out.cell (World.block_lt_of_cell? w _ hx165_1)).trans hx165_1
     replace p165 := eq_true p165; replace q165 := eq_true q165
     refine start_ (n := 24) (S := fun w' => w'.cell? ⟨gb161, 0, none⟩ = some (.int .i64 x162000_1) ∧ w'.cell? ⟨gb161, 1, none⟩ = some (.int .i64 x162001_1) ∧ w'.cell? (ad163.add ((x5_1).toNat * 2)) = some (.int .i64 ((rd_T60 l1 x5_1).f0)) ∧ w'.cell? ⟨(ad163.add ((x5_1).toNat * 2)).block, (ad163.add ((x5_1).toNat * 2)).off + 1, none⟩ = some (.int .i64 ((rd_T60 l1 x5_1).f1)) ∧ w'.cell? (ad163.add ((x5_1).toNat * 2)) = some (.int .i64 ((rd_T60 l1 x5_1).f0)) ∧ w'.cell? ⟨(ad163.add ((x5_1).toNat * 2)).block, (ad163.add ((x5_1).toNat * 2)).off + 1, none⟩ = some (.int .i64 ((rd_T60 l1 x5_1).f1)) ∧ w'.cell? (ad163.add ((x5_1).toNat * 2)) = some (.int .i64 ((rd_T60 l1 x5_1).f0)) ∧ w'.cell? ⟨(ad163.add ((x5_1).toNat * 2)).block, (ad163.add ((x5_1).toNat * 2)).off + 1, none⟩ = some (.int .i64 ((rd_T60 l1 x5_1).f1))) (ds := [23]) (bs_ 24 0) (by kernel_rfl) rfl (by kernel_rfl) ⟨bc0_ BK161, bc1_ BK161, ((HB.out.cell (World.block_lt_of_cell? w _ hw163_0)).trans hw163_0), ((HB.out.cell (World.block_lt_of_cell? w _ hw163_1)).trans hw163_1), ((HB.out.cell (World.block_lt_of_cell? w _ hw164_0)).trans hw164_0), ((HB.out.cell (World.block_lt_of_cell? w _ hw164_1)).trans hw164_1), ((HB.out.cell (World.block_lt_of_cell? w _ hw165_0)).trans hw165_0), ((HB.out.cell (World.block_lt_of_cell? w _ hw165_1)).trans hw165_1)⟩ (fun hHeld => ?_); refine with_tabW spec_l2With.tab4 spec_l2With.bits4 (fun HT_ HW_ => ?_)
     generalize wr.drew = w7 at BK161 BK162 HB hx163_0 hx163_1 hx164_0 hx164_1 hx165_0 hx165_1 hHeld ⊢
     refine pu_ HT_ 0 12 (bs_ 24 1) ?_; refine pu_ HT_ 2 14 (bs_ 24 5) ?_; refine pu_ HT_ 3 15 (bs_ 24 13) ?_; refine pu_ HT_ 4 16 (bs_ 24 29) ?_; refine pu_ HT_ 5 17 (bs_ 24 61) ?_; refine pu_ HT_ 8 20 (bs_ 24 317) ?_; refine pu_ HT_ 10 22 (bs_ 24 1341) ?_; refine pu_ HT_ 11 23 (bs_ 24 3389) ?_; refine pu_ HT_ 12 24 (bs_ 24 7485) ?_; refine pu_ HT_ 13 25 (bs_ 24 15677) ?_; refine pu_ HT_ 15 27 (bs_ 24 48445) ?_; refine pu_ HT_ 16 28 (bs_ 24 113981) ?_; refine pu_ HT_ 17 29 (bs_ 24 245053) ?_; refine pu_ HT_ 18 30 (bs_ 24 507197) ?_; refine tk_ HT_ HW_ 1 13 (bs_ 24 507199) hHeld ?_; refine tk_ HT_ HW_ 6 18 (bs_ 24 507263) hHeld ?_; refine pu_ HT_ 7 19 (bs_ 24 507391) ?_; refine tk_ HT_ HW_ 9 21 (bs_ 24 507903) hHeld ?_; refine tk_ HT_ HW_ 14 26 (bs_ 24 524287) hHeld ?_; refine tk_ HT_ HW_ 19 31 (bs_ 24 1048575) hHeld ?_; refine pu_ HT_ 20 32 (bs_ 24 2097151) ?_; refine pu_ HT_ 21 33 (bs_ 24 4194303) ?_; refine pu_ HT_ 22 34 (bs_ 24 8388607) ?_
     refine last_ (i := 23) (N := none) (bs_ 24 16777215) rfl rfl (one_of HT_.out (by kernel_rfl)) (by decide) (fun K hK => ?_)
     have hs8 : w7.cell? ⟨gb161, 0, none⟩ = some (.int .i64 x162000_1) := bc0_ BK161
     have hfs8 := blk_frozen BK161.out 0
     have hns8_1 := NB162_161.out; have hms8_1 := NB161_162.out
     have hs9 : w7.cell? ⟨gb161, 1, none⟩ = some (.int .i64 x162001_1) := bc1_ BK161
     have hfs9 := blk_frozen BK161.out 1
     have hns9_1 := NB162_161.out; have hms9_1 := NB161_162.out
     refine skip_ (w1 := ?_) (by rfl) rfl ?_ ?_
     rotate_left
     ·go_simp
      rfl
     refine hK.out _ _ ?_
     clear hK K
     refine done_ (done_of HT_.out (by kernel_rfl)) ?_
     try go_wp2
     go_roundg k1
     case measure => have := HK1.out; omega
     case rel => exact ⟨(wrap64 (x5_1 + 1)), (wrap64 (x162000_1 + ((rd_T60 l1 x5_1).f0))), (wrap64 (x162001_1 + (wrap64 (((rd_T60 l1 x5_1).f0) * ((rd_T60 l1 x5_1).f1))))), rf_, H', ⟨by have := HK1.out; omega⟩, ⟨by (with_reducible repeat (first | refine blk_drewN ?_ _ | refine blk_drew ?_ | refine blk_alloc ?_ _)); refine blk_put (cs := #[.int .i64 (wrap64 (x162000_1 + ((rd_T60 l1 x5_1).f0))), .int .i64 x162001_1]) ?_ 1 _ rfl; (with_reducible repeat (first | refine blk_drewN ?_ _ | refine blk_drew ?_ | refine blk_alloc ?_ _)); refine blk_put (cs := #[.int .i64 x162000_1, .int .i64 x162001_1]) ?_ 0 _ rfl; (with_reducible repeat (first | refine blk_drewN ?_ _ | refine blk_drew ?_ | refine blk_alloc ?_ _)); exact BK161.out⟩, ⟨by (with_reducible repeat (first | refine blk_drewN ?_ _ | refine blk_drew ?_ | refine blk_alloc ?_ _)); refine blk_far ?_ NB162_161.out _; (with_reducible repeat (first | refine blk_drewN ?_ _ | refine blk_drew ?_ | refine blk_alloc ?_ _)); refine blk_far ?_ NB162_161.out _; (with_reducible repeat (first | refine blk_drewN ?_ _ | refine blk_drew ?_ | refine blk_alloc ?_ _)); exact BK162.out⟩, ⟨by repeat (first | (with_reducible first | exact HB.out | apply below_alloc | apply pw_below_drewN | apply below_drew1 | refine below_set ?_ GE161.out) | exact HB.out)⟩⟩
    ·rw [if_neg c6] at H
     exact absurd H (by simp)
   ·rw [if_neg c5] at H; have c5b0 : decide (x5_1 < (l1.length : Int)) = false := decide_eq_false c5; clear c5
    simp only [Option.some.injEq, Prod.mk.injEq] at H
    obtain ⟨rfl, rfl⟩ := H; have hnb10 := NB161_162.out
    have hnc10 := NB162_161.out; have hcz11_0 := bc0_ BK161
    have hcz11_1 := bc1_ BK161; have hfz11_0 := bf_ BK161 0; have hfz11_1 := bf_ BK161 1; have hcz12_0 := bc0_ BK162; have hcz12_1 := bc1_ BK162; have hfz12_0 := bf_ BK162 0; have hfz12_1 := bf_ BK162 1; go_wp2
    refine bodyPost_ret (results_cell_row rfl _ _ gb162 35 #[.int .i64 x162000_1, .int .i64 x162001_1] (0, 0) _ rfl (by (with_reducible repeat (first | refine blk_drewN ?_ _ | refine blk_drew ?_ | refine blk_alloc ?_ _)); refine blk_put (cs := #[.int .i64 x162000_1, .int .i64 0]) ?_ 1 _ rfl; (with_reducible repeat (first | refine blk_drewN ?_ _ | refine blk_drew ?_ | refine blk_alloc ?_ _)); refine blk_put (cs := #[.int .i64 0, .int .i64 0]) ?_ 0 _ rfl; (with_reducible repeat (first | refine blk_drewN ?_ _ | refine blk_drew ?_ | refine blk_alloc ?_ _)); exact BK162.out) Try.underlying35 rfl (by kernel_rfl)) rfl ?_
    exact ⟨re_, by repeat (first | (with_reducible first | exact HB.out | apply below_alloc | apply pw_below_drewN | apply below_drew1 | refine below_set ?_ GE162.out) | exact HB.out)⟩

end Go.Proofs.Yteedbciobdcmaaa.QFnExactLeaves
-- squeezed
