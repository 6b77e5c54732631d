/- Lean functions that tell what the Go functions used by one law answer, and for each a proof that the Go code comes to just these answers; no condition. Printed by this session's own program over the kit's printer. -/
import Derived.Test.YteedbciobdcmaaaWSq
import Derived.Test.YteedbciobdcmaaaQFnExactOrderx0
import Derived.Test.YteedbciobdcmaaaQFnExactOrderx2
namespace Go.Proofs.Yteedbciobdcmaaa.QFnExactOrder
open Go.RowKit Go.Proofs.YteedbciobdcmaaaW.PrintWords Go.Proofs.YteedbciobdcmaaaW.PrintLast Go.Proofs.YteedbciobdcmaaaW.PrintMore
attribute [local go_sem] max2_int min2_int max_two min_two max_three min_three max_four min_four   -- for this text's walks alone
attribute [local go_sem high] go_eql go_neq go_lss go_leq go_gtr go_geq go_store   -- for this text's walks alone
set_option linter.unusedVariables false
set_option linter.unusedSimpArgs false

/-! ### spec_l2With: function 34 -/
def spec_l2With.l0 : Nat → List (S60) → Int → Int → Int → Option (Int × Int)
 | 0, _, _, _, _ => none
 | k + 1, x1, x5, x188000, x188001 => if x5 < (x1.length : Int) then (if 0 ≤ x5 then (spec_l2With.l0 k x1 (wrap64 (x5 + 1)) (wrap64 (x188000 + ((rd_T60 x1 x5).f0))) (wrap64 (x188001 + (wrap64 (((rd_T60 x1 x5).f0) * ((rd_T60 x1 x5).f1)))))) else (none)) else (some (x188000, x188001))
def spec_l2With.f (k : Nat) (a0_0 : Int) (a0_1 : Int) (l1 : List (S60)) : Option (Int × Int) := spec_l2With.l0 k l1 0 a0_0 a0_1
theorem spec_l2With.mono_l : ∀ k, (∀ y0 y1 y2 y3, LeO (spec_l2With.l0 k y0 y1 y2 y3) (spec_l2With.l0 (k + 1) y0 y1 y2 y3))
 | 0 => fun _ _ _ _ r h => by simp [spec_l2With.l0] at h
 | k + 1 => by
  have ih0 := spec_l2With.mono_l k
  ·intro y0 y1 y2 y3
   unfold spec_l2With.l0
   repeat' first
   | (with_reducible exact ih0 _ _ _ _)
   | (with_reducible exact LeO.refl _)
   | (with_reducible exact LeO.none _)
   | (with_reducible refine LeO.ite ?_ ?_)
   | (with_reducible refine LeO.bind ?_ (fun _ => ?_))
   | exact ih0 _ _ _ _
   | exact LeO.none _
   | refine LeO.ite ?_ ?_
   | refine LeO.bind ?_ (fun _ => ?_)
theorem spec_l2With.mono : ∀ a0 a1 a2 k, LeO (spec_l2With.f k a0 a1 a2) (spec_l2With.f (k + 1) a0 a1 a2) := by
 intro a0 a1 a2 k
 have ih0 := spec_l2With.mono_l k
 unfold spec_l2With.f
 repeat' first
   | (with_reducible exact ih0 _ _ _ _)
   | (with_reducible exact LeO.refl _)
   | (with_reducible exact LeO.none _)
   | (with_reducible refine LeO.ite ?_ ?_)
   | (with_reducible refine LeO.bind ?_ (fun _ => ?_))
   | exact ih0 _ _ _ _
   | exact LeO.none _
   | refine LeO.ite ?_ ?_
   | refine LeO.bind ?_ (fun _ => ?_)
def spec_l2With.T4 : Bool × List (List Nat × List Nat) := (true, [([], []), ([0], [0]), ([], []), ([], []), ([2, 3], [2, 3]), ([4], [4]), ([5], [5]), ([1, 6], [1, 6]), ([], []), ([8], [8]), ([], []), ([], []), ([10, 11], [10, 11]), ([12], [12]), ([13], [13]), ([], []), ([], []), ([15, 16], [15, 16]), ([17], [17]), ([18], [18]), ([14, 19], [14, 19]), ([9, 20], [9, 20]), ([7, 21], [7, 21]), ([22, 0, 1, 2, 3, 4, 5, 6, 7, 8, 9, 10, 11, 12, 13, 14, 15, 16, 17, 18, 19, 20, 21, 22], [22])])
def spec_l2With.B4 : List Nat := [0, 1, 0, 0, 12, 28, 60, 127, 0, 256, 0, 0, 3072, 7168, 15360, 0, 0, 98304, 229376, 491520, 1047552, 2096896, 4194303, 8388607]
theorem spec_l2With.tab4 : rtab .any (opsOf Try.f34 4) = spec_l2With.T4 := by kernel_rfl
theorem spec_l2With.bits4 : waitsOk spec_l2With.T4.2 spec_l2With.B4 = true := by kernel_rfl
set_option maxHeartbeats 8000000 in
set_option maxRecDepth 100000 in
theorem spec_l2With.calls (k : Nat) (a0_0 : Int) (a0_1 : Int) (A1 : Option Addr) (c1 : Nat) (l1 : List (S60)) (r1 : Int) (r2 : Int) (w : World) (hr1 : Kd.C k60 w A1 l1.length l1) (hc1 : l1.length ≤ c1) (h : spec_l2With.f k a0_0 a0_1 l1 = some (r1, r2)) :
  Calls Try.prog 34 #[.agg #[.int .i64 a0_0, .int .i64 a0_1], .slice A1 l1.length c1] w fun e w' => e = .returned (.agg #[.int .i64 r1, .int .i64 r2]) ∧ Below w.heap.size w w' := by
 have hu35 := Try.underlying35
 have HR1 := mk_ hr1; have HC1 := mk_ hc1; clear hr1 hc1; have HB := mk_ (Below.refl w.heap.size w)
 have H : (spec_l2With.l0 k l1 0 a0_0 a0_1) = some (r1, r2) := h
 clear h
 have H' := mk_ H
 clear H
 go_enter Try.func34, Try.ntmps34
 go_wp2_with (first | ((with_reducible refine gd_ 2 rfl ?_); refine box_event ?hg (N := 2) ?hd (cs := #[.int .i64 a0_0, .int .i64 a0_1]) (t := 35) ?hr ?_; (case hd => rfl); (case hg => rfl); (case hr => exact hr_); intro gb187 hg w3 hbox hb; have BK187 := mk_ (hbox); have GW187 := gb_ hg HB; replace HB := bp_ HB hb; have GE187 := GW187; clear hb hbox hg) | ((with_reducible refine gd_ 4 rfl ?_); refine box_event ?hg (N := 4) ?hd (cs := #[.int .i64 0, .int .i64 0]) (t := 35) ?hr ?_; (case hd => rfl); (case hg => rfl); (case hr => exact hr_); intro gb188 hg w4 hbox hb; have BK188 := mk_ (hbox); have GW188 := gb_ hg HB; replace HB := bp_ HB hb; have GE188 := GW188; have NB187_188 := nb_ hg BK187; replace BK187 := bl_ BK187 hb; have NB188_187 := ns_ NB187_188; clear hb hbox hg))
 go_loopg [5] k (fun kq v5 w' => ∃ (x5_1 : Int) (x188000_1 : Int) (x188001_1 : Int), v5 = .int .i64 x5_1 ∧ Aside0 (spec_l2With.l0 kq l1 x5_1 x188000_1 x188001_1 = some (r1, r2)) ∧ Aside0 (kq ≤ k) ∧ Aside0 (w'.heap[gb187]? = some (.cells #[.int .i64 x188000_1, .int .i64 x188001_1] 35 (0, 0))) ∧ Aside0 (w'.heap[gb188]? = some (.cells #[.int .i64 0, .int .i64 0] 35 (0, 0))) ∧ Aside0 (Below w.heap.size w w'))
 case atStart => exact ⟨(0), (a0_0), (a0_1), rf_, H', ⟨Nat.le_refl _⟩, bw_ BK187, bw_ BK188, ⟨hw_ HB⟩⟩
 case round =>
  clear H'; (try clear c1)
  obtain ⟨x5_1, x188000_1, x188001_1, rfl, HA, HK1, BK187, BK188, HB⟩ := hrel
  cases gk with
  | zero => exact absurd HA.out (by simp [spec_l2With.l0])
  | succ k1 =>
   have H := HA.out; clear HA
   simp only [spec_l2With.l0] at H
   by_cases c5 : x5_1 < (l1.length : Int)
   ·rw [if_pos c5] at H; have c5b0 : decide (x5_1 < (l1.length : Int)) = true := decide_eq_true c5; clear c5; by_cases c6 : 0 ≤ x5_1
    ·rw [if_pos c6] at H; have c6b0 : decide (0 ≤ x5_1) = true := decide_eq_true c6; clear c6
     have H' := mk_ H
     clear H
     try go_wp2
     replace BK187 := dB_ BK187; replace BK188 := dB_ BK188; replace HB := dH_ HB
     have p189 : 0 ≤ (x5_1 : Int) := od_
     have q189 : x5_1 < (l1.length : Int) := od_
     obtain ⟨ad189, e189, hx189_0, hx189_1⟩ := at_T60 HR1.out x5_1 p189 q189
     have hw189_1 := hx189_1
     have hw189_0 := hx189_0
     cases e189
     replace hx189_0 := (HB.out.cell (World.block_lt_of_cell? w _ hx189_0)).trans hx189_0
     replace hx189_1 := (HB.out.cell (World.block_lt_of_cell? w _ hx189_1)).trans hx189_1
     replace p189 := eq_true p189; replace q189 := eq_true q189
     have p190 : 0 ≤ (x5_1 : Int) := od_
     have q190 : x5_1 < (l1.length : Int) := od_
     obtain ⟨ad190, e190, hx190_0, hx190_1⟩ := at_T60 HR1.out x5_1 p190 q190
     have hw190_1 := hx190_1
     have hw190_0 := hx190_0
     obtain rfl : ad189 = ad190 := (by injection e190)
     replace hx190_0 := (HB.out.cell (World.block_lt_of_cell? w _ hx190_0)).trans hx190_0
     replace hx190_1 := (HB.out.cell (World.block_lt_of_cell? w _ hx190_1)).trans hx190_1
     replace p190 := eq_true p190; replace q190 := eq_true q190
     have p191 : 0 ≤ (x5_1 : Int) := od_
     have q191 : x5_1 < (l1.length : Int) := od_
     obtain ⟨ad191, e191, hx191_0, hx191_1⟩ := at_T60 HR1.out x5_1 p191 q191
     have hw191_1 := hx191_1
     have hw191_0 := hx191_0
     obtain rfl : ad189 = ad191 := (by injection e191)
     replace hx191_0 := (HB.out.cell (World.block_lt_of_cell? w _ hx191_0)).trans hx191_0
     replace hx191_1 := (HB.out.cell (World.block_lt_of_cell? w _ hx191_1)).trans hx191_1
     replace p191 := eq_true p191; replace q191 := eq_true q191
     refine start_ (n := 24) (S := fun w' => w'.cell? ⟨gb187, 0, none⟩ = some (.int .i64 x188000_1) ∧ w'.cell? ⟨gb187, 1, none⟩ = some (.int .i64 x188001_1) ∧ w'.cell? (ad189.add ((x5_1).toNat * 2)) = some (.int .i64 ((rd_T60 l1 x5_1).f0)) ∧ w'.cell? ⟨(ad189.add ((x5_1).toNat * 2)).block, (ad189.add ((x5_1).toNat * 2)).off + 1, none⟩ = some (.int .i64 ((rd_T60 l1 x5_1).f1)) ∧ w'.cell? (ad189.add ((x5_1).toNat * 2)) = some (.int .i64 ((rd_T60 l1 x5_1).f0)) ∧ w'.cell? ⟨(ad189.add ((x5_1).toNat * 2)).block, (ad189.add ((x5_1).toNat * 2)).off + 1, none⟩ = some (.int .i64 ((rd_T60 l1 x5_1).f1)) ∧ w'.cell? (ad189.add ((x5_1).toNat * 2)) = some (.int .i64 ((rd_T60 l1 x5_1).f0)) ∧ w'.cell? ⟨(ad189.add ((x5_1).toNat * 2)).block, (ad189.add ((x5_1).toNat * 2)).off + 1, none⟩ = some (.int .i64 ((rd_T60 l1 x5_1).f1))) (ds := [23]) (bs_ 24 0) (by kernel_rfl) rfl (by kernel_rfl) ⟨bc0_ BK187, bc1_ BK187, ((HB.out.cell (World.block_lt_of_cell? w _ hw189_0)).trans hw189_0), ((HB.out.cell (World.block_lt_of_cell? w _ hw189_1)).trans hw189_1), ((HB.out.cell (World.block_lt_of_cell? w _ hw190_0)).trans hw190_0), ((HB.out.cell (World.block_lt_of_cell? w _ hw190_1)).trans hw190_1), ((HB.out.cell (World.block_lt_of_cell? w _ hw191_0)).trans hw191_0), ((HB.out.cell (World.block_lt_of_cell? w _ hw191_1)).trans hw191_1)⟩ (fun hHeld => ?_); refine with_tabW spec_l2With.tab4 spec_l2With.bits4 (fun HT_ HW_ => ?_)
     generalize wr.drew = w7 at BK187 BK188 HB hx189_0 hx189_1 hx190_0 hx190_1 hx191_0 hx191_1 hHeld ⊢
     refine pu_ HT_ 0 12 (bs_ 24 1) ?_; refine pu_ HT_ 2 14 (bs_ 24 5) ?_; refine pu_ HT_ 3 15 (bs_ 24 13) ?_; refine pu_ HT_ 4 16 (bs_ 24 29) ?_; refine pu_ HT_ 5 17 (bs_ 24 61) ?_; refine pu_ HT_ 8 20 (bs_ 24 317) ?_; refine pu_ HT_ 10 22 (bs_ 24 1341) ?_; refine pu_ HT_ 11 23 (bs_ 24 3389) ?_; refine pu_ HT_ 12 24 (bs_ 24 7485) ?_; refine pu_ HT_ 13 25 (bs_ 24 15677) ?_; refine pu_ HT_ 15 27 (bs_ 24 48445) ?_; refine pu_ HT_ 16 28 (bs_ 24 113981) ?_; refine pu_ HT_ 17 29 (bs_ 24 245053) ?_; refine pu_ HT_ 18 30 (bs_ 24 507197) ?_; refine tk_ HT_ HW_ 1 13 (bs_ 24 507199) hHeld ?_; refine tk_ HT_ HW_ 6 18 (bs_ 24 507263) hHeld ?_; refine pu_ HT_ 7 19 (bs_ 24 507391) ?_; refine tk_ HT_ HW_ 9 21 (bs_ 24 507903) hHeld ?_; refine tk_ HT_ HW_ 14 26 (bs_ 24 524287) hHeld ?_; refine tk_ HT_ HW_ 19 31 (bs_ 24 1048575) hHeld ?_; refine pu_ HT_ 20 32 (bs_ 24 2097151) ?_; refine pu_ HT_ 21 33 (bs_ 24 4194303) ?_; refine pu_ HT_ 22 34 (bs_ 24 8388607) ?_
     refine last_ (i := 23) (N := none) (bs_ 24 16777215) rfl rfl (one_of HT_.out (by kernel_rfl)) (by decide) (fun K hK => ?_)
     have hs8 : w7.cell? ⟨gb187, 0, none⟩ = some (.int .i64 x188000_1) := bc0_ BK187
     have hfs8 := blk_frozen BK187.out 0
     have hns8_1 := NB188_187.out; have hms8_1 := NB187_188.out
     have hs9 : w7.cell? ⟨gb187, 1, none⟩ = some (.int .i64 x188001_1) := bc1_ BK187
     have hfs9 := blk_frozen BK187.out 1
     have hns9_1 := NB188_187.out; have hms9_1 := NB187_188.out
     refine skip_ (w1 := ?_) (by rfl) rfl ?_ ?_
     rotate_left
     ·go_simp
      rfl
     refine hK.out _ _ ?_
     clear hK K
     refine done_ (done_of HT_.out (by kernel_rfl)) ?_
     try go_wp2
     go_roundg k1
     case measure => have := HK1.out; omega
     case rel => exact ⟨(wrap64 (x5_1 + 1)), (wrap64 (x188000_1 + ((rd_T60 l1 x5_1).f0))), (wrap64 (x188001_1 + (wrap64 (((rd_T60 l1 x5_1).f0) * ((rd_T60 l1 x5_1).f1))))), rf_, H', ⟨by have := HK1.out; omega⟩, ⟨by (with_reducible repeat (first | refine blk_drewN ?_ _ | refine blk_drew ?_ | refine blk_alloc ?_ _)); refine blk_put (cs := #[.int .i64 (wrap64 (x188000_1 + ((rd_T60 l1 x5_1).f0))), .int .i64 x188001_1]) ?_ 1 _ rfl; (with_reducible repeat (first | refine blk_drewN ?_ _ | refine blk_drew ?_ | refine blk_alloc ?_ _)); refine blk_put (cs := #[.int .i64 x188000_1, .int .i64 x188001_1]) ?_ 0 _ rfl; (with_reducible repeat (first | refine blk_drewN ?_ _ | refine blk_drew ?_ | refine blk_alloc ?_ _)); exact BK187.out⟩, ⟨by (with_reducible repeat (first | refine blk_drewN ?_ _ | refine blk_drew ?_ | refine blk_alloc ?_ _)); refine blk_far ?_ NB188_187.out _; (with_reducible repeat (first | refine blk_drewN ?_ _ | refine blk_drew ?_ | refine blk_alloc ?_ _)); refine blk_far ?_ NB188_187.out _; (with_reducible repeat (first | refine blk_drewN ?_ _ | refine blk_drew ?_ | refine blk_alloc ?_ _)); exact BK188.out⟩, ⟨by repeat (first | (with_reducible first | exact HB.out | apply below_alloc | apply pw_below_drewN | apply below_drew1 | refine below_set ?_ GE187.out) | exact HB.out)⟩⟩
    ·rw [if_neg c6] at H
     exact absurd H (by simp)
   ·rw [if_neg c5] at H; have c5b0 : decide (x5_1 < (l1.length : Int)) = false := decide_eq_false c5; clear c5
    simp only [Option.some.injEq, Prod.mk.injEq] at H
    obtain ⟨rfl, rfl⟩ := H; have hnb10 := NB187_188.out
    have hnc10 := NB188_187.out; have hcz11_0 := bc0_ BK187
    have hcz11_1 := bc1_ BK187; have hfz11_0 := bf_ BK187 0; have hfz11_1 := bf_ BK187 1; have hcz12_0 := bc0_ BK188; have hcz12_1 := bc1_ BK188; have hfz12_0 := bf_ BK188 0; have hfz12_1 := bf_ BK188 1; go_wp2
    refine bodyPost_ret (results_cell_row rfl _ _ gb188 35 #[.int .i64 x188000_1, .int .i64 x188001_1] (0, 0) _ rfl (by (with_reducible repeat (first | refine blk_drewN ?_ _ | refine blk_drew ?_ | refine blk_alloc ?_ _)); refine blk_put (cs := #[.int .i64 x188000_1, .int .i64 0]) ?_ 1 _ rfl; (with_reducible repeat (first | refine blk_drewN ?_ _ | refine blk_drew ?_ | refine blk_alloc ?_ _)); refine blk_put (cs := #[.int .i64 0, .int .i64 0]) ?_ 0 _ rfl; (with_reducible repeat (first | refine blk_drewN ?_ _ | refine blk_drew ?_ | refine blk_alloc ?_ _)); exact BK188.out) Try.underlying35 rfl (by kernel_rfl)) rfl ?_
    exact ⟨re_, by repeat (first | (with_reducible first | exact HB.out | apply below_alloc | apply pw_below_drewN | apply below_drew1 | refine below_set ?_ GE188.out) | exact HB.out)⟩

/-! ### spec_l2Tanks: function 45 -/
def spec_l2Tanks.l0 : Nat → List (S60) → Int → Option (Bool)
 | 0, _, _ => none
 | k + 1, x0, x3 => if x3 < (x0.length : Int) then (if 0 ≤ x3 then ((spec_l1In.f ((rd_T60 x0 x3).f0) 0 10000).bind fun t193 => (if t193 = true then ((spec_l1In.f ((rd_T60 x0 x3).f1) (-1000) 1000).bind fun t195 => (if t195 = true then (spec_l2Tanks.l0 k x0 (wrap64 (x3 + 1))) else (some false))) else (some false))) else (none)) else (some (decide ((x0.length : Int) ≤ 8)))
def spec_l2Tanks.f (k : Nat) (l0 : List (S60)) : Option (Bool) := spec_l2Tanks.l0 k l0 0
theorem spec_l2Tanks.mono_l : ∀ k, (∀ y0 y1, LeO (spec_l2Tanks.l0 k y0 y1) (spec_l2Tanks.l0 (k + 1) y0 y1))
 | 0 => fun _ _ r h => by simp [spec_l2Tanks.l0] at h
 | k + 1 => by
  have ih0 := spec_l2Tanks.mono_l k
  ·intro y0 y1
   unfold spec_l2Tanks.l0
   repeat' first
   | (with_reducible exact ih0 _ _)
   | (with_reducible exact LeO.refl _)
   | (with_reducible exact LeO.none _)
   | (with_reducible refine LeO.ite ?_ ?_)
   | (with_reducible refine LeO.bind ?_ (fun _ => ?_))
   | exact ih0 _ _
   | exact LeO.none _
   | refine LeO.ite ?_ ?_
   | refine LeO.bind ?_ (fun _ => ?_)
theorem spec_l2Tanks.mono : ∀ a0 k, LeO (spec_l2Tanks.f k a0) (spec_l2Tanks.f (k + 1) a0) := by
 intro a0 k
 have ih0 := spec_l2Tanks.mono_l k
 unfold spec_l2Tanks.f
 repeat' first
   | (with_reducible exact ih0 _ _)
   | (with_reducible exact LeO.refl _)
   | (with_reducible exact LeO.none _)
   | (with_reducible refine LeO.ite ?_ ?_)
   | (with_reducible refine LeO.bind ?_ (fun _ => ?_))
   | exact ih0 _ _
   | exact LeO.none _
   | refine LeO.ite ?_ ?_
   | refine LeO.bind ?_ (fun _ => ?_)
set_option maxHeartbeats 8000000 in
set_option maxRecDepth 100000 in
theorem spec_l2Tanks.calls (k : Nat) (A0 : Option Addr) (c0 : Nat) (l0 : List (S60)) (r : Bool) (w : World) (hr0 : Kd.C k60 w A0 l0.length l0) (hc0 : l0.length ≤ c0) (h : spec_l2Tanks.f k l0 = some r) :
  Calls Try.prog 45 #[.slice A0 l0.length c0] w fun e w' => e = .returned (.bool r) ∧ Drawn0 w w' := by
 have HR0 := mk_ hr0; have HC0 := mk_ hc0; clear hr0 hc0
 have H : (spec_l2Tanks.l0 k l0 0) = some r := h
 clear h
 have H' := mk_ H
 clear H
 go_enter Try.func45, Try.ntmps45
 go_wp2
 go_loopg [3] k (fun kq v3 w' => ∃ (x3_1 : Int), v3 = .int .i64 x3_1 ∧ Aside0 (spec_l2Tanks.l0 kq l0 x3_1 = some r) ∧ Aside0 (kq ≤ k) ∧ Drawn0 w w')
 case atStart => exact ⟨(0), rf_, H', ⟨Nat.le_refl _⟩, by repeat (first | exact Drawn0.refl _ | apply Drawn0.step)⟩
 case round =>
  clear H'
  obtain ⟨x3_1, rfl, HA, HK1, ⟨m1, rfl⟩⟩ := hrel
  cases gk with
  | zero => exact absurd HA.out (by simp [spec_l2Tanks.l0])
  | succ k1 =>
   have H := HA.out; clear HA
   simp only [spec_l2Tanks.l0] at H
   by_cases c2 : x3_1 < (l0.length : Int)
   ·rw [if_pos c2] at H; have c2b0 : decide (x3_1 < (l0.length : Int)) = true := decide_eq_true c2; clear c2; by_cases c3 : 0 ≤ x3_1
    ·rw [if_pos c3] at H; have c3b0 : decide (0 ≤ x3_1) = true := decide_eq_true c3; clear c3; replace H := Option.bind_eq_some_iff.mp H; obtain ⟨t193, A40, H⟩ := H; (try dsimp only at H); have A4 := mk_ A40; clear A40; by_cases c5 : t193 = true
     ·subst c5; rw [if_pos rfl] at H
      replace H := Option.bind_eq_some_iff.mp H; obtain ⟨t195, A60, H⟩ := H
      (try dsimp only at H); have A6 := mk_ A60; clear A60
      by_cases c7 : t195 = true
      ·subst c7; rw [if_pos rfl] at H
       have H' := mk_ H
       clear H
       have p192 : 0 ≤ (x3_1 : Int) := od_
       have q192 : x3_1 < (l0.length : Int) := od_
       obtain ⟨ad192, e192, hx192_0, hx192_1⟩ := at_T60 HR0.out x3_1 p192 q192; cases e192; replace p192 := eq_true p192; replace q192 := eq_true q192
       go_wp2_with (first | ((with_reducible refine gc_ 46 rfl ?_); refine gl_ (some 15) rfl Try.func46 #[.int .i64 ((rd_T60 l0 x3_1).f0), .int .i64 0, .int .i64 10000] ?_; (with_reducible refine (spec_l1In.calls ((rd_T60 l0 x3_1).f0) 0 10000 true _ A4.out).mono ?_); rintro e w' ⟨rfl, ⟨nd, rfl⟩⟩; refine ⟨_, rfl, ?_⟩; have p194 : 0 ≤ (x3_1 : Int) := od_; have q194 : x3_1 < (l0.length : Int) := od_; obtain ⟨ad194, e194, hx194_0, hx194_1⟩ := at_T60 HR0.out x3_1 p194 q194; obtain rfl : ad192 = ad194 := (by injection e194); replace p194 := eq_true p194; replace q194 := eq_true q194) | (go_at_call 46; (with_reducible refine (spec_l1In.calls ((rd_T60 l0 x3_1).f1) (-1000) 1000 true _ A6.out).mono ?_); rintro e w' ⟨rfl, ⟨nd, rfl⟩⟩))
       go_roundg k1
       case measure => have := HK1.out; omega
       case rel => exact ⟨(wrap64 (x3_1 + 1)), rf_, H', ⟨by have := HK1.out; omega⟩, by repeat (first | exact Drawn0.refl _ | apply Drawn0.step)⟩
      ·replace c7 := Bool.eq_false_iff.mpr c7; subst c7; rw [if_neg (show ¬ (false = true) by decide)] at H; obtain rfl := Option.some.inj H
       have p192 : 0 ≤ (x3_1 : Int) := od_
       have q192 : x3_1 < (l0.length : Int) := od_
       obtain ⟨ad192, e192, hx192_0, hx192_1⟩ := at_T60 HR0.out x3_1 p192 q192; cases e192; replace p192 := eq_true p192; replace q192 := eq_true q192
       go_wp2_with (first | ((with_reducible refine gc_ 46 rfl ?_); refine gl_ (some 15) rfl Try.func46 #[.int .i64 ((rd_T60 l0 x3_1).f0), .int .i64 0, .int .i64 10000] ?_; (with_reducible refine (spec_l1In.calls ((rd_T60 l0 x3_1).f0) 0 10000 true _ A4.out).mono ?_); rintro e w' ⟨rfl, ⟨nd, rfl⟩⟩; refine ⟨_, rfl, ?_⟩; have p194 : 0 ≤ (x3_1 : Int) := od_; have q194 : x3_1 < (l0.length : Int) := od_; obtain ⟨ad194, e194, hx194_0, hx194_1⟩ := at_T60 HR0.out x3_1 p194 q194; obtain rfl : ad192 = ad194 := (by injection e194); replace p194 := eq_true p194; replace q194 := eq_true q194) | (go_at_call 46; (with_reducible refine (spec_l1In.calls ((rd_T60 l0 x3_1).f1) (-1000) 1000 false _ A6.out).mono ?_); rintro e w' ⟨rfl, ⟨nd, rfl⟩⟩))
       go_ret
       exact ⟨by first | rfl | (simp; done) | (simp [*]; done), by repeat (first | exact Drawn0.refl _ | apply Drawn0.step)⟩
     ·replace c5 := Bool.eq_false_iff.mpr c5; subst c5; rw [if_neg (show ¬ (false = true) by decide)] at H; obtain rfl := Option.some.inj H
      have p192 : 0 ≤ (x3_1 : Int) := od_
      have q192 : x3_1 < (l0.length : Int) := od_
      obtain ⟨ad192, e192, hx192_0, hx192_1⟩ := at_T60 HR0.out x3_1 p192 q192; cases e192; replace p192 := eq_true p192; replace q192 := eq_true q192
      go_wp2_with (first | ((with_reducible refine gc_ 46 rfl ?_); refine gl_ (some 15) rfl Try.func46 #[.int .i64 ((rd_T60 l0 x3_1).f0), .int .i64 0, .int .i64 10000] ?_; (with_reducible refine (spec_l1In.calls ((rd_T60 l0 x3_1).f0) 0 10000 false _ A4.out).mono ?_); rintro e w' ⟨rfl, ⟨nd, rfl⟩⟩; refine ⟨_, rfl, ?_⟩))
      go_ret
      exact ⟨by first | rfl | (simp; done) | (simp [*]; done), by repeat (first | exact Drawn0.refl _ | apply Drawn0.step)⟩
    ·rw [if_neg c3] at H
     exact absurd H (by simp)
   ·rw [if_neg c2] at H; have c2b0 : decide (x3_1 < (l0.length : Int)) = false := decide_eq_false c2; clear c2; obtain rfl := Option.some.inj H; go_wp2; go_ret
    exact ⟨by first | rfl | (simp; done) | (simp [*]; done), by repeat (first | exact Drawn0.refl _ | apply Drawn0.step)⟩

/-! ### spec_l1Min: function 47 -/
def spec_l1Min.f (a0 : Int) (a1 : Int) : Option (Int) := if a0 < a1 then (some a0) else (some a1)
set_option maxHeartbeats 8000000 in
set_option maxRecDepth 100000 in
theorem spec_l1Min.calls (a0 : Int) (a1 : Int) (r : Int) (w : World) (h : spec_l1Min.f a0 a1 = some r) :
  Calls Try.prog 47 #[.int .i64 a0, .int .i64 a1] w fun e w' => e = .returned (.int .i64 r) ∧ Drawn0 w w' := by
 have H : (if a0 < a1 then (some a0) else (some a1)) = some r := h
 clear h; by_cases c3 : a0 < a1
 ·rw [if_pos c3] at H; have c3b0 : decide (a0 < a1) = true := decide_eq_true c3; clear c3; obtain rfl := Option.some.inj H
  go_enter Try.func47, Try.ntmps47
  go_wp2; go_ret
  exact ⟨by first | rfl | (simp; done) | (simp [*]; done), by repeat (first | exact Drawn0.refl _ | apply Drawn0.step)⟩
 ·rw [if_neg c3] at H; have c3b0 : decide (a0 < a1) = false := decide_eq_false c3; clear c3; obtain rfl := Option.some.inj H
  go_enter Try.func47, Try.ntmps47
  go_wp2; go_ret
  exact ⟨by first | rfl | (simp; done) | (simp [*]; done), by repeat (first | exact Drawn0.refl _ | apply Drawn0.step)⟩

end Go.Proofs.Yteedbciobdcmaaa.QFnExactOrder
-- squeezed
