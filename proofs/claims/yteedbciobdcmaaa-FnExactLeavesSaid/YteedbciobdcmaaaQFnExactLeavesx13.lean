/- Lean functions that tell what the Go functions used by one law answer, and for each a proof that the Go code comes to just these answers; no condition. Printed by this session's own program over the kit's printer. -/
import Derived.Test.YteedbciobdcmaaaWSq
import Derived.Test.YteedbciobdcmaaaQFnExactLeavesx0
namespace Go.Proofs.Yteedbciobdcmaaa.QFnExactLeaves
open Go.RowKit Go.Proofs.YteedbciobdcmaaaW.PrintWords Go.Proofs.YteedbciobdcmaaaW.PrintLast Go.Proofs.YteedbciobdcmaaaW.PrintMore
attribute [local go_sem] max2_int min2_int max_two min_two max_three min_three max_four min_four   -- for this text's walks alone
attribute [local go_sem high] go_eql go_neq go_lss go_leq go_gtr go_geq go_store   -- for this text's walks alone
set_option linter.unusedVariables false
set_option linter.unusedSimpArgs false

/-! ### impl_laden: function 40 -/
def impl_laden.l0 : Nat → List (S60) → Int → Int → Int → Int → Option (Int × Int)
 | 0, _, _, _, _, _ => none
 | k + 1, x7, x8, x9, x287000, x287001 => if x9 < x8 then (if 0 ≤ x9 then (if x9 < (x7.length : Int) then (impl_laden.l0 k x7 x8 (wrap64 (x9 + 1)) (wrap64 (x287000 + ((rd_T60 x7 x9).f0))) (wrap64 (x287001 + (wrap64 (((rd_T60 x7 x9).f0) * ((rd_T60 x7 x9).f1)))))) else (none)) else (none)) else (some (x287000, x287001))
def impl_laden.f (k : Nat) (a0_0 : Int) (a0_1 : Int) (l1 : List (S60)) : Option (Int × Int) := impl_laden.l0 k l1 (l1.length : Int) 0 a0_0 a0_1
theorem impl_laden.mono_l : ∀ k, (∀ y0 y1 y2 y3 y4, LeO (impl_laden.l0 k y0 y1 y2 y3 y4) (impl_laden.l0 (k + 1) y0 y1 y2 y3 y4))
 | 0 => fun _ _ _ _ _ r h => by simp [impl_laden.l0] at h
 | k + 1 => by
  have ih0 := impl_laden.mono_l k
  ·intro y0 y1 y2 y3 y4
   unfold impl_laden.l0
   repeat' first
   | (with_reducible exact ih0 _ _ _ _ _)
   | (with_reducible exact LeO.refl _)
   | (with_reducible exact LeO.none _)
   | (with_reducible refine LeO.ite ?_ ?_)
   | (with_reducible refine LeO.bind ?_ (fun _ => ?_))
   | exact ih0 _ _ _ _ _
   | exact LeO.none _
   | refine LeO.ite ?_ ?_
   | refine LeO.bind ?_ (fun _ => ?_)
theorem impl_laden.mono : ∀ a0 a1 a2 k, LeO (impl_laden.f k a0 a1 a2) (impl_laden.f (k + 1) a0 a1 a2) := by
 intro a0 a1 a2 k
 have ih0 := impl_laden.mono_l k
 unfold impl_laden.f
 repeat' first
   | (with_reducible exact ih0 _ _ _ _ _)
   | (with_reducible exact LeO.refl _)
   | (with_reducible exact LeO.none _)
   | (with_reducible refine LeO.ite ?_ ?_)
   | (with_reducible refine LeO.bind ?_ (fun _ => ?_))
   | exact ih0 _ _ _ _ _
   | exact LeO.none _
   | refine LeO.ite ?_ ?_
   | refine LeO.bind ?_ (fun _ => ?_)
set_option maxHeartbeats 8000000 in
set_option maxRecDepth 100000 in
theorem impl_laden.calls (k : Nat) (a0_0 : Int) (a0_1 : Int) (A1 : Option Addr) (c1 : Nat) (l1 : List (S60)) (r1 : Int) (r2 : Int) (w : World) (hr1 : Kd.C k60 w A1 l1.length l1) (hc1 : l1.length ≤ c1) (h : impl_laden.f k a0_0 a0_1 l1 = some (r1, r2)) :
  Calls Try.prog 40 #[.agg #[.int .i64 a0_0, .int .i64 a0_1], .slice A1 l1.length c1] w fun e w' => e = .returned (.agg #[.int .i64 r1, .int .i64 r2]) ∧ Below w.heap.size w w' := by
 have hu35 := Try.underlying35
 have hu60 := Try.underlying60
 have HR1 := mk_ hr1; have HC1 := mk_ hc1; clear hr1 hc1; have HB := mk_ (Below.refl w.heap.size w)
 have H : (impl_laden.l0 k l1 (l1.length : Int) 0 a0_0 a0_1) = some (r1, r2) := h
 clear h
 have H' := mk_ H
 clear H
 go_enter Try.func40, Try.ntmps40
 go_wp2_with (first | ((with_reducible refine gd_ 2 rfl ?_); refine box_event ?hg (N := 2) ?hd (cs := #[.int .i64 a0_0, .int .i64 a0_1]) (t := 35) ?hr ?_; (case hd => rfl); (case hg => rfl); (case hr => exact hr_); intro gb286 hg w3 hbox hb; have BK286 := mk_ (hbox); have GW286 := gb_ hg HB; replace HB := bp_ HB hb; have GE286 := GW286; clear hb hbox hg) | ((with_reducible refine gd_ 4 rfl ?_); refine box_event ?hg (N := 4) ?hd (cs := #[.int .i64 0, .int .i64 0]) (t := 35) ?hr ?_; (case hd => rfl); (case hg => rfl); (case hr => exact hr_); intro gb287 hg w4 hbox hb; have BK287 := mk_ (hbox); have GW287 := gb_ hg HB; replace HB := bp_ HB hb; have GE287 := GW287; have NB286_287 := nb_ hg BK286; replace BK286 := bl_ BK286 hb; have NB287_286 := ns_ NB286_287; clear hb hbox hg))
 go_loopg [9] k (fun kq v9 w' => ∃ (x9_1 : Int) (x287000_1 : Int) (x287001_1 : Int), v9 = .int .i64 x9_1 ∧ Aside0 (impl_laden.l0 kq l1 (l1.length : Int) x9_1 x287000_1 x287001_1 = some (r1, r2)) ∧ Aside0 (kq ≤ k) ∧ Aside0 (w'.heap[gb286]? = some (.cells #[.int .i64 x287000_1, .int .i64 x287001_1] 35 (0, 0))) ∧ Aside0 (w'.heap[gb287]? = some (.cells #[.int .i64 0, .int .i64 0] 35 (0, 0))) ∧ Aside0 (Below w.heap.size w w'))
 case atStart => exact ⟨(0), (a0_0), (a0_1), rf_, H', ⟨Nat.le_refl _⟩, bw_ BK286, bw_ BK287, ⟨hw_ HB⟩⟩
 case round =>
  clear H'; (try clear c1)
  obtain ⟨x9_1, x287000_1, x287001_1, rfl, HA, HK1, BK286, BK287, HB⟩ := hrel
  cases gk with
  | zero => exact absurd HA.out (by simp [impl_laden.l0])
  | succ k1 =>
   have H := HA.out; clear HA
   simp only [impl_laden.l0] at H
   by_cases c5 : x9_1 < (l1.length : Int)
   ·rw [if_pos c5] at H; have c5b0 : decide (x9_1 < (l1.length : Int)) = true := decide_eq_true c5; clear c5; by_cases c6 : 0 ≤ x9_1
    ·rw [if_pos c6] at H; have c6b0 : decide (0 ≤ x9_1) = true := decide_eq_true c6; clear c6; by_cases c7 : x9_1 < (l1.length : Int)
     ·rw [if_pos c7] at H; have c7b0 : decide (x9_1 < (l1.length : Int)) = true := decide_eq_true c7; clear c7
      have H' := mk_ H
      clear H
      have p288 : 0 ≤ (x9_1 : Int) := od_
      have q288 : x9_1 < (l1.length : Int) := od_
      obtain ⟨ad288, e288, hx288_0, hx288_1⟩ := at_T60 HR1.out x9_1 p288 q288; cases e288
      replace hx288_0 := (HB.out.cell (World.block_lt_of_cell? w _ hx288_0)).trans hx288_0
      replace hx288_1 := (HB.out.cell (World.block_lt_of_cell? w _ hx288_1)).trans hx288_1
      replace p288 := eq_true p288; replace q288 := eq_true q288
      go_wp2_with (first | ((with_reducible refine gd_ 6 rfl ?_); refine box_event ?hg (N := 6) ?hd (cs := #[.int .i64 0, .int .i64 0]) (t := 60) ?hr ?_; (case hd => rfl); (case hg => rfl); (case hr => exact hr_); intro gb289 hg w8 hbox hb; have BK289 := mk_ (hbox); have GW289 := gb_ hg HB; replace HB := bp_ HB hb; have GE289 := GW289; have NB286_289 := nb_ hg BK286; replace BK286 := bl_ BK286 hb; have NB289_286 := ns_ NB286_289; have NB287_289 := nb_ hg BK287; replace BK287 := bl_ BK287 hb; have NB289_287 := ns_ NB287_289; clear hb hbox hg; have hnb9 := NB289_286.out; have hnc9 := NB286_289.out; have hnb10 := NB289_287.out; have hnc10 := NB287_289.out; have hcz11_0 := bc0_ BK289; have hcz11_1 := bc1_ BK289; have hfz11_0 := bf_ BK289 0; have hfz11_1 := bf_ BK289 1; have hnb12 := NB286_287.out; have hnc12 := NB287_286.out; have hcz13_0 := bc0_ BK286; have hcz13_1 := bc1_ BK286; have hfz13_0 := bf_ BK286 0; have hfz13_1 := bf_ BK286 1))
      go_roundg k1
      case measure => have := HK1.out; omega
      case rel => exact ⟨(wrap64 (x9_1 + 1)), (wrap64 (x287000_1 + ((rd_T60 l1 x9_1).f0))), (wrap64 (x287001_1 + (wrap64 (((rd_T60 l1 x9_1).f0) * ((rd_T60 l1 x9_1).f1))))), rf_, H', ⟨by have := HK1.out; omega⟩, ⟨by (with_reducible repeat (first | refine blk_drewN ?_ _ | refine blk_drew ?_ | refine blk_alloc ?_ _)); refine blk_put (cs := #[.int .i64 (wrap64 (x287000_1 + ((rd_T60 l1 x9_1).f0))), .int .i64 x287001_1]) ?_ 1 _ rfl; (with_reducible repeat (first | refine blk_drewN ?_ _ | refine blk_drew ?_ | refine blk_alloc ?_ _)); refine blk_put (cs := #[.int .i64 x287000_1, .int .i64 x287001_1]) ?_ 0 _ rfl; (with_reducible repeat (first | refine blk_drewN ?_ _ | refine blk_drew ?_ | refine blk_alloc ?_ _)); refine blk_far ?_ NB286_289.out _; (with_reducible repeat (first | refine blk_drewN ?_ _ | refine blk_drew ?_ | refine blk_alloc ?_ _)); refine blk_far ?_ NB286_289.out _; (with_reducible repeat (first | refine blk_drewN ?_ _ | refine blk_drew ?_ | refine blk_alloc ?_ _)); exact BK286.out⟩, ⟨by (with_reducible repeat (first | refine blk_drewN ?_ _ | refine blk_drew ?_ | refine blk_alloc ?_ _)); refine blk_far ?_ NB287_286.out _; (with_reducible repeat (first | refine blk_drewN ?_ _ | refine blk_drew ?_ | refine blk_alloc ?_ _)); refine blk_far ?_ NB287_286.out _; (with_reducible repeat (first | refine blk_drewN ?_ _ | refine blk_drew ?_ | refine blk_alloc ?_ _)); refine blk_far ?_ NB287_289.out _; (with_reducible repeat (first | refine blk_drewN ?_ _ | refine blk_drew ?_ | refine blk_alloc ?_ _)); refine blk_far ?_ NB287_289.out _; (with_reducible repeat (first | refine blk_drewN ?_ _ | refine blk_drew ?_ | refine blk_alloc ?_ _)); exact BK287.out⟩, ⟨by repeat (first | (with_reducible first | exact HB.out | apply below_alloc | apply pw_below_drewN | apply below_drew1 | refine below_set ?_ GE286.out | refine below_set ?_ GE289.out) | exact HB.out)⟩⟩
     ·rw [if_neg c7] at H
      exact absurd H (by simp)
    ·rw [if_neg c6] at H
     exact absurd H (by simp)
   ·rw [if_neg c5] at H; have c5b0 : decide (x9_1 < (l1.length : Int)) = false := decide_eq_false c5; clear c5
    simp only [Option.some.injEq, Prod.mk.injEq] at H
    obtain ⟨rfl, rfl⟩ := H; have hnb14 := NB286_287.out
    have hnc14 := NB287_286.out; have hcz15_0 := bc0_ BK286
    have hcz15_1 := bc1_ BK286; have hfz15_0 := bf_ BK286 0; have hfz15_1 := bf_ BK286 1; have hcz16_0 := bc0_ BK287; have hcz16_1 := bc1_ BK287; have hfz16_0 := bf_ BK287 0; have hfz16_1 := bf_ BK287 1; go_wp2
    refine bodyPost_ret (results_cell_row rfl _ _ gb287 35 #[.int .i64 x287000_1, .int .i64 x287001_1] (0, 0) _ rfl (by (with_reducible repeat (first | refine blk_drewN ?_ _ | refine blk_drew ?_ | refine blk_alloc ?_ _)); refine blk_put (cs := #[.int .i64 x287000_1, .int .i64 0]) ?_ 1 _ rfl; (with_reducible repeat (first | refine blk_drewN ?_ _ | refine blk_drew ?_ | refine blk_alloc ?_ _)); refine blk_put (cs := #[.int .i64 0, .int .i64 0]) ?_ 0 _ rfl; (with_reducible repeat (first | refine blk_drewN ?_ _ | refine blk_drew ?_ | refine blk_alloc ?_ _)); exact BK287.out) Try.underlying35 rfl (by kernel_rfl)) rfl ?_
    exact ⟨re_, by repeat (first | (with_reducible first | exact HB.out | apply below_alloc | apply pw_below_drewN | apply below_drew1 | refine below_set ?_ GE287.out) | exact HB.out)⟩

end Go.Proofs.Yteedbciobdcmaaa.QFnExactLeaves
-- squeezed
