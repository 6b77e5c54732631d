/- Lean functions that tell what the Go functions used by one law answer, and for each a proof that the Go code comes to just these answers; no condition. Printed by this session's own program over the kit's printer. -/
import Derived.Test.YteedbciobdcmaaaWSq
import Derived.Test.YteedbciobdcmaaaQFnExactOrderx0
import Derived.Lib.SliceRun
namespace Go.Proofs.Yteedbciobdcmaaa.QFnExactOrder
open Go.RowKit Go.Proofs.YteedbciobdcmaaaW.PrintWords Go.Proofs.YteedbciobdcmaaaW.PrintLast Go.Proofs.YteedbciobdcmaaaW.PrintMore
attribute [local go_sem] max2_int min2_int max_two min_two max_three min_three max_four min_four   -- for this text's walks alone
attribute [local go_sem high] go_eql go_neq go_lss go_leq go_gtr go_geq go_store   -- for this text's walks alone
set_option linter.unusedVariables false
set_option linter.unusedSimpArgs false

/-! ### impl_laden: function 40 -/
def impl_laden.l0 : Nat → List (S60) → Int → Int → Int → Int → Option (Int × Int)
 | 0, _, _, _, _, _ => none
 | k + 1, x7, x8, x9, x272000, x272001 => if x9 < x8 then (if 0 ≤ x9 then (if x9 < (x7.length : Int) then (impl_laden.l0 k x7 x8 (wrap64 (x9 + 1)) (wrap64 (x272000 + ((rd_T60 x7 x9).f0))) (wrap64 (x272001 + (wrap64 (((rd_T60 x7 x9).f0) * ((rd_T60 x7 x9).f1)))))) else (none)) else (none)) else (some (x272000, x272001))
def impl_laden.f (k : Nat) (a0_0 : Int) (a0_1 : Int) (l1 : List (S60)) : Option (Int × Int) := impl_laden.l0 k l1 (l1.length : Int) 0 a0_0 a0_1
theorem impl_laden.mono_l : ∀ k, (∀ y0 y1 y2 y3 y4, LeO (impl_laden.l0 k y0 y1 y2 y3 y4) (impl_laden.l0 (k + 1) y0 y1 y2 y3 y4))
 | 0 => fun _ _ _ _ _ r h => by simp [impl_laden.l0] at h
 | k + 1 => by
  have ih0 := impl_laden.mono_l k
  ·intro y0 y1 y2 y3 y4
   unfold impl_laden.l0
   repeat' first
   | (with_reducible exact ih0 _ _ _ _ _)
   | (with_reducible exact LeO.refl _)
   | (with_reducible exact LeO.none _)
   | (with_reducible refine LeO.ite ?_ ?_)
   | (with_reducible refine LeO.bind ?_ (fun _ => ?_))
   | exact ih0 _ _ _ _ _
   | exact LeO.none _
   | refine LeO.ite ?_ ?_
   | refine LeO.bind ?_ (fun _ => ?_)
theorem impl_laden.mono : ∀ a0 a1 a2 k, LeO (impl_laden.f k a0 a1 a2) (impl_laden.f (k + 1) a0 a1 a2) := by
 intro a0 a1 a2 k
 have ih0 := impl_laden.mono_l k
 unfold impl_laden.f
 repeat' first
   | (with_reducible exact ih0 _ _ _ _ _)
   | (with_reducible exact LeO.refl _)
   | (with_reducible exact LeO.none _)
   | (with_reducible refine LeO.ite ?_ ?_)
   | (with_reducible refine LeO.bind ?_ (fun _ => ?_))
   | exact ih0 _ _ _ _ _
   | exact LeO.none _
   | refine LeO.ite ?_ ?_
   | refine LeO.bind ?_ (fun _ => ?_)
set_option maxHeartbeats 8000000 in
set_option maxRecDepth 100000 in
theorem impl_laden.calls (k : Nat) (a0_0 : Int) (a0_1 : Int) (A1 : Option Addr) (c1 : Nat) (l1 : List (S60)) (r1 : Int) (r2 : Int) (w : World) (hr1 : Kd.C k60 w A1 l1.length l1) (hc1 : l1.length ≤ c1) (h : impl_laden.f k a0_0 a0_1 l1 = some (r1, r2)) :
  Calls Try.prog 40 #[.agg #[.int .i64 a0_0, .int .i64 a0_1], .slice A1 l1.length c1] w fun e w' => e = .returned (.agg #[.int .i64 r1, .int .i64 r2]) ∧ Below w.heap.size w w' := by
 have hu35 := Try.underlying35
 have hu60 := Try.underlying60
 have HR1 := mk_ hr1; have HC1 := mk_ hc1; clear hr1 hc1; have HB := mk_ (Below.refl w.heap.size w)
 have H : (impl_laden.l0 k l1 (l1.length : Int) 0 a0_0 a0_1) = some (r1, r2) := h
 clear h
 have H' := mk_ H
 clear H
 go_enter Try.func40, Try.ntmps40
 go_wp2_with (first | ((with_reducible refine gd_ 2 rfl ?_); refine box_event ?hg (N := 2) ?hd (cs := #[.int .i64 a0_0, .int .i64 a0_1]) (t := 35) ?hr ?_; (case hd => rfl); (case hg => rfl); (case hr => exact hr_); intro gb271 hg w3 hbox hb; have BK271 := mk_ (hbox); have GW271 := gb_ hg HB; replace HB := bp_ HB hb; have GE271 := GW271; clear hb hbox hg) | ((with_reducible refine gd_ 4 rfl ?_); refine box_event ?hg (N := 4) ?hd (cs := #[.int .i64 0, .int .i64 0]) (t := 35) ?hr ?_; (case hd => rfl); (case hg => rfl); (case hr => exact hr_); intro gb272 hg w4 hbox hb; have BK272 := mk_ (hbox); have GW272 := gb_ hg HB; replace HB := bp_ HB hb; have GE272 := GW272; have NB271_272 := nb_ hg BK271; replace BK271 := bl_ BK271 hb; have NB272_271 := ns_ NB271_272; clear hb hbox hg))
 go_loopg [9] k (fun kq v9 w' => ∃ (x9_1 : Int) (x272000_1 : Int) (x272001_1 : Int), v9 = .int .i64 x9_1 ∧ Aside0 (impl_laden.l0 kq l1 (l1.length : Int) x9_1 x272000_1 x272001_1 = some (r1, r2)) ∧ Aside0 (kq ≤ k) ∧ Aside0 (w'.heap[gb271]? = some (.cells #[.int .i64 x272000_1, .int .i64 x272001_1] 35 (0, 0))) ∧ Aside0 (w'.heap[gb272]? = some (.cells #[.int .i64 0, .int .i64 0] 35 (0, 0))) ∧ Aside0 (Below w.heap.size w w'))
 case atStart => exact ⟨(0), (a0_0), (a0_1), rf_, H', ⟨Nat.le_refl _⟩, bw_ BK271, bw_ BK272, ⟨hw_ HB⟩⟩
 case round =>
  clear H'; (try clear c1)
  obtain ⟨x9_1, x272000_1, x272001_1, rfl, HA, HK1, BK271, BK272, HB⟩ := hrel
  cases gk with
  | zero => exact absurd HA.out (by simp [impl_laden.l0])
  | succ k1 =>
   have H := HA.out; clear HA
   simp only [impl_laden.l0] at H
   by_cases c5 : x9_1 < (l1.length : Int)
   ·rw [if_pos c5] at H; have c5b0 : decide (x9_1 < (l1.length : Int)) = true := decide_eq_true c5; clear c5; by_cases c6 : 0 ≤ x9_1
    ·rw [if_pos c6] at H; have c6b0 : decide (0 ≤ x9_1) = true := decide_eq_true c6; clear c6; by_cases c7 : x9_1 < (l1.length : Int)
     ·rw [if_pos c7] at H; have c7b0 : decide (x9_1 < (l1.length : Int)) = true := decide_eq_true c7; clear c7
      have H' := mk_ H
      clear H
      have p273 : 0 ≤ (x9_1 : Int) := od_
      have q273 : x9_1 < (l1.length : Int) := od_
      obtain ⟨ad273, e273, hx273_0, hx273_1⟩ := at_T60 HR1.out x9_1 p273 q273; cases e273
      replace hx273_0 := (HB.out.cell (World.block_lt_of_cell? w _ hx273_0)).trans hx273_0
      replace hx273_1 := (HB.out.cell (World.block_lt_of_cell? w _ hx273_1)).trans hx273_1
      replace p273 := eq_true p273; replace q273 := eq_true q273
      go_wp2_with (first | ((with_reducible refine gd_ 6 rfl ?_); refine box_event ?hg (N := 6) ?hd (cs := #[.int .i64 0, .int .i64 0]) (t := 60) ?hr ?_; (case hd => rfl); (case hg => rfl); (case hr => exact hr_); intro gb274 hg w8 hbox hb; have BK274 := mk_ (hbox); have GW274 := gb_ hg HB; replace HB := bp_ HB hb; have GE274 := GW274; have NB271_274 := nb_ hg BK271; replace BK271 := bl_ BK271 hb; have NB274_271 := ns_ NB271_274; have NB272_274 := nb_ hg BK272; replace BK272 := bl_ BK272 hb; have NB274_272 := ns_ NB272_274; clear hb hbox hg; have hnb9 := NB274_271.out; have hnc9 := NB271_274.out; have hnb10 := NB274_272.out; have hnc10 := NB272_274.out; have hcz11_0 := bc0_ BK274; have hcz11_1 := bc1_ BK274; have hfz11_0 := bf_ BK274 0; have hfz11_1 := bf_ BK274 1; have hnb12 := NB271_272.out; have hnc12 := NB272_271.out; have hcz13_0 := bc0_ BK271; have hcz13_1 := bc1_ BK271; have hfz13_0 := bf_ BK271 0; have hfz13_1 := bf_ BK271 1))
      go_roundg k1
      case measure => have := HK1.out; omega
      case rel => exact ⟨(wrap64 (x9_1 + 1)), (wrap64 (x272000_1 + ((rd_T60 l1 x9_1).f0))), (wrap64 (x272001_1 + (wrap64 (((rd_T60 l1 x9_1).f0) * ((rd_T60 l1 x9_1).f1))))), rf_, H', ⟨by have := HK1.out; omega⟩, ⟨by (with_reducible repeat (first | refine blk_drewN ?_ _ | refine blk_drew ?_ | refine blk_alloc ?_ _)); refine blk_put (cs := #[.int .i64 (wrap64 (x272000_1 + ((rd_T60 l1 x9_1).f0))), .int .i64 x272001_1]) ?_ 1 _ rfl; (with_reducible repeat (first | refine blk_drewN ?_ _ | refine blk_drew ?_ | refine blk_alloc ?_ _)); refine blk_put (cs := #[.int .i64 x272000_1, .int .i64 x272001_1]) ?_ 0 _ rfl; (with_reducible repeat (first | refine blk_drewN ?_ _ | refine blk_drew ?_ | refine blk_alloc ?_ _)); refine blk_far ?_ NB271_274.out _; (with_reducible repeat (first | refine blk_drewN ?_ _ | refine blk_drew ?_ | refine blk_alloc ?_ _)); refine blk_far ?_ NB271_274.out _; (with_reducible repeat (first | refine blk_drewN ?_ _ | refine blk_drew ?_ | refine blk_alloc ?_ _)); exact BK271.out⟩, ⟨by (with_reducible repeat (first | refine blk_drewN ?_ _ | refine blk_drew ?_ | refine blk_alloc ?_ _)); refine blk_far ?_ NB272_271.out _; (with_reducible repeat (first | refine blk_drewN ?_ _ | refine blk_drew ?_ | refine blk_alloc ?_ _)); refine blk_far ?_ NB272_271.out _; (with_reducible repeat (first | refine blk_drewN ?_ _ | refine blk_drew ?_ | refine blk_alloc ?_ _)); refine blk_far ?_ NB272_274.out _; (with_reducible repeat (first | refine blk_drewN ?_ _ | refine blk_drew ?_ | refine blk_alloc ?_ _)); refine blk_far ?_ NB272_274.out _; (with_reducible repeat (first | refine blk_drewN ?_ _ | refine blk_drew ?_ | refine blk_alloc ?_ _)); exact BK272.out⟩, ⟨by repeat (first | (with_reducible first | exact HB.out | apply below_alloc | apply pw_below_drewN | apply below_drew1 | refine below_set ?_ GE271.out | refine below_set ?_ GE274.out) | exact HB.out)⟩⟩
     ·rw [if_neg c7] at H
      exact absurd H (by simp)
    ·rw [if_neg c6] at H
     exact absurd H (by simp)
   ·rw [if_neg c5] at H; have c5b0 : decide (x9_1 < (l1.length : Int)) = false := decide_eq_false c5; clear c5
    simp only [Option.some.injEq, Prod.mk.injEq] at H
    obtain ⟨rfl, rfl⟩ := H; have hnb14 := NB271_272.out
    have hnc14 := NB272_271.out; have hcz15_0 := bc0_ BK271
    have hcz15_1 := bc1_ BK271; have hfz15_0 := bf_ BK271 0; have hfz15_1 := bf_ BK271 1; have hcz16_0 := bc0_ BK272; have hcz16_1 := bc1_ BK272; have hfz16_0 := bf_ BK272 0; have hfz16_1 := bf_ BK272 1; go_wp2
    refine bodyPost_ret (results_cell_row rfl _ _ gb272 35 #[.int .i64 x272000_1, .int .i64 x272001_1] (0, 0) _ rfl (by (with_reducible repeat (first | refine blk_drewN ?_ _ | refine blk_drew ?_ | refine blk_alloc ?_ _)); refine blk_put (cs := #[.int .i64 x272000_1, .int .i64 0]) ?_ 1 _ rfl; (with_reducible repeat (first | refine blk_drewN ?_ _ | refine blk_drew ?_ | refine blk_alloc ?_ _)); refine blk_put (cs := #[.int .i64 0, .int .i64 0]) ?_ 0 _ rfl; (with_reducible repeat (first | refine blk_drewN ?_ _ | refine blk_drew ?_ | refine blk_alloc ?_ _)); exact BK272.out) Try.underlying35 rfl (by kernel_rfl)) rfl ?_
    exact ⟨re_, by repeat (first | (with_reducible first | exact HB.out | apply below_alloc | apply pw_below_drewN | apply below_drew1 | refine below_set ?_ GE272.out) | exact HB.out)⟩

/-! ### impl_FuelTank_41: function 41 -/
def impl_FuelTank_41.f (l0 : List (S60)) : Option ((List (S60))) := (some (([] : List (S60)) : List (S60))).bind fun y275 => (if y275.length + l0.length < 8796093022208 then (some (y275 ++ l0)) else (none))
set_option maxHeartbeats 8000000 in
set_option maxRecDepth 100000 in
theorem impl_FuelTank_41.calls (A0 : Option Addr) (c0 : Nat) (l0 : List (S60)) (r : List (S60)) (w : World) (hr0 : Kd.C k60 w A0 l0.length l0) (hc0 : l0.length ≤ c0) (h : impl_FuelTank_41.f l0 = some r) :
  Calls Try.prog 41 #[.slice A0 l0.length c0] w fun e w' => ∃ v0_ : Value, e = .returned (v0_) ∧ Kd.R k60 60 w' w.heap.size (fun _ => True) v0_ r ∧ Below w.heap.size w w' := by
 have qT_ : ∀ (w : World) (a : Option Addr) (n c n' c' : Nat), (binOp .eql 37 (.slice a n c) (.slice none n' c')).run Try.prog w = .ok (.bool a.isNone) w := fun w a n c n' c' => Lib.run_eql_slice_nil w _ _ a n c n' c' Try.underlying37
 cases A0 with
 | none =>
  have hl_ : l0 = [] := by
   by_cases h_ : 0 < l0.length
   ·obtain ⟨ad, e, _⟩ := hr0.2.2 h_
    cases e
   ·exact List.eq_nil_of_length_eq_zero (by omega)
  subst hl_
  have hr_ : r = [] := by simpa [impl_FuelTank_41.f] using h.symm
  subst hr_; clear h hr0 hc0
  go_enter Try.func41, Try.ntmps41
  go_wp2; go_ret
  exact ⟨_, rfl, Kd.R_nil _ _ _ _ _, by repeat (first | (with_reducible first | exact Below.refl _ _ | apply below_alloc | apply pw_below_drewN | apply below_drew1) | exact Below.refl _ _)⟩
 | some ad0_ =>
  have HR0 := mk_ hr0; have HC0 := mk_ hc0; clear hr0 hc0; have HB := mk_ (Below.refl w.heap.size w)
  have H : ((some (([] : List (S60)) : List (S60))).bind fun y275 => (if y275.length + l0.length < 8796093022208 then (some (y275 ++ l0)) else (none))) = some r := h
  clear h
  obtain ⟨y275, hy275⟩ : ∃ y_ : List (S60), y_ = (([] : List (S60))) := ⟨_, rfl⟩
  replace H : (if y275.length + l0.length < 8796093022208 then (some (y275 ++ l0)) else (none)) = some r := by first | (rw [hy275]; with_reducible exact H) | (have H2_ := (Option.bind_some _ _).symm.trans H; rw [hy275]; with_reducible exact H2_) | (have H2_ := (Option.bind_some _ _).symm.trans H; with_reducible exact H2_) | with_reducible exact H | (rw [hy275]; exact H) | exact H
  have Ny275 := mk_ hy275; clear hy275; by_cases c2 : y275.length + l0.length < 8796093022208
  ·rw [if_pos c2] at H; have LMc2 := mk_ c2; clear c2
   obtain ⟨y278, hy278⟩ : ∃ y_ : List (S60), y_ = (y275 ++ l0) := ⟨_, rfl⟩
   replace H : (some y278) = some r := by first | (rw [hy278]; with_reducible exact H) | (have H2_ := (Option.bind_some _ _).symm.trans H; rw [hy278]; with_reducible exact H2_) | (have H2_ := (Option.bind_some _ _).symm.trans H; with_reducible exact H2_) | with_reducible exact H | (rw [hy278]; exact H) | exact H
   have Ny278 := mk_ hy278; clear hy278; obtain rfl := Option.some.inj H
   go_enter Try.func41, Try.ntmps41
   go_wp2_with (first | ((with_reducible refine gd_ 5 rfl ?_); refine Kd.R_lit k60 _ 60 ?hg (N := 5) ?hd (xs := ([] : List (S60))) (inner := []) (ok := fun _ => True) (okp := fun _ => True) ?hr ?hp (fun _ hk => hk) trivial (Below.refl _ _) (Nat.le_refl _) (by simp) ?_; (case hd => rfl); (case hg => rfl); (case hr => exact hr_); (case hp => exact (Reps.none _ _)); intro v276 w3 ho4 hb hg_ hnew_; clear hg_ hnew_; (first | rw [← Ny275.out] at ho4 | (simp only [Int.reduceToNat] at ho4; rw [← Ny275.out] at ho4)); have HO277 := mk_ (Kd.R_lower ho4 (below_size (by exact HB.out))); replace HB := bp_ HB hb; clear hb ho4) | ((with_reducible refine gate_builtin (b := .append) (xs := #[.tmp 5, .tmp 6]) rfl ?_); at_builtin; refine Kd.R_append_rows k60 (w0 := w) w.heap.size rfl (.tmp 5) (.tmp 6) 37 60 (.agg #[(.int .i64 0), (.int .i64 0)]) 16 rfl Try.underlying37 info60 rfl (by decide) (by omega) v276 y275 l0 _ _ _ (fun _ => True) (fun _ => False) rfl rfl ?aO ?aR (fun _ _ h => h) (fun _ h => h.elim) ?aF ?aB ?aS ?aL ?_; (case aR => exact cw_ (Kd.C_below HR0.out HB.out)); (case aB => exact (by exact HB.out)); (case aF => exact (fun _ _ => trivial)); (case aO => exact (by exact HO277.out)); (case aS => exact (below_size (by exact HB.out))); (case aL => have := LMc2.out; omega); intro v279 w5 ho hb hg hat; rw [← Ny278.out] at ho; replace HB := mk_ (hb); have HO280 := mk_ (ho); clear HO277; clear ho hb hg hat))
   go_ret
   exact ⟨_, re_, by (with_reducible repeat (first | apply Kd.R_alloc | apply Kd.R_drewN | apply Kd.R_drew)); exact HO280.out, hw_ HB⟩
  ·rw [if_neg c2] at H
   exact absurd H (by simp)

end Go.Proofs.Yteedbciobdcmaaa.QFnExactOrder
-- squeezed
