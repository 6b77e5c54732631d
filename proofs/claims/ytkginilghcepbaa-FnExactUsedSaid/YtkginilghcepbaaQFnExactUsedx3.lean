/- Lean functions that tell what the Go functions used by one law answer, and for each a proof that the Go code comes to just these answers; no condition. Printed by this session's own program over the kit's printer. -/
import Derived.Test.YtkginilghcepbaaWSq
import Derived.Test.YtkginilghcepbaaQFnExactUsedx0
import Derived.Test.YtkginilghcepbaaQFnExactUsedx1
import Derived.Test.YtkginilghcepbaaQFnExactUsedx2
namespace Go.Proofs.Ytkginilghcepbaa.QFnExactUsed
open Go.RowKit Go.Proofs.YtkginilghcepbaaW.PrintWords Go.Proofs.YtkginilghcepbaaW.PrintLast Go.Proofs.YtkginilghcepbaaW.PrintMore
attribute [local go_sem] max2_int min2_int max_two min_two max_three min_three max_four min_four   -- for this text's walks alone
attribute [local go_sem high] go_eql go_neq go_lss go_leq go_gtr go_geq go_store   -- for this text's walks alone
set_option linter.unusedVariables false
set_option linter.unusedSimpArgs false

/-! ### spec_l1All: function 51 -/
def spec_l1All.l0 : Nat → List Int → Int → Int → Int → Option (Bool)
 | 0, _, _, _, _ => none
 | k + 1, x0, x1, x2, x7 => if x7 < (x0.length : Int) then (if 0 ≤ x7 then ((spec_l1In.f (rd x0 x7) x1 x2).bind fun t6 => (if t6 = true then (spec_l1All.l0 k x0 x1 x2 (wrap64 (x7 + 1))) else (some false))) else (none)) else (some true)
def spec_l1All.f (k : Nat) (l0 : List Int) (a1 : Int) (a2 : Int) : Option (Bool) := spec_l1All.l0 k l0 a1 a2 0
theorem spec_l1All.mono_l : ∀ k, (∀ y0 y1 y2 y3, LeO (spec_l1All.l0 k y0 y1 y2 y3) (spec_l1All.l0 (k + 1) y0 y1 y2 y3))
 | 0 => fun _ _ _ _ r h => by simp [spec_l1All.l0] at h
 | k + 1 => by
  have h3 := spec_l1All.mono_l k
  ·intro y0 y1 y2 y3
   unfold spec_l1All.l0
   repeat' first
   | (with_reducible exact h3 _ _ _ _)
   | (with_reducible exact LeO.refl _)
   | (with_reducible exact LeO.none _)
   | (with_reducible refine LeO.ite ?_ ?_)
   | (with_reducible refine LeO.bind ?_ (fun _ => ?_))
   | exact h3 _ _ _ _
   | exact LeO.none _
   | refine LeO.ite ?_ ?_
   | refine LeO.bind ?_ (fun _ => ?_)
theorem spec_l1All.mono : ∀ a0 a1 a2 k, LeO (spec_l1All.f k a0 a1 a2) (spec_l1All.f (k + 1) a0 a1 a2) := by
 intro a0 a1 a2 k
 have h3 := spec_l1All.mono_l k
 unfold spec_l1All.f
 repeat' first
   | (with_reducible exact h3 _ _ _ _)
   | (with_reducible exact LeO.refl _)
   | (with_reducible exact LeO.none _)
   | (with_reducible refine LeO.ite ?_ ?_)
   | (with_reducible refine LeO.bind ?_ (fun _ => ?_))
   | exact h3 _ _ _ _
   | exact LeO.none _
   | refine LeO.ite ?_ ?_
   | refine LeO.bind ?_ (fun _ => ?_)
set_option maxHeartbeats 8000000 in
set_option maxRecDepth 100000 in
theorem spec_l1All.calls (k : Nat) (A0 : Option Addr) (c0 : Nat) (l0 : List Int) (a1 : Int) (a2 : Int) (r : Bool) (w : World) (hr0 : Kd.C (Kd.int .i64) w A0 l0.length l0) (hc0 : l0.length ≤ c0) (h : spec_l1All.f k l0 a1 a2 = some r) :
  Calls Try.prog 51 #[.slice A0 l0.length c0, .int .i64 a1, .int .i64 a2] w fun e w' => e = .returned (.bool r) ∧ Drawn0 w w' := by
 have l3 := mk_ hr0; have q1 := mk_ hc0; clear hr0 hc0
 have H : (spec_l1All.l0 k l0 a1 a2 0) = some r := h
 clear h
 have H' := mk_ H
 clear H
 go_enter Try.func51, Try.ntmps51
 go_wp2
 go_loopg [7] k (fun kq v7 w' => ∃ (c3 : Int), v7 = .int .i64 c3 ∧ Aside0 (spec_l1All.l0 kq l0 a1 a2 c3 = some r) ∧ Aside0 (kq ≤ k) ∧ Drawn0 w w')
 case atStart => exact ⟨(0), rf_, H', ⟨Nat.le_refl _⟩, by repeat (first | exact Drawn0.refl _ | apply Drawn0.step)⟩
 case round =>
  clear H'
  obtain ⟨c3, rfl, HA, t7, ⟨m1, rfl⟩⟩ := hrel
  cases gk with
  | zero => exact absurd HA.out (by simp [spec_l1All.l0])
  | succ k1 =>
   have H := HA.out; clear HA
   simp only [spec_l1All.l0] at H
   by_cases c4 : c3 < (l0.length : Int)
   ·rw [if_pos c4] at H; have H6 : decide (c3 < (l0.length : Int)) = true := decide_eq_true c4; clear c4; by_cases c5 : 0 ≤ c3
    ·rw [if_pos c5] at H; have N4 : decide (0 ≤ c3) = true := decide_eq_true c5; clear c5; replace H := Option.bind_eq_some_iff.mp H; obtain ⟨t6, J6, H⟩ := H; (try dsimp only at H); have A6 := mk_ J6; clear J6; by_cases c7 : t6 = true
     ·subst c7; rw [if_pos rfl] at H
      have H' := mk_ H
      clear H
      have l4 : 0 ≤ (c3 : Int) := od_
      have l5 : c3 < (l0.length : Int) := od_
      obtain ⟨B4, t8, q2⟩ := Kd.at_int l3.out c3 l4 l5; cases t8; replace l4 := eq_true l4; replace l5 := eq_true l5
      go_wp2_with (first | ((with_reducible refine gc_ 82 rfl ?_); refine gl_ (some 20) rfl Try.func82 #[.int .i64 (rd l0 c3), .int .i64 a1, .int .i64 a2] ?_; (with_reducible refine (spec_l1In.calls (rd l0 c3) a1 a2 true _ A6.out).mono ?_); rintro e w' ⟨rfl, ⟨nd, rfl⟩⟩; refine ⟨_, rfl, ?_⟩))
      go_roundg k1
      case measure => have := t7.out; omega
      case rel => exact ⟨(wrap64 (c3 + 1)), rf_, H', ⟨by have := t7.out; omega⟩, by repeat (first | exact Drawn0.refl _ | apply Drawn0.step)⟩
     ·replace c7 := Bool.eq_false_iff.mpr c7; subst c7; rw [if_neg (show ¬ (false = true) by decide)] at H; obtain rfl := Option.some.inj H
      have l4 : 0 ≤ (c3 : Int) := od_
      have l5 : c3 < (l0.length : Int) := od_
      obtain ⟨B4, t8, q2⟩ := Kd.at_int l3.out c3 l4 l5; cases t8; replace l4 := eq_true l4; replace l5 := eq_true l5
      go_wp2_with (first | ((with_reducible refine gc_ 82 rfl ?_); refine gl_ (some 20) rfl Try.func82 #[.int .i64 (rd l0 c3), .int .i64 a1, .int .i64 a2] ?_; (with_reducible refine (spec_l1In.calls (rd l0 c3) a1 a2 false _ A6.out).mono ?_); rintro e w' ⟨rfl, ⟨nd, rfl⟩⟩; refine ⟨_, rfl, ?_⟩))
      go_ret
      exact ⟨by first | rfl | (simp; done) | (simp [*]; done), by repeat (first | exact Drawn0.refl _ | apply Drawn0.step)⟩
    ·rw [if_neg c5] at H
     exact absurd H (by simp)
   ·rw [if_neg c4] at H; have H6 : decide (c3 < (l0.length : Int)) = false := decide_eq_false c4; clear c4; obtain rfl := Option.some.inj H; go_wp2; go_ret
    exact ⟨by first | rfl | (simp; done) | (simp [*]; done), by repeat (first | exact Drawn0.refl _ | apply Drawn0.step)⟩

/-! ### spec_l6Plus: function 52 -/
mutual
def spec_l6Plus.l0 : Nat → Int → Int → Int → Int → Int → Option (Int × Int × Bool)
 | 0, _, _, _, _, _ => none
 | k + 1, x1, x6, x7, h2, g5 => if x7 = 0 then (if x6 = 0 then (none) else (if (wrap64 (Int.tdiv x1 x6)) = 0 then (none) else (if h2 > (wrap64 ((wrap64 (Int.tdiv (9000000000000000000 : Int) (wrap64 (Int.tdiv x1 x6)))) - (wrap64 (Int.tdiv g5 x6)))) then (some (0, 0, false)) else (spec_l6Plus.l1 k x1 (wrap64 (Int.tdiv g5 x6)) (wrap64 ((wrap64 (h2 * (wrap64 (Int.tdiv x1 x6)))) + (wrap64 (Int.tdiv g5 x6)))) (wrap64 ((wrap64 (h2 * (wrap64 (Int.tdiv x1 x6)))) + (wrap64 (Int.tdiv g5 x6)))) x6)))) else (spec_l6Plus.l0 k x1 x7 (Int.tmod x6 x7) h2 g5)
def spec_l6Plus.l1 : Nat → Int → Int → Int → Int → Int → Option (Int × Int × Bool)
 | 0, _, _, _, _, _ => none
 | k + 1, x1, H7, H8, t9, H9 => if H9 = 0 then (if t9 = 0 then (none) else (if (wrap64 (Int.tdiv H8 t9)) > 1000000000000000 then (some (0, 0, false)) else (if (wrap64 (Int.tdiv x1 t9)) = 0 then (none) else (if H7 > (wrap64 (Int.tdiv (1000000000000000 : Int) (wrap64 (Int.tdiv x1 t9)))) then (some (0, 0, false)) else (some (wrap64 (Int.tdiv H8 t9), wrap64 (H7 * (wrap64 (Int.tdiv x1 t9))), true)))))) else (spec_l6Plus.l1 k x1 H7 H8 H9 (Int.tmod t9 H9))
end
def spec_l6Plus.f (k : Nat) (a0_0 : Int) (a0_1 : Int) (a1 : Int) : Option (Int × Int × Bool) := spec_l6Plus.l0 k a1 a0_1 a1 a0_0 a0_1
theorem spec_l6Plus.mono_l : ∀ k, (∀ y0 y1 y2 y3 y4, LeO (spec_l6Plus.l0 k y0 y1 y2 y3 y4) (spec_l6Plus.l0 (k + 1) y0 y1 y2 y3 y4)) ∧ (∀ y0 y1 y2 y3 y4, LeO (spec_l6Plus.l1 k y0 y1 y2 y3 y4) (spec_l6Plus.l1 (k + 1) y0 y1 y2 y3 y4))
 | 0 => ⟨fun _ _ _ _ _ r h => by simp [spec_l6Plus.l0] at h, fun _ _ _ _ _ r h => by simp [spec_l6Plus.l1] at h⟩
 | k + 1 => by
  obtain ⟨h3, j3⟩ := spec_l6Plus.mono_l k
  refine ⟨?_, ?_⟩
  ·intro y0 y1 y2 y3 y4
   unfold spec_l6Plus.l0
   repeat' first
   | (with_reducible exact h3 _ _ _ _ _)
   | (with_reducible exact j3 _ _ _ _ _)
   | (with_reducible exact LeO.refl _)
   | (with_reducible exact LeO.none _)
   | (with_reducible refine LeO.ite ?_ ?_)
   | (with_reducible refine LeO.bind ?_ (fun _ => ?_))
   | exact h3 _ _ _ _ _
   | exact j3 _ _ _ _ _
   | exact LeO.none _
   | refine LeO.ite ?_ ?_
   | refine LeO.bind ?_ (fun _ => ?_)
  ·intro y0 y1 y2 y3 y4
   unfold spec_l6Plus.l1
   repeat' first
   | (with_reducible exact h3 _ _ _ _ _)
   | (with_reducible exact j3 _ _ _ _ _)
   | (with_reducible exact LeO.refl _)
   | (with_reducible exact LeO.none _)
   | (with_reducible refine LeO.ite ?_ ?_)
   | (with_reducible refine LeO.bind ?_ (fun _ => ?_))
   | exact h3 _ _ _ _ _
   | exact j3 _ _ _ _ _
   | exact LeO.none _
   | refine LeO.ite ?_ ?_
   | refine LeO.bind ?_ (fun _ => ?_)
theorem spec_l6Plus.mono : ∀ a0 a1 a2 k, LeO (spec_l6Plus.f k a0 a1 a2) (spec_l6Plus.f (k + 1) a0 a1 a2) := by
 intro a0 a1 a2 k
 obtain ⟨h3, j3⟩ := spec_l6Plus.mono_l k
 unfold spec_l6Plus.f
 repeat' first
   | (with_reducible exact h3 _ _ _ _ _)
   | (with_reducible exact j3 _ _ _ _ _)
   | (with_reducible exact LeO.refl _)
   | (with_reducible exact LeO.none _)
   | (with_reducible refine LeO.ite ?_ ?_)
   | (with_reducible refine LeO.bind ?_ (fun _ => ?_))
   | exact h3 _ _ _ _ _
   | exact j3 _ _ _ _ _
   | exact LeO.none _
   | refine LeO.ite ?_ ?_
   | refine LeO.bind ?_ (fun _ => ?_)
set_option maxHeartbeats 8000000 in
set_option maxRecDepth 100000 in
theorem spec_l6Plus.calls (k : Nat) (a0_0 : Int) (a0_1 : Int) (a1 : Int) (r1 : Int) (r2 : Int) (r3 : Bool) (w : World) (h : spec_l6Plus.f k a0_0 a0_1 a1 = some (r1, r2, r3)) :
  Calls Try.prog 52 #[.agg #[.int .i64 a0_0, .int .i64 a0_1], .int .i64 a1] w fun e w' => e = .returned (.tuple #[.agg #[.int .i64 r1, .int .i64 r2], .bool r3]) ∧ Below w.heap.size w w' := by
 have I0 := Try.underlying26
 have HB := mk_ (Below.refl w.heap.size w)
 have H : (spec_l6Plus.l0 k a1 a0_1 a1 a0_0 a0_1) = some (r1, r2, r3) := h
 clear h
 have H' := mk_ H
 clear H
 go_enter Try.func52, Try.ntmps52
 go_wp2_with (first | ((with_reducible refine gd_ 2 rfl ?_); refine box_event ?hg (N := 2) ?hd (cs := #[.int .i64 a0_0, .int .i64 a0_1]) (t := 26) ?hr ?_; (case hd => rfl); (case hg => rfl); (case hr => exact hr_); intro p2 hg w3 hbox hb; have b0 := mk_ (hbox); have j4 := gk_ hg HB; replace HB := hk_ HB hb; have s0 := j4; clear hb hbox hg) | ((with_reducible refine gd_ 4 rfl ?_); refine box_event ?hg (N := 4) ?hd (cs := #[.int .i64 0, .int .i64 0]) (t := 26) ?hr ?_; (case hd => rfl); (case hg => rfl); (case hr => exact hr_); intro g7 hg w4 hbox hb; have b2 := mk_ (hbox); have j5 := gk_ hg HB; replace HB := hk_ HB hb; have h6 := j5; have b5 := nk_ hg b0; replace b0 := bk_ b0 hb; have d1 := ns_ b5; clear hb hbox hg; have y7 := b5.out; have y8 := d1.out; have p3 := bc0_ b0; have p4 := bc1_ b0; have p5 := bf_ b0 0; have p6 := bf_ b0 1))
 repeat (go_quiet (first | ((with_reducible refine gd_ 2 rfl ?_); refine box_event ?hg (N := 2) ?hd (cs := #[.int .i64 a0_0, .int .i64 a0_1]) (t := 26) ?hr ?_; (case hd => rfl); (case hg => rfl); (case hr => exact hr_); intro p2 hg w3 hbox hb; have b0 := mk_ (hbox); have j4 := gk_ hg HB; replace HB := hk_ HB hb; have s0 := j4; clear hb hbox hg) | ((with_reducible refine gd_ 4 rfl ?_); refine box_event ?hg (N := 4) ?hd (cs := #[.int .i64 0, .int .i64 0]) (t := 26) ?hr ?_; (case hd => rfl); (case hg => rfl); (case hr => exact hr_); intro g7 hg w4 hbox hb; have b2 := mk_ (hbox); have j5 := gk_ hg HB; replace HB := hk_ HB hb; have h6 := j5; have b5 := nk_ hg b0; replace b0 := bk_ b0 hb; have d1 := ns_ b5; clear hb hbox hg; have y7 := b5.out; have y8 := d1.out; have p3 := bc0_ b0; have p4 := bc1_ b0; have p5 := bf_ b0 0; have p6 := bf_ b0 1)); try go_wp2_with (first | ((with_reducible refine gd_ 2 rfl ?_); refine box_event ?hg (N := 2) ?hd (cs := #[.int .i64 a0_0, .int .i64 a0_1]) (t := 26) ?hr ?_; (case hd => rfl); (case hg => rfl); (case hr => exact hr_); intro p2 hg w3 hbox hb; have b0 := mk_ (hbox); have j4 := gk_ hg HB; replace HB := hk_ HB hb; have s0 := j4; clear hb hbox hg) | ((with_reducible refine gd_ 4 rfl ?_); refine box_event ?hg (N := 4) ?hd (cs := #[.int .i64 0, .int .i64 0]) (t := 26) ?hr ?_; (case hd => rfl); (case hg => rfl); (case hr => exact hr_); intro g7 hg w4 hbox hb; have b2 := mk_ (hbox); have j5 := gk_ hg HB; replace HB := hk_ HB hb; have h6 := j5; have b5 := nk_ hg b0; replace b0 := bk_ b0 hb; have d1 := ns_ b5; clear hb hbox hg; have y7 := b5.out; have y8 := d1.out; have p3 := bc0_ b0; have p4 := bc1_ b0; have p5 := bf_ b0 0; have p6 := bf_ b0 1)))
 go_loopg [6, 7] k (fun kq v6 v7 w' => ∃ (b6 : Int) (c3 : Int), v6 = .int .i64 b6 ∧ v7 = .int .i64 c3 ∧ Aside0 (spec_l6Plus.l0 kq a1 b6 c3 a0_0 a0_1 = some (r1, r2, r3)) ∧ Aside0 (kq ≤ k) ∧ Aside0 (w'.heap[p2]? = some (.cells #[.int .i64 a0_0, .int .i64 a0_1] 26 (0, 0))) ∧ Aside0 (w'.heap[g7]? = some (.cells #[.int .i64 0, .int .i64 0] 26 (0, 0))) ∧ Aside0 (Below w.heap.size w w'))
 case atStart => exact ⟨(a0_1), (a1), rf_, rf_, H', ⟨Nat.le_refl _⟩, bw_ b0, bw_ b2, ⟨hw_ HB⟩⟩
 case round =>
  clear H'
  obtain ⟨b6, c3, rfl, rfl, HA, t7, b0, b2, HB⟩ := hrel
  cases gk with
  | zero => exact absurd HA.out (by simp [spec_l6Plus.l0])
  | succ k1 =>
   have H := HA.out; clear HA
   simp only [spec_l6Plus.l0] at H
   by_cases c7 : c3 = 0
   ·rw [if_pos c7] at H; have j6 : (c3 == 0) = true := beq_iff_eq.mpr c7; have q3 : (c3 != 0) = false := bne_eq_false_iff_eq.mpr c7; clear c7; by_cases c8 : b6 = 0
    ·rw [if_pos c8] at H
     exact absurd H (by simp)
    ·rw [if_neg c8] at H; have I1 : (b6 == 0) = false := beq_eq_false_iff_ne.mpr c8; have I2 : (b6 != 0) = true := bne_iff_ne.mpr c8; by_cases c9 : (wrap64 (Int.tdiv a1 b6)) = 0
     ·rw [if_pos c9] at H
      exact absurd H (by simp)
     ·rw [if_neg c9] at H; have I3 : ((wrap64 (Int.tdiv a1 b6)) == 0) = false := beq_eq_false_iff_ne.mpr c9; have I4 : ((wrap64 (Int.tdiv a1 b6)) != 0) = true := bne_iff_ne.mpr c9; by_cases y9 : a0_0 > (wrap64 ((wrap64 (Int.tdiv (9000000000000000000 : Int) (wrap64 (Int.tdiv a1 b6)))) - (wrap64 (Int.tdiv a0_1 b6))))
      ·rw [if_pos y9] at H; have B5 : decide ((wrap64 ((wrap64 (Int.tdiv (9000000000000000000 : Int) (wrap64 (Int.tdiv a1 b6)))) - (wrap64 (Int.tdiv a0_1 b6)))) < a0_0) = true := decide_eq_true y9; clear y9
       simp only [Option.some.injEq, Prod.mk.injEq] at H
       obtain ⟨rfl, rfl, rfl⟩ := H; have J7 := b5.out
       have J8 := d1.out; have D3 := bc0_ b0
       have D4 := bc1_ b0; have D5 := bf_ b0 0; have D6 := bf_ b0 1; have q4 := bc0_ b2; have q5 := bc1_ b2; have q6 := bf_ b2 0; have q7 := bf_ b2 1; go_wp2
       repeat (go_quiet (fail); try go_wp2)
       refine bodyPost_ret (results_ct rfl _ _ g7 26 #[.int .i64 0, .int .i64 0] (0, 0) _ rfl (by (with_reducible repeat (first | refine blk_drewN ?_ _ | refine blk_drew ?_ | refine blk_alloc ?_ _)); refine blk_put (cs := #[.int .i64 0, .int .i64 0]) ?_ 1 _ rfl; (with_reducible repeat (first | refine blk_drewN ?_ _ | refine blk_drew ?_ | refine blk_alloc ?_ _)); refine blk_put (cs := #[.int .i64 0, .int .i64 0]) ?_ 0 _ rfl; (with_reducible repeat (first | refine blk_drewN ?_ _ | refine blk_drew ?_ | refine blk_alloc ?_ _)); exact b2.out) Try.underlying26 rfl (by kernel_rfl)) rfl ?_
       exact ⟨re_, by repeat (first | (with_reducible first | exact HB.out | apply below_alloc | apply pw_below_drewN | apply below_drew1 | refine below_set ?_ h6.out) | exact HB.out)⟩
      ·rw [if_neg y9] at H; have B5 : decide ((wrap64 ((wrap64 (Int.tdiv (9000000000000000000 : Int) (wrap64 (Int.tdiv a1 b6)))) - (wrap64 (Int.tdiv a0_1 b6)))) < a0_0) = false := decide_eq_false y9; clear y9
       have H' := mk_ H
       clear H; have J9 := b5.out; have L0 := d1.out; have D7 := bc0_ b0; have D8 := bc1_ b0; have D9 := bf_ b0 0; have E0 := bf_ b0 1; go_wp2
       repeat (go_quiet (fail); try go_wp2)
       go_loopg [12, 13] k1 (fun kq v12 v13 w' => ∃ (d0 : Int) (g2 : Int), v12 = .int .i64 d0 ∧ v13 = .int .i64 g2 ∧ Aside0 (spec_l6Plus.l1 kq a1 (wrap64 (Int.tdiv a0_1 b6)) (wrap64 ((wrap64 (a0_0 * (wrap64 (Int.tdiv a1 b6)))) + (wrap64 (Int.tdiv a0_1 b6)))) d0 g2 = some (r1, r2, r3)) ∧ Aside0 (kq ≤ k1) ∧ Aside0 (w'.heap[g7]? = some (.cells #[.int .i64 0, .int .i64 0] 26 (0, 0))) ∧ Aside0 (Below w.heap.size w w'))
       case atStart => exact ⟨(wrap64 ((wrap64 (a0_0 * (wrap64 (Int.tdiv a1 b6)))) + (wrap64 (Int.tdiv a0_1 b6)))), (b6), rf_, rf_, H', ⟨Nat.le_refl _⟩, bw_ b2, ⟨hw_ HB⟩⟩
       case round =>
        clear H'; (try clear c7); (try clear j6); (try clear q3); (try clear c8); (try clear I1); (try clear I2); (try clear c9); (try clear I3); (try clear I4); (try clear y9)
        obtain ⟨d0, g2, rfl, rfl, HA, p7, b2, HB⟩ := hrel
        cases gk with
        | zero => exact absurd HA.out (by simp [spec_l6Plus.l1])
        | succ k2 =>
         have H := HA.out; clear HA
         simp only [spec_l6Plus.l1] at H
         by_cases A2 : g2 = 0
         ·rw [if_pos A2] at H; have B6 : (g2 == 0) = true := beq_iff_eq.mpr A2; have B7 : (g2 != 0) = false := bne_eq_false_iff_eq.mpr A2; clear A2; by_cases p1 : d0 = 0
          ·rw [if_pos p1] at H
           exact absurd H (by simp)
          ·rw [if_neg p1] at H; have s1 : (d0 == 0) = false := beq_eq_false_iff_ne.mpr p1; have L1 : (d0 != 0) = true := bne_iff_ne.mpr p1; by_cases o6 : (wrap64 (Int.tdiv (wrap64 ((wrap64 (a0_0 * (wrap64 (Int.tdiv a1 b6)))) + (wrap64 (Int.tdiv a0_1 b6)))) d0)) > 1000000000000000
           ·rw [if_pos o6] at H; have p8 : decide (1000000000000000 < (wrap64 (Int.tdiv (wrap64 ((wrap64 (a0_0 * (wrap64 (Int.tdiv a1 b6)))) + (wrap64 (Int.tdiv a0_1 b6)))) d0))) = true := decide_eq_true o6; clear o6
            simp only [Option.some.injEq, Prod.mk.injEq] at H
            obtain ⟨rfl, rfl, rfl⟩ := H; have E1 := bc0_ b2
            have E2 := bc1_ b2; have E3 := bf_ b2 0; have E4 := bf_ b2 1; go_wp2
            repeat (go_quiet (fail); try go_wp2)
            refine bodyPost_ret (results_ct rfl _ _ g7 26 #[.int .i64 0, .int .i64 0] (0, 0) _ rfl (by (with_reducible repeat (first | refine blk_drewN ?_ _ | refine blk_drew ?_ | refine blk_alloc ?_ _)); refine blk_put (cs := #[.int .i64 0, .int .i64 0]) ?_ 1 _ rfl; (with_reducible repeat (first | refine blk_drewN ?_ _ | refine blk_drew ?_ | refine blk_alloc ?_ _)); refine blk_put (cs := #[.int .i64 0, .int .i64 0]) ?_ 0 _ rfl; (with_reducible repeat (first | refine blk_drewN ?_ _ | refine blk_drew ?_ | refine blk_alloc ?_ _)); exact b2.out) Try.underlying26 rfl (by kernel_rfl)) rfl ?_
            exact ⟨re_, by repeat (first | (with_reducible first | exact HB.out | apply below_alloc | apply pw_below_drewN | apply below_drew1 | refine below_set ?_ h6.out) | exact HB.out)⟩
           ·rw [if_neg o6] at H; have p8 : decide (1000000000000000 < (wrap64 (Int.tdiv (wrap64 ((wrap64 (a0_0 * (wrap64 (Int.tdiv a1 b6)))) + (wrap64 (Int.tdiv a0_1 b6)))) d0))) = false := decide_eq_false o6; clear o6; by_cases q8 : (wrap64 (Int.tdiv a1 d0)) = 0
            ·rw [if_pos q8] at H
             exact absurd H (by simp)
            ·rw [if_neg q8] at H; have B8 : ((wrap64 (Int.tdiv a1 d0)) == 0) = false := beq_eq_false_iff_ne.mpr q8; have L2 : ((wrap64 (Int.tdiv a1 d0)) != 0) = true := bne_iff_ne.mpr q8; by_cases p9 : (wrap64 (Int.tdiv a0_1 b6)) > (wrap64 (Int.tdiv (1000000000000000 : Int) (wrap64 (Int.tdiv a1 d0))))
             ·rw [if_pos p9] at H; have s2 : decide ((wrap64 (Int.tdiv (1000000000000000 : Int) (wrap64 (Int.tdiv a1 d0)))) < (wrap64 (Int.tdiv a0_1 b6))) = true := decide_eq_true p9; clear p9
              simp only [Option.some.injEq, Prod.mk.injEq] at H
              obtain ⟨rfl, rfl, rfl⟩ := H; have E5 := bc0_ b2
              have E6 := bc1_ b2; have E7 := bf_ b2 0; have E8 := bf_ b2 1; go_wp2
              repeat (go_quiet (fail); try go_wp2)
              refine bodyPost_ret (results_ct rfl _ _ g7 26 #[.int .i64 0, .int .i64 0] (0, 0) _ rfl (by (with_reducible repeat (first | refine blk_drewN ?_ _ | refine blk_drew ?_ | refine blk_alloc ?_ _)); refine blk_put (cs := #[.int .i64 0, .int .i64 0]) ?_ 1 _ rfl; (with_reducible repeat (first | refine blk_drewN ?_ _ | refine blk_drew ?_ | refine blk_alloc ?_ _)); refine blk_put (cs := #[.int .i64 0, .int .i64 0]) ?_ 0 _ rfl; (with_reducible repeat (first | refine blk_drewN ?_ _ | refine blk_drew ?_ | refine blk_alloc ?_ _)); exact b2.out) Try.underlying26 rfl (by kernel_rfl)) rfl ?_
              exact ⟨re_, by repeat (first | (with_reducible first | exact HB.out | apply below_alloc | apply pw_below_drewN | apply below_drew1 | refine below_set ?_ h6.out) | exact HB.out)⟩
             ·rw [if_neg p9] at H; have s2 : decide ((wrap64 (Int.tdiv (1000000000000000 : Int) (wrap64 (Int.tdiv a1 d0)))) < (wrap64 (Int.tdiv a0_1 b6))) = false := decide_eq_false p9; clear p9
              simp only [Option.some.injEq, Prod.mk.injEq] at H
              obtain ⟨rfl, rfl, rfl⟩ := H; have E9 := bc0_ b2
              have F0 := bc1_ b2; have F1 := bf_ b2 0; have F2 := bf_ b2 1; go_wp2
              repeat (go_quiet (fail); try go_wp2)
              refine bodyPost_ret (results_ct rfl _ _ g7 26 #[.int .i64 (wrap64 (Int.tdiv (wrap64 ((wrap64 (a0_0 * (wrap64 (Int.tdiv a1 b6)))) + (wrap64 (Int.tdiv a0_1 b6)))) d0)), .int .i64 (wrap64 ((wrap64 (Int.tdiv a0_1 b6)) * (wrap64 (Int.tdiv a1 d0))))] (0, 0) _ rfl (by (with_reducible repeat (first | refine blk_drewN ?_ _ | refine blk_drew ?_ | refine blk_alloc ?_ _)); refine blk_put (cs := #[.int .i64 (wrap64 (Int.tdiv (wrap64 ((wrap64 (a0_0 * (wrap64 (Int.tdiv a1 b6)))) + (wrap64 (Int.tdiv a0_1 b6)))) d0)), .int .i64 0]) ?_ 1 _ rfl; (with_reducible repeat (first | refine blk_drewN ?_ _ | refine blk_drew ?_ | refine blk_alloc ?_ _)); refine blk_put (cs := #[.int .i64 0, .int .i64 0]) ?_ 0 _ rfl; (with_reducible repeat (first | refine blk_drewN ?_ _ | refine blk_drew ?_ | refine blk_alloc ?_ _)); exact b2.out) Try.underlying26 rfl (by kernel_rfl)) rfl ?_
              exact ⟨re_, by repeat (first | (with_reducible first | exact HB.out | apply below_alloc | apply pw_below_drewN | apply below_drew1 | refine below_set ?_ h6.out) | exact HB.out)⟩
         ·rw [if_neg A2] at H; have B6 : (g2 == 0) = false := beq_eq_false_iff_ne.mpr A2; have B7 : (g2 != 0) = true := bne_iff_ne.mpr A2
          have H' := mk_ H
          clear H; go_wp2
          repeat (go_quiet (fail); try go_wp2)
          go_roundg k2
          case measure => have := t7.out; have := p7.out; omega
          case rel => exact ⟨(g2), (Int.tmod d0 g2), rf_, rf_, H', ⟨by have := t7.out; have := p7.out; omega⟩, bw_ b2, ⟨hw_ HB⟩⟩
   ·rw [if_neg c7] at H; have j6 : (c3 == 0) = false := beq_eq_false_iff_ne.mpr c7; have q3 : (c3 != 0) = true := bne_iff_ne.mpr c7
    have H' := mk_ H
    clear H; go_wp2
    repeat (go_quiet (fail); try go_wp2)
    go_roundg k1
    case measure => have := t7.out; omega
    case rel => exact ⟨(c3), (Int.tmod b6 c3), rf_, rf_, H', ⟨by have := t7.out; omega⟩, bw_ b0, bw_ b2, ⟨hw_ HB⟩⟩

/-! ### spec_Used: function 12 -/
mutual
def spec_Used.j0 : Nat → List (S101) → List Int → Bool → Option (Int × Int × Bool)
 | 0, _, _, _ => none
 | k + 1, x0, x1, N5 => if N5 = true then (some (0, 0, false)) else (spec_Used.l0 k x0 x1 0 0 1)
def spec_Used.l0 : Nat → List (S101) → List Int → Int → Int → Int → Option (Int × Int × Bool)
 | 0, _, _, _, _, _ => none
 | k + 1, x0, x1, x7, d5, d6 => if x7 < (x1.length : Int) then (spec_Used.l1 k x0 x1 x7 0 0 d5 d6) else (some (d5, d6, true))
def spec_Used.l1 : Nat → List (S101) → List Int → Int → Int → Int → Int → Int → Option (Int × Int × Bool)
 | 0, _, _, _, _, _, _, _ => none
 | k + 1, x0, x1, x7, x8, x9, d5, d6 => if x9 < (x0.length : Int) then (if 0 ≤ x9 then (if 0 ≤ x7 then (if x7 < (x1.length : Int) then (if ((rd_T101 x0 x9).f0) ≤ (rd x1 x7) then (spec_Used.l1 k x0 x1 x7 ((rd_T101 x0 x9).f1) (wrap64 (x9 + 1)) d5 d6) else (spec_Used.l1 k x0 x1 x7 x8 (wrap64 (x9 + 1)) d5 d6)) else (none)) else (none)) else (none)) else (if x8 = 0 then (spec_Used.l0 k x0 x1 (wrap64 (x7 + 1)) d5 d6) else ((spec_l6Plus.f k d5 d6 x8).bind fun q0 => (if q0.2.2 = true then (spec_Used.l0 k x0 x1 (wrap64 (x7 + 1)) q0.1 q0.2.1) else (some (0, 0, false)))))
end
def spec_Used.f (k : Nat) (l0 : List (S101)) (l1 : List Int) : Option (Int × Int × Bool) := (spec_l6Curve.f k l0).bind fun o7 => (if o7 = true then (if (l1.length : Int) > 40 then (spec_Used.j0 k l0 l1 true) else ((spec_l1All.f k l1 0 2000000).bind fun g6 => (spec_Used.j0 k l0 l1 (!g6)))) else (spec_Used.j0 k l0 l1 true))
theorem spec_Used.mono_l : ∀ k, (∀ y0 y1 y2, LeO (spec_Used.j0 k y0 y1 y2) (spec_Used.j0 (k + 1) y0 y1 y2)) ∧ (∀ y0 y1 y2 y3 y4, LeO (spec_Used.l0 k y0 y1 y2 y3 y4) (spec_Used.l0 (k + 1) y0 y1 y2 y3 y4)) ∧ (∀ y0 y1 y2 y3 y4 y5 y6, LeO (spec_Used.l1 k y0 y1 y2 y3 y4 y5 y6) (spec_Used.l1 (k + 1) y0 y1 y2 y3 y4 y5 y6))
 | 0 => ⟨fun _ _ _ r h => by simp [spec_Used.j0] at h, fun _ _ _ _ _ r h => by simp [spec_Used.l0] at h, fun _ _ _ _ _ _ _ r h => by simp [spec_Used.l1] at h⟩
 | k + 1 => by
  obtain ⟨h3, j3, q9⟩ := spec_Used.mono_l k
  refine ⟨?_, ?_, ?_⟩
  ·intro y0 y1 y2
   unfold spec_Used.j0
   repeat' first
   | (with_reducible exact h3 _ _ _)
   | (with_reducible exact j3 _ _ _ _ _)
   | (with_reducible exact q9 _ _ _ _ _ _ _)
   | (with_reducible exact spec_l1All.mono _ _ _ _)
   | (with_reducible exact spec_l6Curve.mono _ _)
   | (with_reducible exact spec_l6Plus.mono _ _ _ _)
   | (with_reducible exact LeO.refl _)
   | (with_reducible exact LeO.none _)
   | (with_reducible refine LeO.ite ?_ ?_)
   | (with_reducible refine LeO.bind ?_ (fun _ => ?_))
   | exact h3 _ _ _
   | exact j3 _ _ _ _ _
   | exact q9 _ _ _ _ _ _ _
   | exact spec_l1All.mono _ _ _ _
   | exact spec_l6Curve.mono _ _
   | exact spec_l6Plus.mono _ _ _ _
   | exact LeO.none _
   | refine LeO.ite ?_ ?_
   | refine LeO.bind ?_ (fun _ => ?_)
  ·intro y0 y1 y2 y3 y4
   unfold spec_Used.l0
   repeat' first
   | (with_reducible exact h3 _ _ _)
   | (with_reducible exact j3 _ _ _ _ _)
   | (with_reducible exact q9 _ _ _ _ _ _ _)
   | (with_reducible exact spec_l1All.mono _ _ _ _)
   | (with_reducible exact spec_l6Curve.mono _ _)
   | (with_reducible exact spec_l6Plus.mono _ _ _ _)
   | (with_reducible exact LeO.refl _)
   | (with_reducible exact LeO.none _)
   | (with_reducible refine LeO.ite ?_ ?_)
   | (with_reducible refine LeO.bind ?_ (fun _ => ?_))
   | exact h3 _ _ _
   | exact j3 _ _ _ _ _
   | exact q9 _ _ _ _ _ _ _
   | exact spec_l1All.mono _ _ _ _
   | exact spec_l6Curve.mono _ _
   | exact spec_l6Plus.mono _ _ _ _
   | exact LeO.none _
   | refine LeO.ite ?_ ?_
   | refine LeO.bind ?_ (fun _ => ?_)
  ·intro y0 y1 y2 y3 y4 y5 y6
   unfold spec_Used.l1
   repeat' first
   | (with_reducible exact h3 _ _ _)
   | (with_reducible exact j3 _ _ _ _ _)
   | (with_reducible exact q9 _ _ _ _ _ _ _)
   | (with_reducible exact spec_l1All.mono _ _ _ _)
   | (with_reducible exact spec_l6Curve.mono _ _)
   | (with_reducible exact spec_l6Plus.mono _ _ _ _)
   | (with_reducible exact LeO.refl _)
   | (with_reducible exact LeO.none _)
   | (with_reducible refine LeO.ite ?_ ?_)
   | (with_reducible refine LeO.bind ?_ (fun _ => ?_))
   | exact h3 _ _ _
   | exact j3 _ _ _ _ _
   | exact q9 _ _ _ _ _ _ _
   | exact spec_l1All.mono _ _ _ _
   | exact spec_l6Curve.mono _ _
   | exact spec_l6Plus.mono _ _ _ _
   | exact LeO.none _
   | refine LeO.ite ?_ ?_
   | refine LeO.bind ?_ (fun _ => ?_)
theorem spec_Used.mono : ∀ a0 a1 k, LeO (spec_Used.f k a0 a1) (spec_Used.f (k + 1) a0 a1) := by
 intro a0 a1 k
 obtain ⟨h3, j3, q9⟩ := spec_Used.mono_l k
 unfold spec_Used.f
 repeat' first
   | (with_reducible exact h3 _ _ _)
   | (with_reducible exact j3 _ _ _ _ _)
   | (with_reducible exact q9 _ _ _ _ _ _ _)
   | (with_reducible exact spec_l1All.mono _ _ _ _)
   | (with_reducible exact spec_l6Curve.mono _ _)
   | (with_reducible exact spec_l6Plus.mono _ _ _ _)
   | (with_reducible exact LeO.refl _)
   | (with_reducible exact LeO.none _)
   | (with_reducible refine LeO.ite ?_ ?_)
   | (with_reducible refine LeO.bind ?_ (fun _ => ?_))
   | exact h3 _ _ _
   | exact j3 _ _ _ _ _
   | exact q9 _ _ _ _ _ _ _
   | exact spec_l1All.mono _ _ _ _
   | exact spec_l6Curve.mono _ _
   | exact spec_l6Plus.mono _ _ _ _
   | exact LeO.none _
   | refine LeO.ite ?_ ?_
   | refine LeO.bind ?_ (fun _ => ?_)
set_option maxHeartbeats 8000000 in
set_option maxRecDepth 100000 in
theorem spec_Used.calls (k : Nat) (A0 : Option Addr) (c0 : Nat) (l0 : List (S101)) (A1 : Option Addr) (c1 : Nat) (l1 : List Int) (r1 : Int) (r2 : Int) (r3 : Bool) (w : World) (hr0 : Kd.C k101 w A0 l0.length l0) (hc0 : l0.length ≤ c0) (hr1 : Kd.C (Kd.int .i64) w A1 l1.length l1) (hc1 : l1.length ≤ c1) (h : spec_Used.f k l0 l1 = some (r1, r2, r3)) :
  Calls Try.prog 12 #[.slice A0 l0.length c0, .slice A1 l1.length c1] w fun e w' => e = .returned (.tuple #[.agg #[.int .i64 r1, .int .i64 r2], .bool r3]) ∧ Below w.heap.size w w' := by
 have I0 := Try.underlying26
 have l3 := mk_ hr0; have q1 := mk_ hc0; clear hr0 hc0; have B9 := mk_ hr1; have I5 := mk_ hc1; clear hr1 hc1; have HB := mk_ (Below.refl w.heap.size w)
 have H : ((spec_l6Curve.f k l0).bind fun o7 => (if o7 = true then (if (l1.length : Int) > 40 then (spec_Used.j0 k l0 l1 true) else ((spec_l1All.f k l1 0 2000000).bind fun g6 => (spec_Used.j0 k l0 l1 (!g6)))) else (spec_Used.j0 k l0 l1 true))) = some (r1, r2, r3) := h
 clear h; have I6 := mk_ H; clear H
 go_enter Try.func12, Try.ntmps12
 go_upto_region 1 with (first | ((with_reducible refine gd_ 4 rfl ?_); (try (refine gate_guard (by rfl) ?_; dsimp only)); refine box_event ?hg (N := 4) ?hd (cs := #[.int .i64 0, .int .i64 0]) (t := 26) ?hr ?_; (case hd => rfl); (case hg => rfl); (case hr => exact hr_); intro g8 hg w4 hbox hb; have a3 := mk_ (hbox); have j7 := gk_ hg HB; replace HB := hk_ HB hb; have j8 := j7; clear hb hbox hg))
 repeat (go_quiet (first | ((with_reducible refine gd_ 4 rfl ?_); (try (refine gate_guard (by rfl) ?_; dsimp only)); refine box_event ?hg (N := 4) ?hd (cs := #[.int .i64 0, .int .i64 0]) (t := 26) ?hr ?_; (case hd => rfl); (case hg => rfl); (case hr => exact hr_); intro g8 hg w4 hbox hb; have a3 := mk_ (hbox); have j7 := gk_ hg HB; replace HB := hk_ HB hb; have j8 := j7; clear hb hbox hg)); go_upto_region 1 with (first | ((with_reducible refine gd_ 4 rfl ?_); (try (refine gate_guard (by rfl) ?_; dsimp only)); refine box_event ?hg (N := 4) ?hd (cs := #[.int .i64 0, .int .i64 0]) (t := 26) ?hr ?_; (case hd => rfl); (case hg => rfl); (case hr => exact hr_); intro g8 hg w4 hbox hb; have a3 := mk_ (hbox); have j7 := gk_ hg HB; replace HB := hk_ HB hb; have j8 := j7; clear hb hbox hg)))
 (try simp only [Act.put, List.setIfInBounds_toArray, List.set_cons_zero, List.set_cons_succ])
 go_cut [24] (fun v24 wc => ∃ (kq : Nat) (m0 : Bool), v24 = .bool m0 ∧ Aside0 (spec_Used.j0 kq l0 l1 m0 = some (r1, r2, r3)) ∧ Aside0 (kq ≤ k) ∧ Aside0 (wc.heap[g8]? = some (.cells #[.int .i64 0, .int .i64 0] 26 (0, 0))) ∧ Aside0 (Below w.heap.size w wc))
 case first =>
  have H := I6.out; clear I6; replace H := Option.bind_eq_some_iff.mp H; obtain ⟨o7, L3, H⟩ := H
  replace H : (if o7 = true then (if (l1.length : Int) > 40 then (spec_Used.j0 k l0 l1 true) else ((spec_l1All.f k l1 0 2000000).bind fun g6 => (spec_Used.j0 k l0 l1 (!g6)))) else (spec_Used.j0 k l0 l1 true)) = some (r1, r2, r3) := H
  have A5 := mk_ L3; clear L3; by_cases c6 : o7 = true
  ·subst c6
   have H1 : (if (l1.length : Int) > 40 then (spec_Used.j0 k l0 l1 true) else ((spec_l1All.f k l1 0 2000000).bind fun g6 => (spec_Used.j0 k l0 l1 (!g6)))) = some (r1, r2, r3) := by rw [if_pos rfl] at H; exact H
   clear H
   have H := H1
   clear H1; by_cases c7 : (l1.length : Int) > 40
   ·rw [if_pos c7] at H; have j6 : decide (40 < (l1.length : Int)) = true := decide_eq_true c7; have q3 : decide (40 < l1.length) = true := decide_eq_true (by omega); clear c7
    (first | rw [j6] | (simp only [i64_w, i32_w]; rw [j6]) | skip)
    have H' := mk_ H
    clear H
    go_wp2_with (first | (go_at_call 50; (with_reducible refine (spec_l6Curve.calls k _ _ l0 true _ ?b7 ?b8 A5.out).mono ?_); (case b7 => exact cw_ (Kd.C_below l3.out HB.out)); (case b8 => exact q1.out); rintro e w8 ⟨rfl, hb⟩; replace a3 := bk_ a3 hb; replace HB := hk_ HB hb; (try clear hb); (try clear m2); (try clear hk); (try clear hi)))
    repeat (go_quiet (first | (go_at_call 50; (with_reducible refine (spec_l6Curve.calls k _ _ l0 true _ ?b7 ?b8 A5.out).mono ?_); (case b7 => exact cw_ (Kd.C_below l3.out HB.out)); (case b8 => exact q1.out); rintro e w8 ⟨rfl, hb⟩; replace a3 := bk_ a3 hb; replace HB := hk_ HB hb; (try clear hb); (try clear m2); (try clear hk); (try clear hi))); try go_wp2_with (first | (go_at_call 50; (with_reducible refine (spec_l6Curve.calls k _ _ l0 true _ ?b7 ?b8 A5.out).mono ?_); (case b7 => exact cw_ (Kd.C_below l3.out HB.out)); (case b8 => exact q1.out); rintro e w8 ⟨rfl, hb⟩; replace a3 := bk_ a3 hb; replace HB := hk_ HB hb; (try clear hb); (try clear m2); (try clear hk); (try clear hi))))
    go_meet
    case rel => exact ⟨_, (true), rf_, H', ⟨by first | omega | exact Nat.le_refl _⟩, bw_ a3, ⟨hw_ HB⟩⟩
   ·rw [if_neg c7] at H; have j6 : decide (40 < (l1.length : Int)) = false := decide_eq_false c7; have q3 : decide (40 < l1.length) = false := decide_eq_false (by omega); clear c7
    (first | rw [j6] | (simp only [i64_w, i32_w]; rw [j6]) | skip)
    replace H := Option.bind_eq_some_iff.mp H; obtain ⟨g6, L4, H⟩ := H
    replace H : (spec_Used.j0 k l0 l1 (!g6)) = some (r1, r2, r3) := H
    have A9 := mk_ L4; clear L4
    have H' := mk_ H
    clear H
    go_wp2_with (first | (go_at_call 50; (with_reducible refine (spec_l6Curve.calls k _ _ l0 true _ ?b7 ?b8 A5.out).mono ?_); (case b7 => exact cw_ (Kd.C_below l3.out HB.out)); (case b8 => exact q1.out); rintro e L5 ⟨rfl, hb⟩; replace a3 := bk_ a3 hb; replace HB := hk_ HB hb; (try clear hb); (try clear m2); (try clear hk); (try clear hi)) | (go_at_call 51; (with_reducible refine (spec_l1All.calls k _ _ l1 0 2000000 g6 _ ?b7 ?b8 A9.out).mono ?_); (case b7 => exact cw_ (Kd.C_below B9.out HB.out)); (case b8 => exact I5.out); rintro e w' ⟨rfl, ⟨nd, rfl⟩⟩; (try first | exact ⟨rfl, _, World.drewN_drewN _ _ _⟩ | exact ⟨rfl, _, Eq.trans (World.drewN_drewN _ _ _) (congrArg (World.drewN _) (Nat.add_assoc _ _ _))⟩)))
    repeat (go_quiet (first | (go_at_call 50; (with_reducible refine (spec_l6Curve.calls k _ _ l0 true _ ?b7 ?b8 A5.out).mono ?_); (case b7 => exact cw_ (Kd.C_below l3.out HB.out)); (case b8 => exact q1.out); rintro e L5 ⟨rfl, hb⟩; replace a3 := bk_ a3 hb; replace HB := hk_ HB hb; (try clear hb); (try clear m2); (try clear hk); (try clear hi)) | (go_at_call 51; (with_reducible refine (spec_l1All.calls k _ _ l1 0 2000000 g6 _ ?b7 ?b8 A9.out).mono ?_); (case b7 => exact cw_ (Kd.C_below B9.out HB.out)); (case b8 => exact I5.out); rintro e w' ⟨rfl, ⟨nd, rfl⟩⟩; (try first | exact ⟨rfl, _, World.drewN_drewN _ _ _⟩ | exact ⟨rfl, _, Eq.trans (World.drewN_drewN _ _ _) (congrArg (World.drewN _) (Nat.add_assoc _ _ _))⟩))); try go_wp2_with (first | (go_at_call 50; (with_reducible refine (spec_l6Curve.calls k _ _ l0 true _ ?b7 ?b8 A5.out).mono ?_); (case b7 => exact cw_ (Kd.C_below l3.out HB.out)); (case b8 => exact q1.out); rintro e L5 ⟨rfl, hb⟩; replace a3 := bk_ a3 hb; replace HB := hk_ HB hb; (try clear hb); (try clear m2); (try clear hk); (try clear hi)) | (go_at_call 51; (with_reducible refine (spec_l1All.calls k _ _ l1 0 2000000 g6 _ ?b7 ?b8 A9.out).mono ?_); (case b7 => exact cw_ (Kd.C_below B9.out HB.out)); (case b8 => exact I5.out); rintro e w' ⟨rfl, ⟨nd, rfl⟩⟩; (try first | exact ⟨rfl, _, World.drewN_drewN _ _ _⟩ | exact ⟨rfl, _, Eq.trans (World.drewN_drewN _ _ _) (congrArg (World.drewN _) (Nat.add_assoc _ _ _))⟩))))
    go_meet
    case rel => exact ⟨_, (!g6), rf_, H', ⟨by first | omega | exact Nat.le_refl _⟩, bw_ a3, ⟨hw_ HB⟩⟩
  ·replace c6 := Bool.eq_false_iff.mpr c6; subst c6
   have H1 : (spec_Used.j0 k l0 l1 true) = some (r1, r2, r3) := by rw [if_neg (show ¬ (false = true) by decide)] at H; exact H
   clear H
   have H := H1
   clear H1
   have H' := mk_ H
   clear H
   go_wp2_with (first | (go_at_call 50; (with_reducible refine (spec_l6Curve.calls k _ _ l0 false _ ?b7 ?b8 A5.out).mono ?_); (case b7 => exact cw_ (Kd.C_below l3.out HB.out)); (case b8 => exact q1.out); rintro e L6 ⟨rfl, hb⟩; replace a3 := bk_ a3 hb; replace HB := hk_ HB hb; (try clear hb); (try clear m2); (try clear hk); (try clear hi)))
   repeat (go_quiet (first | (go_at_call 50; (with_reducible refine (spec_l6Curve.calls k _ _ l0 false _ ?b7 ?b8 A5.out).mono ?_); (case b7 => exact cw_ (Kd.C_below l3.out HB.out)); (case b8 => exact q1.out); rintro e L6 ⟨rfl, hb⟩; replace a3 := bk_ a3 hb; replace HB := hk_ HB hb; (try clear hb); (try clear m2); (try clear hk); (try clear hi))); try go_wp2_with (first | (go_at_call 50; (with_reducible refine (spec_l6Curve.calls k _ _ l0 false _ ?b7 ?b8 A5.out).mono ?_); (case b7 => exact cw_ (Kd.C_below l3.out HB.out)); (case b8 => exact q1.out); rintro e L6 ⟨rfl, hb⟩; replace a3 := bk_ a3 hb; replace HB := hk_ HB hb; (try clear hb); (try clear m2); (try clear hk); (try clear hi))))
   go_meet
   case rel => exact ⟨_, (true), rf_, H', ⟨by first | omega | exact Nat.le_refl _⟩, bw_ a3, ⟨hw_ HB⟩⟩
 case rest =>
  clear I6; (try clear c1)
  obtain ⟨kq, m0, rfl, HA, s3, a3, HB⟩ := hcut
  cases kq with
  | zero => exact absurd HA.out (by simp [spec_Used.j0])
  | succ kj2 =>
   have H := HA.out; clear HA
   simp only [spec_Used.j0] at H
   by_cases B1 : m0 = true
   ·subst B1
    have H1 : (some (0, 0, false)) = some (r1, r2, r3) := by rw [if_pos rfl] at H; exact H
    clear H
    have H := H1
    clear H1
    simp only [Option.some.injEq, Prod.mk.injEq] at H
    obtain ⟨rfl, rfl, rfl⟩ := H; have q4 := bc0_ a3
    have q5 := bc1_ a3; have q6 := bf_ a3 0; have q7 := bf_ a3 1; go_wp2
    repeat (go_quiet (fail); try go_wp2)
    refine bodyPost_ret (results_ct rfl _ _ g8 26 #[.int .i64 0, .int .i64 0] (0, 0) _ rfl (by (with_reducible repeat (first | refine blk_drewN ?_ _ | refine blk_drew ?_ | refine blk_alloc ?_ _)); refine blk_put (cs := #[.int .i64 0, .int .i64 0]) ?_ 1 _ rfl; (with_reducible repeat (first | refine blk_drewN ?_ _ | refine blk_drew ?_ | refine blk_alloc ?_ _)); refine blk_put (cs := #[.int .i64 0, .int .i64 0]) ?_ 0 _ rfl; (with_reducible repeat (first | refine blk_drewN ?_ _ | refine blk_drew ?_ | refine blk_alloc ?_ _)); exact a3.out) Try.underlying26 rfl (by kernel_rfl)) rfl ?_
    exact ⟨re_, by repeat (first | (with_reducible first | exact HB.out | apply below_alloc | apply pw_below_drewN | apply below_drew1 | refine below_set ?_ j8.out) | exact HB.out)⟩
   ·replace B1 := Bool.eq_false_iff.mpr B1; subst B1
    have H1 : (spec_Used.l0 kj2 l0 l1 0 0 1) = some (r1, r2, r3) := by rw [if_neg (show ¬ (false = true) by decide)] at H; exact H
    clear H
    have H := H1
    clear H1
    have H' := mk_ H
    clear H
    go_wp2_with (first | ((with_reducible refine gd_ 6 rfl ?_); (try (refine gate_guard (by rfl) ?_; dsimp only)); refine box_event ?hg (N := 6) ?hd (cs := #[.int .i64 0, .int .i64 0]) (t := 26) ?hr ?_; (case hd => rfl); (case hg => rfl); (case hr => exact hr_); intro m3 hg L7 hbox hb; have a4 := mk_ (hbox); have j9 := gk_ hg HB; replace HB := hk_ HB hb; have m4 := j9; have a7 := nk_ hg a3; replace a3 := bk_ a3 hb; have c2 := ns_ a7; clear hb hbox hg; have s4 := c2.out; have s5 := a7.out; have m5 := bc0_ a4; have m6 := bc1_ a4; have m7 := bf_ a4 0; have m8 := bf_ a4 1))
    repeat (go_quiet (first | ((with_reducible refine gd_ 6 rfl ?_); (try (refine gate_guard (by rfl) ?_; dsimp only)); refine box_event ?hg (N := 6) ?hd (cs := #[.int .i64 0, .int .i64 0]) (t := 26) ?hr ?_; (case hd => rfl); (case hg => rfl); (case hr => exact hr_); intro m3 hg L7 hbox hb; have a4 := mk_ (hbox); have j9 := gk_ hg HB; replace HB := hk_ HB hb; have m4 := j9; have a7 := nk_ hg a3; replace a3 := bk_ a3 hb; have c2 := ns_ a7; clear hb hbox hg; have s4 := c2.out; have s5 := a7.out; have m5 := bc0_ a4; have m6 := bc1_ a4; have m7 := bf_ a4 0; have m8 := bf_ a4 1)); try go_wp2_with (first | ((with_reducible refine gd_ 6 rfl ?_); (try (refine gate_guard (by rfl) ?_; dsimp only)); refine box_event ?hg (N := 6) ?hd (cs := #[.int .i64 0, .int .i64 0]) (t := 26) ?hr ?_; (case hd => rfl); (case hg => rfl); (case hr => exact hr_); intro m3 hg L7 hbox hb; have a4 := mk_ (hbox); have j9 := gk_ hg HB; replace HB := hk_ HB hb; have m4 := j9; have a7 := nk_ hg a3; replace a3 := bk_ a3 hb; have c2 := ns_ a7; clear hb hbox hg; have s4 := c2.out; have s5 := a7.out; have m5 := bc0_ a4; have m6 := bc1_ a4; have m7 := bf_ a4 0; have m8 := bf_ a4 1)))
    go_loopg [7] kj2 (fun kq v7 w' => ∃ (d3 : Int) (d2 : Int) (b9 : Int) (a8 : Int) (a9 : Int), v7 = .int .i64 d3 ∧ Aside0 (spec_Used.l0 kq l0 l1 d3 a8 a9 = some (r1, r2, r3)) ∧ Aside0 (kq ≤ kj2) ∧ Aside0 (w'.heap[g8]? = some (.cells #[.int .i64 d2, .int .i64 b9] 26 (0, 0))) ∧ Aside0 (w'.heap[m3]? = some (.cells #[.int .i64 a8, .int .i64 a9] 26 (0, 0))) ∧ Aside0 (Below w.heap.size w w'))
    case atStart => exact ⟨(0), (0), (0), (0), (1), rf_, H', ⟨Nat.le_refl _⟩, ⟨by (with_reducible repeat (first | refine blk_drewN ?_ _ | refine blk_drew ?_ | refine blk_alloc ?_ _)); refine blk_far ?_ a7.out _; (with_reducible repeat (first | refine blk_drewN ?_ _ | refine blk_drew ?_ | refine blk_alloc ?_ _)); refine blk_far ?_ a7.out _; (with_reducible repeat (first | refine blk_drewN ?_ _ | refine blk_drew ?_ | refine blk_alloc ?_ _)); exact a3.out⟩, ⟨by (with_reducible repeat (first | refine blk_drewN ?_ _ | refine blk_drew ?_ | refine blk_alloc ?_ _)); refine blk_put (cs := #[.int .i64 0, .int .i64 0]) ?_ 1 _ rfl; (with_reducible repeat (first | refine blk_drewN ?_ _ | refine blk_drew ?_ | refine blk_alloc ?_ _)); refine blk_put (cs := #[.int .i64 0, .int .i64 0]) ?_ 0 _ rfl; (with_reducible repeat (first | refine blk_drewN ?_ _ | refine blk_drew ?_ | refine blk_alloc ?_ _)); exact a4.out⟩, ⟨by repeat (first | (with_reducible first | exact HB.out | apply below_alloc | apply pw_below_drewN | apply below_drew1 | refine below_set ?_ m4.out) | exact HB.out)⟩⟩
    case round =>
     clear H'; (try clear c1); (try clear B1)
     obtain ⟨d3, d2, b9, a8, a9, rfl, HA, p7, a3, a4, HB⟩ := hrel
     cases gk with
     | zero => exact absurd HA.out (by simp [spec_Used.l0])
     | succ k2 =>
      have H := HA.out; clear HA
      simp only [spec_Used.l0] at H
      by_cases p1 : d3 < (l1.length : Int)
      ·rw [if_pos p1] at H; have s1 : decide (d3 < (l1.length : Int)) = true := decide_eq_true p1; clear p1
       have H' := mk_ H
       clear H; go_wp2
       repeat (go_quiet (fail); try go_wp2)
       go_loopg [8, 9] k2 (fun kq v8 v9 w' => ∃ (g4 : Int) (d4 : Int), v8 = .int .i64 g4 ∧ v9 = .int .i64 d4 ∧ Aside0 (spec_Used.l1 kq l0 l1 d3 g4 d4 a8 a9 = some (r1, r2, r3)) ∧ Aside0 (kq ≤ k2) ∧ Aside0 (w'.heap[g8]? = some (.cells #[.int .i64 d2, .int .i64 b9] 26 (0, 0))) ∧ Aside0 (w'.heap[m3]? = some (.cells #[.int .i64 a8, .int .i64 a9] 26 (0, 0))) ∧ Aside0 (Below w.heap.size w w'))
       case atStart => exact ⟨(0), (0), rf_, rf_, H', ⟨Nat.le_refl _⟩, bw_ a3, bw_ a4, ⟨hw_ HB⟩⟩
       case round =>
        clear H'; (try clear c1); (try clear B1); (try clear p1)
        obtain ⟨g4, d4, rfl, rfl, HA, s6, a3, a4, HB⟩ := hrel
        cases gk with
        | zero => exact absurd HA.out (by simp [spec_Used.l1])
        | succ k3 =>
         have H := HA.out; clear HA
         simp only [spec_Used.l1] at H
         by_cases o6 : d4 < (l0.length : Int)
         ·rw [if_pos o6] at H; have p8 : decide (d4 < (l0.length : Int)) = true := decide_eq_true o6; clear o6; by_cases F3 : 0 ≤ d4
          ·rw [if_pos F3] at H; have L8 : decide (0 ≤ d4) = true := decide_eq_true F3; clear F3; by_cases q8 : 0 ≤ d3
           ·rw [if_pos q8] at H; have B8 : decide (0 ≤ d3) = true := decide_eq_true q8; clear q8; by_cases p9 : d3 < (l1.length : Int)
            ·rw [if_pos p9] at H; have s2 : decide (d3 < (l1.length : Int)) = true := decide_eq_true p9; clear p9; by_cases B2 : ((rd_T101 l0 d4).f0) ≤ (rd l1 d3)
             ·rw [if_pos B2] at H; have C0 : decide (((rd_T101 l0 d4).f0) ≤ (rd l1 d3)) = true := decide_eq_true B2; clear B2
              have H' := mk_ H
              clear H
              have l6 : 0 ≤ (d4 : Int) := od_
              have l7 : d4 < (l0.length : Int) := od_
              obtain ⟨s7, A3, d7, d8⟩ := at_T101 l3.out d4 l6 l7; cases A3
              replace d7 := (HB.out.cell (World.block_lt_of_cell? w _ d7)).trans d7
              replace d8 := (HB.out.cell (World.block_lt_of_cell? w _ d8)).trans d8
              replace l6 := eq_true l6; replace l7 := eq_true l7
              have l8 : 0 ≤ (d3 : Int) := od_
              have l9 : d3 < (l1.length : Int) := od_
              obtain ⟨C1, A4, d9⟩ := Kd.at_int B9.out d3 l8 l9; cases A4
              replace d9 := (HB.out.cell (World.block_lt_of_cell? w _ d9)).trans d9
              replace l8 := eq_true l8; replace l9 := eq_true l9
              have A7 : 0 ≤ (d4 : Int) := od_
              have A8 : d4 < (l0.length : Int) := od_
              obtain ⟨C2, I7, h9, j1⟩ := at_T101 l3.out d4 A7 A8; obtain rfl : s7 = C2 := (by injection I7)
              replace h9 := (HB.out.cell (World.block_lt_of_cell? w _ h9)).trans h9
              replace j1 := (HB.out.cell (World.block_lt_of_cell? w _ j1)).trans j1
              replace A7 := eq_true A7; replace A8 := eq_true A8; go_wp2
              repeat (go_quiet (fail); try go_wp2)
              go_roundg k3
              case measure => have := s3.out; have := p7.out; have := s6.out; omega
              case rel => exact ⟨((rd_T101 l0 d4).f1), (wrap64 (d4 + 1)), rf_, rf_, H', ⟨by have := s3.out; have := p7.out; have := s6.out; omega⟩, bw_ a3, bw_ a4, ⟨hw_ HB⟩⟩
             ·rw [if_neg B2] at H; have C0 : decide (((rd_T101 l0 d4).f0) ≤ (rd l1 d3)) = false := decide_eq_false B2; clear B2
              have H' := mk_ H
              clear H
              have l6 : 0 ≤ (d4 : Int) := od_
              have l7 : d4 < (l0.length : Int) := od_
              obtain ⟨s7, A3, d7, d8⟩ := at_T101 l3.out d4 l6 l7; cases A3
              replace d7 := (HB.out.cell (World.block_lt_of_cell? w _ d7)).trans d7
              replace d8 := (HB.out.cell (World.block_lt_of_cell? w _ d8)).trans d8
              replace l6 := eq_true l6; replace l7 := eq_true l7
              have l8 : 0 ≤ (d3 : Int) := od_
              have l9 : d3 < (l1.length : Int) := od_
              obtain ⟨C1, A4, d9⟩ := Kd.at_int B9.out d3 l8 l9; cases A4
              replace d9 := (HB.out.cell (World.block_lt_of_cell? w _ d9)).trans d9
              replace l8 := eq_true l8; replace l9 := eq_true l9; go_wp2
              repeat (go_quiet (fail); try go_wp2)
              go_roundg k3
              case measure => have := s3.out; have := p7.out; have := s6.out; omega
              case rel => exact ⟨(g4), (wrap64 (d4 + 1)), rf_, rf_, H', ⟨by have := s3.out; have := p7.out; have := s6.out; omega⟩, bw_ a3, bw_ a4, ⟨hw_ HB⟩⟩
            ·rw [if_neg p9] at H
             exact absurd H (by simp)
           ·rw [if_neg q8] at H
            exact absurd H (by simp)
          ·rw [if_neg F3] at H
           exact absurd H (by simp)
         ·rw [if_neg o6] at H; have p8 : decide (d4 < (l0.length : Int)) = false := decide_eq_false o6; clear o6; by_cases B0 : g4 = 0
          ·rw [if_pos B0] at H; have C3 : (g4 == 0) = true := beq_iff_eq.mpr B0; have C4 : (g4 != 0) = false := bne_eq_false_iff_eq.mpr B0; clear B0
           have H' := mk_ H
           clear H; go_wp2
           repeat (go_quiet (fail); try go_wp2)
           go_roundg k3
           case measure => have := s3.out; have := p7.out; have := s6.out; omega
           case rel => exact ⟨(wrap64 (d3 + 1)), (d2), (b9), (a8), (a9), rf_, H', ⟨by have := s3.out; have := p7.out; have := s6.out; omega⟩, bw_ a3, bw_ a4, ⟨hw_ HB⟩⟩
          ·rw [if_neg B0] at H; have C3 : (g4 == 0) = false := beq_eq_false_iff_ne.mpr B0; have C4 : (g4 != 0) = true := bne_iff_ne.mpr B0; replace H := Option.bind_eq_some_iff.mp H; obtain ⟨⟨h5, j2, C5⟩, C6, H⟩ := H
           replace H : (if C5 = true then (spec_Used.l0 k3 l0 l1 (wrap64 (d3 + 1)) h5 j2) else (some (0, 0, false))) = some (r1, r2, r3) := H
           have B3 := mk_ C6; clear C6; by_cases F4 : C5 = true
           ·subst F4
            have H1 : (spec_Used.l0 k3 l0 l1 (wrap64 (d3 + 1)) h5 j2) = some (r1, r2, r3) := by rw [if_pos rfl] at H; exact H
            clear H
            have H := H1
            clear H1
            have H' := mk_ H
            clear H; have L9 := c2.out; have M0 := a7.out; have F5 := bc0_ a4; have F6 := bc1_ a4; have F7 := bf_ a4 0; have F8 := bf_ a4 1
            go_wp2_with (first | (go_at_call 52; (with_reducible refine (spec_l6Plus.calls k3 a8 a9 g4 h5 j2 true _ B3.out).mono ?_); rintro e M1 ⟨rfl, hb⟩; replace a3 := bk_ a3 hb; replace a4 := bk_ a4 hb; replace HB := hk_ HB hb; (try clear hb); (try clear m2); (try clear hk); (try clear hi)) | ((with_reducible refine gd_ 10 rfl ?_); (try (refine gate_guard (by rfl) ?_; dsimp only)); refine box_event ?hg (N := 10) ?hd (cs := #[.int .i64 0, .int .i64 0]) (t := 26) ?hr ?_; (case hd => rfl); (case hg => rfl); (case hr => exact hr_); intro l2 hg M2 hbox hb; have b1 := mk_ (hbox); have g0 := gk_ hg HB; replace HB := hk_ HB hb; have h4 := g0; have a5 := nk_ hg a3; replace a3 := bk_ a3 hb; have b3 := ns_ a5; have a6 := nk_ hg a4; replace a4 := bk_ a4 hb; have b4 := ns_ a6; clear hb hbox hg; have s8 := b3.out; have s9 := a5.out; have t0 := b4.out; have t1 := a6.out; have m9 := bc0_ b1; have n0 := bc1_ b1; have n1 := bf_ b1 0; have n2 := bf_ b1 1; have n3 := bc0_ a4; have n4 := bc1_ a4; have n5 := bf_ a4 0; have n6 := bf_ a4 1))
            repeat (go_quiet (first | (go_at_call 52; (with_reducible refine (spec_l6Plus.calls k3 a8 a9 g4 h5 j2 true _ B3.out).mono ?_); rintro e M1 ⟨rfl, hb⟩; replace a3 := bk_ a3 hb; replace a4 := bk_ a4 hb; replace HB := hk_ HB hb; (try clear hb); (try clear m2); (try clear hk); (try clear hi)) | ((with_reducible refine gd_ 10 rfl ?_); (try (refine gate_guard (by rfl) ?_; dsimp only)); refine box_event ?hg (N := 10) ?hd (cs := #[.int .i64 0, .int .i64 0]) (t := 26) ?hr ?_; (case hd => rfl); (case hg => rfl); (case hr => exact hr_); intro l2 hg M2 hbox hb; have b1 := mk_ (hbox); have g0 := gk_ hg HB; replace HB := hk_ HB hb; have h4 := g0; have a5 := nk_ hg a3; replace a3 := bk_ a3 hb; have b3 := ns_ a5; have a6 := nk_ hg a4; replace a4 := bk_ a4 hb; have b4 := ns_ a6; clear hb hbox hg; have s8 := b3.out; have s9 := a5.out; have t0 := b4.out; have t1 := a6.out; have m9 := bc0_ b1; have n0 := bc1_ b1; have n1 := bf_ b1 0; have n2 := bf_ b1 1; have n3 := bc0_ a4; have n4 := bc1_ a4; have n5 := bf_ a4 0; have n6 := bf_ a4 1)); try go_wp2_with (first | (go_at_call 52; (with_reducible refine (spec_l6Plus.calls k3 a8 a9 g4 h5 j2 true _ B3.out).mono ?_); rintro e M1 ⟨rfl, hb⟩; replace a3 := bk_ a3 hb; replace a4 := bk_ a4 hb; replace HB := hk_ HB hb; (try clear hb); (try clear m2); (try clear hk); (try clear hi)) | ((with_reducible refine gd_ 10 rfl ?_); (try (refine gate_guard (by rfl) ?_; dsimp only)); refine box_event ?hg (N := 10) ?hd (cs := #[.int .i64 0, .int .i64 0]) (t := 26) ?hr ?_; (case hd => rfl); (case hg => rfl); (case hr => exact hr_); intro l2 hg M2 hbox hb; have b1 := mk_ (hbox); have g0 := gk_ hg HB; replace HB := hk_ HB hb; have h4 := g0; have a5 := nk_ hg a3; replace a3 := bk_ a3 hb; have b3 := ns_ a5; have a6 := nk_ hg a4; replace a4 := bk_ a4 hb; have b4 := ns_ a6; clear hb hbox hg; have s8 := b3.out; have s9 := a5.out; have t0 := b4.out; have t1 := a6.out; have m9 := bc0_ b1; have n0 := bc1_ b1; have n1 := bf_ b1 0; have n2 := bf_ b1 1; have n3 := bc0_ a4; have n4 := bc1_ a4; have n5 := bf_ a4 0; have n6 := bf_ a4 1)))
            go_roundg k3
            case measure => have := s3.out; have := p7.out; have := s6.out; omega
            case rel => exact ⟨(wrap64 (d3 + 1)), (d2), (b9), (h5), (j2), rf_, H', ⟨by have := s3.out; have := p7.out; have := s6.out; omega⟩, ⟨by (with_reducible repeat (first | refine blk_drewN ?_ _ | refine blk_drew ?_ | refine blk_alloc ?_ _)); refine blk_far ?_ a7.out _; (with_reducible repeat (first | refine blk_drewN ?_ _ | refine blk_drew ?_ | refine blk_alloc ?_ _)); refine blk_far ?_ a7.out _; (with_reducible repeat (first | refine blk_drewN ?_ _ | refine blk_drew ?_ | refine blk_alloc ?_ _)); refine blk_far ?_ a5.out _; (with_reducible repeat (first | refine blk_drewN ?_ _ | refine blk_drew ?_ | refine blk_alloc ?_ _)); refine blk_far ?_ a5.out _; (with_reducible repeat (first | refine blk_drewN ?_ _ | refine blk_drew ?_ | refine blk_alloc ?_ _)); exact a3.out⟩, ⟨by (with_reducible repeat (first | refine blk_drewN ?_ _ | refine blk_drew ?_ | refine blk_alloc ?_ _)); refine blk_put (cs := #[.int .i64 h5, .int .i64 a9]) ?_ 1 _ rfl; (with_reducible repeat (first | refine blk_drewN ?_ _ | refine blk_drew ?_ | refine blk_alloc ?_ _)); refine blk_put (cs := #[.int .i64 a8, .int .i64 a9]) ?_ 0 _ rfl; (with_reducible repeat (first | refine blk_drewN ?_ _ | refine blk_drew ?_ | refine blk_alloc ?_ _)); refine blk_far ?_ a6.out _; (with_reducible repeat (first | refine blk_drewN ?_ _ | refine blk_drew ?_ | refine blk_alloc ?_ _)); refine blk_far ?_ a6.out _; (with_reducible repeat (first | refine blk_drewN ?_ _ | refine blk_drew ?_ | refine blk_alloc ?_ _)); exact a4.out⟩, ⟨by repeat (first | (with_reducible first | exact HB.out | apply below_alloc | apply pw_below_drewN | apply below_drew1 | refine below_set ?_ m4.out | refine below_set ?_ h4.out) | exact HB.out)⟩⟩
           ·replace F4 := Bool.eq_false_iff.mpr F4; subst F4
            have H1 : (some (0, 0, false)) = some (r1, r2, r3) := by rw [if_neg (show ¬ (false = true) by decide)] at H; exact H
            clear H
            have H := H1
            clear H1
            simp only [Option.some.injEq, Prod.mk.injEq] at H
            obtain ⟨rfl, rfl, rfl⟩ := H; have M3 := c2.out
            have M4 := a7.out; have F9 := bc0_ a4
            have G0 := bc1_ a4; have G1 := bf_ a4 0; have G2 := bf_ a4 1
            go_wp2_with (first | (go_at_call 52; (with_reducible refine (spec_l6Plus.calls k3 a8 a9 g4 h5 j2 false _ B3.out).mono ?_); rintro e M5 ⟨rfl, hb⟩; replace a3 := bk_ a3 hb; replace a4 := bk_ a4 hb; replace HB := hk_ HB hb; (try clear hb); (try clear m2); (try clear hk); (try clear hi)) | ((with_reducible refine gd_ 10 rfl ?_); (try (refine gate_guard (by rfl) ?_; dsimp only)); refine box_event ?hg (N := 10) ?hd (cs := #[.int .i64 0, .int .i64 0]) (t := 26) ?hr ?_; (case hd => rfl); (case hg => rfl); (case hr => exact hr_); intro l2 hg M6 hbox hb; have b1 := mk_ (hbox); have g0 := gk_ hg HB; replace HB := hk_ HB hb; have h4 := g0; have a5 := nk_ hg a3; replace a3 := bk_ a3 hb; have b3 := ns_ a5; have a6 := nk_ hg a4; replace a4 := bk_ a4 hb; have b4 := ns_ a6; clear hb hbox hg; have t2 := b3.out; have t3 := a5.out; have t4 := b4.out; have t5 := a6.out; have n7 := bc0_ b1; have n8 := bc1_ b1; have n9 := bf_ b1 0; have o0 := bf_ b1 1; have o1 := bc0_ a3; have o2 := bc1_ a3; have o3 := bf_ a3 0; have o4 := bf_ a3 1))
            repeat (go_quiet (first | (go_at_call 52; (with_reducible refine (spec_l6Plus.calls k3 a8 a9 g4 h5 j2 false _ B3.out).mono ?_); rintro e M5 ⟨rfl, hb⟩; replace a3 := bk_ a3 hb; replace a4 := bk_ a4 hb; replace HB := hk_ HB hb; (try clear hb); (try clear m2); (try clear hk); (try clear hi)) | ((with_reducible refine gd_ 10 rfl ?_); (try (refine gate_guard (by rfl) ?_; dsimp only)); refine box_event ?hg (N := 10) ?hd (cs := #[.int .i64 0, .int .i64 0]) (t := 26) ?hr ?_; (case hd => rfl); (case hg => rfl); (case hr => exact hr_); intro l2 hg M6 hbox hb; have b1 := mk_ (hbox); have g0 := gk_ hg HB; replace HB := hk_ HB hb; have h4 := g0; have a5 := nk_ hg a3; replace a3 := bk_ a3 hb; have b3 := ns_ a5; have a6 := nk_ hg a4; replace a4 := bk_ a4 hb; have b4 := ns_ a6; clear hb hbox hg; have t2 := b3.out; have t3 := a5.out; have t4 := b4.out; have t5 := a6.out; have n7 := bc0_ b1; have n8 := bc1_ b1; have n9 := bf_ b1 0; have o0 := bf_ b1 1; have o1 := bc0_ a3; have o2 := bc1_ a3; have o3 := bf_ a3 0; have o4 := bf_ a3 1)); try go_wp2_with (first | (go_at_call 52; (with_reducible refine (spec_l6Plus.calls k3 a8 a9 g4 h5 j2 false _ B3.out).mono ?_); rintro e M5 ⟨rfl, hb⟩; replace a3 := bk_ a3 hb; replace a4 := bk_ a4 hb; replace HB := hk_ HB hb; (try clear hb); (try clear m2); (try clear hk); (try clear hi)) | ((with_reducible refine gd_ 10 rfl ?_); (try (refine gate_guard (by rfl) ?_; dsimp only)); refine box_event ?hg (N := 10) ?hd (cs := #[.int .i64 0, .int .i64 0]) (t := 26) ?hr ?_; (case hd => rfl); (case hg => rfl); (case hr => exact hr_); intro l2 hg M6 hbox hb; have b1 := mk_ (hbox); have g0 := gk_ hg HB; replace HB := hk_ HB hb; have h4 := g0; have a5 := nk_ hg a3; replace a3 := bk_ a3 hb; have b3 := ns_ a5; have a6 := nk_ hg a4; replace a4 := bk_ a4 hb; have b4 := ns_ a6; clear hb hbox hg; have t2 := b3.out; have t3 := a5.out; have t4 := b4.out; have t5 := a6.out; have n7 := bc0_ b1; have n8 := bc1_ b1; have n9 := bf_ b1 0; have o0 := bf_ b1 1; have o1 := bc0_ a3; have o2 := bc1_ a3; have o3 := bf_ a3 0; have o4 := bf_ a3 1)))
            refine bodyPost_ret (results_ct rfl _ _ g8 26 #[.int .i64 0, .int .i64 0] (0, 0) _ rfl (by (with_reducible repeat (first | refine blk_drewN ?_ _ | refine blk_drew ?_ | refine blk_alloc ?_ _)); refine blk_put (cs := #[.int .i64 0, .int .i64 b9]) ?_ 1 _ rfl; (with_reducible repeat (first | refine blk_drewN ?_ _ | refine blk_drew ?_ | refine blk_alloc ?_ _)); refine blk_put (cs := #[.int .i64 d2, .int .i64 b9]) ?_ 0 _ rfl; (with_reducible repeat (first | refine blk_drewN ?_ _ | refine blk_drew ?_ | refine blk_alloc ?_ _)); refine blk_far ?_ a5.out _; (with_reducible repeat (first | refine blk_drewN ?_ _ | refine blk_drew ?_ | refine blk_alloc ?_ _)); refine blk_far ?_ a5.out _; (with_reducible repeat (first | refine blk_drewN ?_ _ | refine blk_drew ?_ | refine blk_alloc ?_ _)); exact a3.out) Try.underlying26 rfl (by kernel_rfl)) rfl ?_
            exact ⟨re_, by repeat (first | (with_reducible first | exact HB.out | apply below_alloc | apply pw_below_drewN | apply below_drew1 | refine below_set ?_ j8.out | refine below_set ?_ h4.out) | exact HB.out)⟩
      ·rw [if_neg p1] at H; have s1 : decide (d3 < (l1.length : Int)) = false := decide_eq_false p1; clear p1
       simp only [Option.some.injEq, Prod.mk.injEq] at H
       obtain ⟨rfl, rfl, rfl⟩ := H; have M7 := c2.out
       have M8 := a7.out; have G3 := bc0_ a4
       have G4 := bc1_ a4; have G5 := bf_ a4 0; have G6 := bf_ a4 1; have G7 := bc0_ a3; have G8 := bc1_ a3; have G9 := bf_ a3 0; have H0 := bf_ a3 1; go_wp2
       repeat (go_quiet (fail); try go_wp2)
       refine bodyPost_ret (results_ct rfl _ _ g8 26 #[.int .i64 a8, .int .i64 a9] (0, 0) _ rfl (by (with_reducible repeat (first | refine blk_drewN ?_ _ | refine blk_drew ?_ | refine blk_alloc ?_ _)); refine blk_put (cs := #[.int .i64 a8, .int .i64 b9]) ?_ 1 _ rfl; (with_reducible repeat (first | refine blk_drewN ?_ _ | refine blk_drew ?_ | refine blk_alloc ?_ _)); refine blk_put (cs := #[.int .i64 d2, .int .i64 b9]) ?_ 0 _ rfl; (with_reducible repeat (first | refine blk_drewN ?_ _ | refine blk_drew ?_ | refine blk_alloc ?_ _)); exact a3.out) Try.underlying26 rfl (by kernel_rfl)) rfl ?_
       exact ⟨re_, by repeat (first | (with_reducible first | exact HB.out | apply below_alloc | apply pw_below_drewN | apply below_drew1 | refine below_set ?_ j8.out) | exact HB.out)⟩

/-! ### laws_toStep6: function 53 -/
def laws_toStep6.f (a0_0 : Int) (a0_1 : Int) : Option (Int × Int) := some (a0_0, a0_1)
set_option maxHeartbeats 8000000 in
set_option maxRecDepth 100000 in
theorem laws_toStep6.calls (a0_0 : Int) (a0_1 : Int) (r1 : Int) (r2 : Int) (w : World) (h : laws_toStep6.f a0_0 a0_1 = some (r1, r2)) :
  Calls Try.prog 53 #[.agg #[.int .i64 a0_0, .int .i64 a0_1]] w fun e w' => e = .returned (.agg #[.int .i64 r1, .int .i64 r2]) ∧ Below w.heap.size w w' := by
 have M9 := Try.underlying104
 have N0 := Try.underlying101
 have HB := mk_ (Below.refl w.heap.size w)
 have H : (some (a0_0, a0_1)) = some (r1, r2) := h
 clear h
 simp only [Option.some.injEq, Prod.mk.injEq] at H
 obtain ⟨rfl, rfl⟩ := H
 go_enter Try.func53, Try.ntmps53
 go_wp2_with (first | ((with_reducible refine gd_ 1 rfl ?_); refine box_event ?hg (N := 1) ?hd (cs := #[.int .i64 a0_0, .int .i64 a0_1]) (t := 104) ?hr ?_; (case hd => rfl); (case hg => rfl); (case hr => exact hr_); intro N1 hg w2 hbox hb; have g3 := mk_ (hbox); have C7 := gb_ hg HB; replace HB := bp_ HB hb; have N2 := C7; clear hb hbox hg) | ((with_reducible refine gd_ 2 rfl ?_); refine box_event ?hg (N := 2) ?hd (cs := #[.int .i64 0, .int .i64 0]) (t := 101) ?hr ?_; (case hd => rfl); (case hg => rfl); (case hr => exact hr_); intro C8 hg w3 hbox hb; have g9 := mk_ (hbox); have C9 := gb_ hg HB; replace HB := bp_ HB hb; have D0 := C9; have h7 := nb_ hg g3; replace g3 := bl_ g3 hb; have o8 := ns_ h7; clear hb hbox hg) | ((with_reducible refine gd_ 3 rfl ?_); refine box_event ?hg (N := 3) ?hd (cs := #[.int .i64 0, .int .i64 0]) (t := 101) ?hr ?_; (case hd => rfl); (case hg => rfl); (case hr => exact hr_); intro N3 hg w4 hbox hb; have o5 := mk_ (hbox); have D1 := gb_ hg HB; replace HB := bp_ HB hb; have D2 := D1; have h8 := nb_ hg g3; replace g3 := bl_ g3 hb; have o9 := ns_ h8; have g1 := nb_ hg g9; replace g9 := bl_ g9 hb; have p0 := ns_ g1; clear hb hbox hg; have y7 := h7.out; have y8 := o8.out; have N6 := h8.out; have N7 := o9.out; have I8 := bc0_ g3; have I9 := bc1_ g3; have J0 := bf_ g3 0; have J1 := bf_ g3 1; have N8 := p0.out; have N9 := g1.out; have J2 := bc0_ o5; have J3 := bc1_ o5; have J4 := bf_ o5 0; have J5 := bf_ o5 1; have H2 := bc0_ g9; have H3 := bc1_ g9; have H4 := bf_ g9 0; have H5 := bf_ g9 1))
 refine bodyPost_ret (results_cell_row rfl _ _ C8 101 #[.int .i64 a0_0, .int .i64 a0_1] (0, 0) _ rfl (by (with_reducible repeat (first | refine blk_drewN ?_ _ | refine blk_drew ?_ | refine blk_alloc ?_ _)); refine blk_put (cs := #[.int .i64 a0_0, .int .i64 0]) ?_ 1 _ rfl; (with_reducible repeat (first | refine blk_drewN ?_ _ | refine blk_drew ?_ | refine blk_alloc ?_ _)); refine blk_put (cs := #[.int .i64 0, .int .i64 0]) ?_ 0 _ rfl; (with_reducible repeat (first | refine blk_drewN ?_ _ | refine blk_drew ?_ | refine blk_alloc ?_ _)); refine blk_far ?_ g1.out _; (with_reducible repeat (first | refine blk_drewN ?_ _ | refine blk_drew ?_ | refine blk_alloc ?_ _)); refine blk_far ?_ g1.out _; (with_reducible repeat (first | refine blk_drewN ?_ _ | refine blk_drew ?_ | refine blk_alloc ?_ _)); exact g9.out) Try.underlying101 rfl (by kernel_rfl)) rfl ?_
 exact ⟨re_, by repeat (first | (with_reducible first | exact HB.out | apply below_alloc | apply pw_below_drewN | apply below_drew1 | refine below_set ?_ D0.out | refine below_set ?_ D2.out) | exact HB.out)⟩

end Go.Proofs.Ytkginilghcepbaa.QFnExactUsed
-- squeezed
