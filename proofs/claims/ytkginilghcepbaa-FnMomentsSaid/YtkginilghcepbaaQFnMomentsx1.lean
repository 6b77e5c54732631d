/- Lean functions that tell what the Go functions used by one law answer, and for each a proof that the Go code comes to just these answers; no condition. Printed by this session's own program over the kit's printer. -/
import Derived.Test.YtkginilghcepbaaWSq
import Derived.Test.YtkginilghcepbaaQFnMomentsx0
namespace Go.Proofs.Ytkginilghcepbaa.QFnMoments
open Go.RowKit Go.Proofs.YtkginilghcepbaaW.PrintWords Go.Proofs.YtkginilghcepbaaW.PrintLast Go.Proofs.YtkginilghcepbaaW.PrintMore
attribute [local go_sem] max2_int min2_int max_two min_two max_three min_three max_four min_four   -- for this text's walks alone
attribute [local go_sem high] go_eql go_neq go_lss go_leq go_gtr go_geq go_store   -- for this text's walks alone
set_option linter.unusedVariables false
set_option linter.unusedSimpArgs false

/-! ### laws_big: function 23 -/
def laws_big.f (l0 : List Int) : Option (Bool) := some (decide ((l0.length : Int) > 1048576))
set_option maxHeartbeats 8000000 in
set_option maxRecDepth 100000 in
theorem laws_big.calls (A0 : Option Addr) (c0 : Nat) (l0 : List Int) (r : Bool) (w : World) (hr0 : Kd.C (Kd.int .u8) w A0 l0.length l0) (hc0 : l0.length ≤ c0) (h : laws_big.f l0 = some r) :
  Calls Try.prog 23 #[.slice A0 l0.length c0] w fun e w' => e = .returned (.bool r) ∧ Drawn0 w w' := by
 have g2 := mk_ hr0; have m5 := mk_ hc0; clear hr0 hc0
 have H : (some (decide ((l0.length : Int) > 1048576))) = some r := h
 clear h; obtain rfl := Option.some.inj H
 go_enter Try.func23, Try.ntmps23
 go_wp2; go_ret
 exact ⟨by first | rfl | (simp; done) | (simp [*]; done), by repeat (first | exact Drawn0.refl _ | apply Drawn0.step)⟩

/-! ### laws_at: function 24 -/
def laws_at.f (l0 : List Int) (a1 : Int) : Option (Int) := if a1 < (l0.length : Int) then (if 0 ≤ a1 then (some (wrap64 (rd l0 a1))) else (none)) else (some (Int.tmod (wrap64 ((wrap64 (a1 * 7)) + (l0.length : Int))) 256))
set_option maxHeartbeats 8000000 in
set_option maxRecDepth 100000 in
theorem laws_at.calls (A0 : Option Addr) (c0 : Nat) (l0 : List Int) (a1 : Int) (r : Int) (w : World) (hr0 : Kd.C (Kd.int .u8) w A0 l0.length l0) (hc0 : l0.length ≤ c0) (h : laws_at.f l0 a1 = some r) :
  Calls Try.prog 24 #[.slice A0 l0.length c0, .int .i64 a1] w fun e w' => e = .returned (.int .i64 r) ∧ Drawn0 w w' := by
 have g2 := mk_ hr0; have m5 := mk_ hc0; clear hr0 hc0
 have H : (if a1 < (l0.length : Int) then (if 0 ≤ a1 then (some (wrap64 (rd l0 a1))) else (none)) else (some (Int.tmod (wrap64 ((wrap64 (a1 * 7)) + (l0.length : Int))) 256))) = some r := h
 clear h; by_cases c3 : a1 < (l0.length : Int)
 ·rw [if_pos c3] at H; have q5 : decide (a1 < (l0.length : Int)) = true := decide_eq_true c3; clear c3; by_cases c4 : 0 ≤ a1
  ·rw [if_pos c4] at H; have h4 : decide (0 ≤ a1) = true := decide_eq_true c4; clear c4; obtain rfl := Option.some.inj H
   have j5 : 0 ≤ (a1 : Int) := od_
   have j6 : a1 < (l0.length : Int) := od_
   obtain ⟨s3, q6, m6⟩ := Kd.at_int g2.out a1 j5 j6; cases q6; replace j5 := eq_true j5; replace j6 := eq_true j6
   go_enter Try.func24, Try.ntmps24
   go_wp2; go_ret
   exact ⟨by first | rfl | (simp; done) | (simp [*]; done), by repeat (first | exact Drawn0.refl _ | apply Drawn0.step)⟩
  ·rw [if_neg c4] at H
   exact absurd H (by simp)
 ·rw [if_neg c3] at H; have q5 : decide (a1 < (l0.length : Int)) = false := decide_eq_false c3; clear c3; obtain rfl := Option.some.inj H
  go_enter Try.func24, Try.ntmps24
  go_wp2; go_ret
  exact ⟨by first | rfl | (simp; done) | (simp [*]; done), by repeat (first | exact Drawn0.refl _ | apply Drawn0.step)⟩

/-! ### impl_in: function 65 -/
def impl_in.f (a0 : Int) (a1 : Int) (a2 : Int) : Option (Bool) := if a0 ≥ a1 then (some (decide (a0 ≤ a2))) else (some false)
set_option maxHeartbeats 8000000 in
set_option maxRecDepth 100000 in
theorem impl_in.calls (a0 : Int) (a1 : Int) (a2 : Int) (r : Bool) (w : World) (h : impl_in.f a0 a1 a2 = some r) :
  Calls Try.prog 65 #[.int .i64 a0, .int .i64 a1, .int .i64 a2] w fun e w' => e = .returned (.bool r) ∧ Drawn0 w w' := by
 have H : (if a0 ≥ a1 then (some (decide (a0 ≤ a2))) else (some false)) = some r := h
 clear h; by_cases c4 : a0 ≥ a1
 ·rw [if_pos c4] at H; have h4 : decide (a1 ≤ a0) = true := decide_eq_true c4; clear c4; obtain rfl := Option.some.inj H
  go_enter Try.func65, Try.ntmps65
  go_wp2; go_ret
  exact ⟨by first | rfl | (simp; done) | (simp [*]; done), by repeat (first | exact Drawn0.refl _ | apply Drawn0.step)⟩
 ·rw [if_neg c4] at H; have h4 : decide (a1 ≤ a0) = false := decide_eq_false c4; clear c4; obtain rfl := Option.some.inj H
  go_enter Try.func65, Try.ntmps65
  go_wp2; go_ret
  exact ⟨by first | rfl | (simp; done) | (simp [*]; done), by repeat (first | exact Drawn0.refl _ | apply Drawn0.step)⟩

/-! ### impl_SumOf: function 30 -/
def impl_SumOf.l0 : Nat → List (S64) → List (S64) → Int → Int → Int → Int → Option (Int × Int × Bool)
 | 0, _, _, _, _, _, _ => none
 | k + 1, x0, x8, x9, g3, g9, h2 => if g3 < x9 then (if 0 ≤ g3 then (if g3 < (x8.length : Int) then ((impl_in.f ((rd_T64 x8 g3).f0) 0 10000).bind fun h8 => (if h8 = true then ((impl_in.f ((rd_T64 x8 g3).f1) (-1000) 1000).bind fun d4 => (if d4 = true then (impl_SumOf.l0 k x0 x8 x9 (wrap64 (g3 + 1)) (wrap64 (g9 + ((rd_T64 x8 g3).f0))) (wrap64 (h2 + (wrap64 (((rd_T64 x8 g3).f0) * ((rd_T64 x8 g3).f1)))))) else (some (0, 0, false)))) else (some (0, 0, false)))) else (none)) else (none)) else (if (x0.length : Int) > 40 then (some (0, 0, false)) else (some (g9, h2, true)))
def impl_SumOf.f (k : Nat) (l0 : List (S64)) : Option (Int × Int × Bool) := impl_SumOf.l0 k l0 l0 (l0.length : Int) 0 0 0
theorem impl_SumOf.mono_l : ∀ k, (∀ y0 y1 y2 y3 y4 y5, LeO (impl_SumOf.l0 k y0 y1 y2 y3 y4 y5) (impl_SumOf.l0 (k + 1) y0 y1 y2 y3 y4 y5))
 | 0 => fun _ _ _ _ _ _ r h => by simp [impl_SumOf.l0] at h
 | k + 1 => by
  have d5 := impl_SumOf.mono_l k
  ·intro y0 y1 y2 y3 y4 y5
   unfold impl_SumOf.l0
   repeat' first
   | (with_reducible exact d5 _ _ _ _ _ _)
   | (with_reducible exact LeO.refl _)
   | (with_reducible exact LeO.none _)
   | (with_reducible refine LeO.ite ?_ ?_)
   | (with_reducible refine LeO.bind ?_ (fun _ => ?_))
   | exact d5 _ _ _ _ _ _
   | exact LeO.none _
   | refine LeO.ite ?_ ?_
   | refine LeO.bind ?_ (fun _ => ?_)
theorem impl_SumOf.mono : ∀ a0 k, LeO (impl_SumOf.f k a0) (impl_SumOf.f (k + 1) a0) := by
 intro a0 k
 have d5 := impl_SumOf.mono_l k
 unfold impl_SumOf.f
 repeat' first
   | (with_reducible exact d5 _ _ _ _ _ _)
   | (with_reducible exact LeO.refl _)
   | (with_reducible exact LeO.none _)
   | (with_reducible refine LeO.ite ?_ ?_)
   | (with_reducible refine LeO.bind ?_ (fun _ => ?_))
   | exact d5 _ _ _ _ _ _
   | exact LeO.none _
   | refine LeO.ite ?_ ?_
   | refine LeO.bind ?_ (fun _ => ?_)
set_option maxHeartbeats 8000000 in
set_option maxRecDepth 100000 in
theorem impl_SumOf.calls (k : Nat) (A0 : Option Addr) (c0 : Nat) (l0 : List (S64)) (r1 : Int) (r2 : Int) (r3 : Bool) (w : World) (hr0 : Kd.C k64 w A0 l0.length l0) (hc0 : l0.length ≤ c0) (h : impl_SumOf.f k l0 = some (r1, r2, r3)) :
  Calls Try.prog 30 #[.slice A0 l0.length c0] w fun e w' => e = .returned (.tuple #[.agg #[.int .i64 r1, .int .i64 r2], .bool r3]) ∧ Below w.heap.size w w' := by
 have A8 := Try.underlying66
 have B0 := Try.underlying64
 have g2 := mk_ hr0; have m5 := mk_ hc0; clear hr0 hc0; have HB := mk_ (Below.refl w.heap.size w)
 have H : (impl_SumOf.l0 k l0 l0 (l0.length : Int) 0 0 0) = some (r1, r2, r3) := h
 clear h
 have H' := mk_ H
 clear H
 go_enter Try.func30, Try.ntmps30
 go_wp2_with (first | ((with_reducible refine gd_ 2 rfl ?_); refine box_event ?hg (N := 2) ?hd (cs := #[.int .i64 0, .int .i64 0]) (t := 66) ?hr ?_; (case hd => rfl); (case hg => rfl); (case hr => exact hr_); intro d6 hg w2 hbox hb; have a5 := mk_ (hbox); have l5 := gb_ hg HB; replace HB := bp_ HB hb; have h3 := l5; clear hb hbox hg) | ((with_reducible refine gd_ 4 rfl ?_); refine box_event ?hg (N := 4) ?hd (cs := #[.int .i64 0, .int .i64 0]) (t := 66) ?hr ?_; (case hd => rfl); (case hg => rfl); (case hr => exact hr_); intro l6 hg w3 hbox hb; have b2 := mk_ (hbox); have l7 := gb_ hg HB; replace HB := bp_ HB hb; have j2 := l7; have a8 := nb_ hg a5; replace a5 := bl_ a5 hb; have b6 := ns_ a8; clear hb hbox hg; have B1 := b6.out; have B2 := a8.out; have q7 := bc0_ b2; have q8 := bc1_ b2; have q9 := bf_ b2 0; have s0 := bf_ b2 1))
 go_loopg [10] k (fun kq v10 w' => ∃ (a4 : Int) (b5 : Int) (a9 : Int) (a7 : Int) (b0 : Int), v10 = .int .i64 a4 ∧ Aside0 (impl_SumOf.l0 kq l0 l0 (l0.length : Int) a4 a7 b0 = some (r1, r2, r3)) ∧ Aside0 (kq ≤ k) ∧ Aside0 (w'.heap[d6]? = some (.cells #[.int .i64 b5, .int .i64 a9] 66 (0, 0))) ∧ Aside0 (w'.heap[l6]? = some (.cells #[.int .i64 a7, .int .i64 b0] 66 (0, 0))) ∧ Aside0 (Below w.heap.size w w'))
 case atStart => exact ⟨(0), (0), (0), (0), (0), rf_, H', ⟨Nat.le_refl _⟩, ⟨by (with_reducible repeat (first | refine blk_drewN ?_ _ | refine blk_drew ?_ | refine blk_alloc ?_ _)); refine blk_far ?_ a8.out _; (with_reducible repeat (first | refine blk_drewN ?_ _ | refine blk_drew ?_ | refine blk_alloc ?_ _)); refine blk_far ?_ a8.out _; (with_reducible repeat (first | refine blk_drewN ?_ _ | refine blk_drew ?_ | refine blk_alloc ?_ _)); exact a5.out⟩, ⟨by (with_reducible repeat (first | refine blk_drewN ?_ _ | refine blk_drew ?_ | refine blk_alloc ?_ _)); refine blk_put (cs := #[.int .i64 0, .int .i64 0]) ?_ 1 _ rfl; (with_reducible repeat (first | refine blk_drewN ?_ _ | refine blk_drew ?_ | refine blk_alloc ?_ _)); refine blk_put (cs := #[.int .i64 0, .int .i64 0]) ?_ 0 _ rfl; (with_reducible repeat (first | refine blk_drewN ?_ _ | refine blk_drew ?_ | refine blk_alloc ?_ _)); exact b2.out⟩, ⟨by repeat (first | (with_reducible first | exact HB.out | apply below_alloc | apply pw_below_drewN | apply below_drew1 | refine below_set ?_ j2.out) | exact HB.out)⟩⟩
 case round =>
  clear H'
  obtain ⟨a4, b5, a9, a7, b0, rfl, HA, h7, a5, b2, HB⟩ := hrel
  cases gk with
  | zero => exact absurd HA.out (by simp [impl_SumOf.l0])
  | succ k1 =>
   have H := HA.out; clear HA
   simp only [impl_SumOf.l0] at H
   by_cases c6 : a4 < (l0.length : Int)
   ·rw [if_pos c6] at H; have j7 : decide (a4 < (l0.length : Int)) = true := decide_eq_true c6; clear c6; by_cases c7 : 0 ≤ a4
    ·rw [if_pos c7] at H; have B3 : decide (0 ≤ a4) = true := decide_eq_true c7; clear c7; by_cases c8 : a4 < (l0.length : Int)
     ·rw [if_pos c8] at H; have B4 : decide (a4 < (l0.length : Int)) = true := decide_eq_true c8; clear c8; replace H := Option.bind_eq_some_iff.mp H; obtain ⟨h8, s4, H⟩ := H
      replace H : (if h8 = true then ((impl_in.f ((rd_T64 l0 a4).f1) (-1000) 1000).bind fun d4 => (if d4 = true then (impl_SumOf.l0 k1 l0 l0 (l0.length : Int) (wrap64 (a4 + 1)) (wrap64 (a7 + ((rd_T64 l0 a4).f0))) (wrap64 (b0 + (wrap64 (((rd_T64 l0 a4).f0) * ((rd_T64 l0 a4).f1)))))) else (some (0, 0, false)))) else (some (0, 0, false))) = some (r1, r2, r3) := H
      have A9 := mk_ s4; clear s4; by_cases m7 : h8 = true
      ·subst m7
       have H1 : ((impl_in.f ((rd_T64 l0 a4).f1) (-1000) 1000).bind fun d4 => (if d4 = true then (impl_SumOf.l0 k1 l0 l0 (l0.length : Int) (wrap64 (a4 + 1)) (wrap64 (a7 + ((rd_T64 l0 a4).f0))) (wrap64 (b0 + (wrap64 (((rd_T64 l0 a4).f0) * ((rd_T64 l0 a4).f1)))))) else (some (0, 0, false)))) = some (r1, r2, r3) := by rw [if_pos rfl] at H; exact H
       clear H
       have H := H1
       clear H1; replace H := Option.bind_eq_some_iff.mp H; obtain ⟨d4, l8, H⟩ := H
       replace H : (if d4 = true then (impl_SumOf.l0 k1 l0 l0 (l0.length : Int) (wrap64 (a4 + 1)) (wrap64 (a7 + ((rd_T64 l0 a4).f0))) (wrap64 (b0 + (wrap64 (((rd_T64 l0 a4).f0) * ((rd_T64 l0 a4).f1)))))) else (some (0, 0, false))) = some (r1, r2, r3) := H
       have s5 := mk_ l8; clear l8; by_cases h9 : d4 = true
       ·subst h9
        have H1 : (impl_SumOf.l0 k1 l0 l0 (l0.length : Int) (wrap64 (a4 + 1)) (wrap64 (a7 + ((rd_T64 l0 a4).f0))) (wrap64 (b0 + (wrap64 (((rd_T64 l0 a4).f0) * ((rd_T64 l0 a4).f1)))))) = some (r1, r2, r3) := by rw [if_pos rfl] at H; exact H
        clear H
        have H := H1
        clear H1
        have H' := mk_ H
        clear H
        have d1 : 0 ≤ (a4 : Int) := od_
        have d2 : a4 < (l0.length : Int) := od_
        obtain ⟨j3, h5, b3, b4⟩ := at_T64 g2.out a4 d1 d2; cases h5
        replace b3 := (HB.out.cell (World.block_lt_of_cell? w _ b3)).trans b3
        replace b4 := (HB.out.cell (World.block_lt_of_cell? w _ b4)).trans b4
        replace d1 := eq_true d1; replace d2 := eq_true d2
        go_wp2_with (first | ((with_reducible refine gd_ 6 rfl ?_); refine box_event ?hg (N := 6) ?hd (cs := #[.int .i64 0, .int .i64 0]) (t := 64) ?hr ?_; (case hd => rfl); (case hg => rfl); (case hr => exact hr_); intro j4 hg B5 hbox hb; have b7 := mk_ (hbox); have d7 := gb_ hg HB; replace HB := bp_ HB hb; have d8 := d7; have a6 := nb_ hg a5; replace a5 := bl_ a5 hb; have b8 := ns_ a6; have b1 := nb_ hg b2; replace b2 := bl_ b2 hb; have b9 := ns_ b1; clear hb hbox hg; have s6 := b8.out; have s7 := a6.out; have s8 := b9.out; have s9 := b1.out; have m8 := bc0_ b7; have m9 := bc1_ b7; have n0 := bf_ b7 0; have n1 := bf_ b7 1) | ((with_reducible refine gc_ 65 rfl ?_); refine gl_ (some 16) rfl Try.func65 #[.int .i64 ((rd_T64 l0 a4).f0), .int .i64 0, .int .i64 10000] ?_; (with_reducible refine (impl_in.calls ((rd_T64 l0 a4).f0) 0 10000 true _ A9.out).mono ?_); rintro e w' ⟨rfl, ⟨nd, rfl⟩⟩; refine ⟨_, rfl, ?_⟩) | (go_at_call 65; (with_reducible refine (impl_in.calls ((rd_T64 l0 a4).f1) (-1000) 1000 true _ s5.out).mono ?_); rintro e w' ⟨rfl, ⟨nd, rfl⟩⟩; have t0 := b6.out; have t1 := a8.out; have n2 := bc0_ b2; have n3 := bc1_ b2; have n4 := bf_ b2 0; have n5 := bf_ b2 1))
        go_roundg k1
        case measure => have := h7.out; omega
        case rel => exact ⟨(wrap64 (a4 + 1)), (b5), (a9), (wrap64 (a7 + ((rd_T64 l0 a4).f0))), (wrap64 (b0 + (wrap64 (((rd_T64 l0 a4).f0) * ((rd_T64 l0 a4).f1))))), rf_, H', ⟨by have := h7.out; omega⟩, ⟨by (with_reducible repeat (first | refine blk_drewN ?_ _ | refine blk_drew ?_ | refine blk_alloc ?_ _)); refine blk_far ?_ a8.out _; (with_reducible repeat (first | refine blk_drewN ?_ _ | refine blk_drew ?_ | refine blk_alloc ?_ _)); refine blk_far ?_ a8.out _; (with_reducible repeat (first | refine blk_drewN ?_ _ | refine blk_drew ?_ | refine blk_alloc ?_ _)); refine blk_far ?_ a6.out _; (with_reducible repeat (first | refine blk_drewN ?_ _ | refine blk_drew ?_ | refine blk_alloc ?_ _)); refine blk_far ?_ a6.out _; (with_reducible repeat (first | refine blk_drewN ?_ _ | refine blk_drew ?_ | refine blk_alloc ?_ _)); exact a5.out⟩, ⟨by (with_reducible repeat (first | refine blk_drewN ?_ _ | refine blk_drew ?_ | refine blk_alloc ?_ _)); refine blk_put (cs := #[.int .i64 (wrap64 (a7 + ((rd_T64 l0 a4).f0))), .int .i64 b0]) ?_ 1 _ rfl; (with_reducible repeat (first | refine blk_drewN ?_ _ | refine blk_drew ?_ | refine blk_alloc ?_ _)); refine blk_put (cs := #[.int .i64 a7, .int .i64 b0]) ?_ 0 _ rfl; (with_reducible repeat (first | refine blk_drewN ?_ _ | refine blk_drew ?_ | refine blk_alloc ?_ _)); refine blk_far ?_ b1.out _; (with_reducible repeat (first | refine blk_drewN ?_ _ | refine blk_drew ?_ | refine blk_alloc ?_ _)); refine blk_far ?_ b1.out _; (with_reducible repeat (first | refine blk_drewN ?_ _ | refine blk_drew ?_ | refine blk_alloc ?_ _)); exact b2.out⟩, ⟨by repeat (first | (with_reducible first | exact HB.out | apply below_alloc | apply pw_below_drewN | apply below_drew1 | refine below_set ?_ j2.out | refine below_set ?_ d8.out) | exact HB.out)⟩⟩
       ·replace h9 := Bool.eq_false_iff.mpr h9; subst h9
        have H1 : (some (0, 0, false)) = some (r1, r2, r3) := by rw [if_neg (show ¬ (false = true) by decide)] at H; exact H
        clear H
        have H := H1
        clear H1
        simp only [Option.some.injEq, Prod.mk.injEq] at H
        obtain ⟨rfl, rfl, rfl⟩ := H
        have d1 : 0 ≤ (a4 : Int) := od_
        have d2 : a4 < (l0.length : Int) := od_
        obtain ⟨j3, h5, b3, b4⟩ := at_T64 g2.out a4 d1 d2; cases h5
        replace b3 := (HB.out.cell (World.block_lt_of_cell? w _ b3)).trans b3
        replace b4 := (HB.out.cell (World.block_lt_of_cell? w _ b4)).trans b4
        replace d1 := eq_true d1; replace d2 := eq_true d2
        go_wp2_with (first | ((with_reducible refine gd_ 6 rfl ?_); refine box_event ?hg (N := 6) ?hd (cs := #[.int .i64 0, .int .i64 0]) (t := 64) ?hr ?_; (case hd => rfl); (case hg => rfl); (case hr => exact hr_); intro j4 hg B6 hbox hb; have b7 := mk_ (hbox); have d7 := gb_ hg HB; replace HB := bp_ HB hb; have d8 := d7; have a6 := nb_ hg a5; replace a5 := bl_ a5 hb; have b8 := ns_ a6; have b1 := nb_ hg b2; replace b2 := bl_ b2 hb; have b9 := ns_ b1; clear hb hbox hg; have t2 := b8.out; have t3 := a6.out; have t4 := b9.out; have t5 := b1.out; have n6 := bc0_ b7; have n7 := bc1_ b7; have n8 := bf_ b7 0; have n9 := bf_ b7 1) | ((with_reducible refine gc_ 65 rfl ?_); refine gl_ (some 16) rfl Try.func65 #[.int .i64 ((rd_T64 l0 a4).f0), .int .i64 0, .int .i64 10000] ?_; (with_reducible refine (impl_in.calls ((rd_T64 l0 a4).f0) 0 10000 true _ A9.out).mono ?_); rintro e w' ⟨rfl, ⟨nd, rfl⟩⟩; refine ⟨_, rfl, ?_⟩) | (go_at_call 65; (with_reducible refine (impl_in.calls ((rd_T64 l0 a4).f1) (-1000) 1000 false _ s5.out).mono ?_); rintro e w' ⟨rfl, ⟨nd, rfl⟩⟩; have t6 := a8.out; have t7 := b6.out; have o0 := bc0_ a5; have o1 := bc1_ a5; have o2 := bf_ a5 0; have o3 := bf_ a5 1))
        refine bodyPost_ret (results_ct rfl _ _ d6 66 #[.int .i64 0, .int .i64 0] (0, 0) _ rfl (by (with_reducible repeat (first | refine blk_drewN ?_ _ | refine blk_drew ?_ | refine blk_alloc ?_ _)); refine blk_put (cs := #[.int .i64 0, .int .i64 a9]) ?_ 1 _ rfl; (with_reducible repeat (first | refine blk_drewN ?_ _ | refine blk_drew ?_ | refine blk_alloc ?_ _)); refine blk_put (cs := #[.int .i64 b5, .int .i64 a9]) ?_ 0 _ rfl; (with_reducible repeat (first | refine blk_drewN ?_ _ | refine blk_drew ?_ | refine blk_alloc ?_ _)); refine blk_far ?_ a6.out _; (with_reducible repeat (first | refine blk_drewN ?_ _ | refine blk_drew ?_ | refine blk_alloc ?_ _)); refine blk_far ?_ a6.out _; (with_reducible repeat (first | refine blk_drewN ?_ _ | refine blk_drew ?_ | refine blk_alloc ?_ _)); exact a5.out) Try.underlying66 rfl (by kernel_rfl)) rfl ?_
        exact ⟨re_, by repeat (first | (with_reducible first | exact HB.out | apply below_alloc | apply pw_below_drewN | apply below_drew1 | refine below_set ?_ h3.out | refine below_set ?_ d8.out) | exact HB.out)⟩
      ·replace m7 := Bool.eq_false_iff.mpr m7; subst m7
       have H1 : (some (0, 0, false)) = some (r1, r2, r3) := by rw [if_neg (show ¬ (false = true) by decide)] at H; exact H
       clear H
       have H := H1
       clear H1
       simp only [Option.some.injEq, Prod.mk.injEq] at H
       obtain ⟨rfl, rfl, rfl⟩ := H
       have d1 : 0 ≤ (a4 : Int) := od_
       have d2 : a4 < (l0.length : Int) := od_
       obtain ⟨j3, h5, b3, b4⟩ := at_T64 g2.out a4 d1 d2; cases h5
       replace b3 := (HB.out.cell (World.block_lt_of_cell? w _ b3)).trans b3
       replace b4 := (HB.out.cell (World.block_lt_of_cell? w _ b4)).trans b4
       replace d1 := eq_true d1; replace d2 := eq_true d2
       go_wp2_with (first | ((with_reducible refine gd_ 6 rfl ?_); refine box_event ?hg (N := 6) ?hd (cs := #[.int .i64 0, .int .i64 0]) (t := 64) ?hr ?_; (case hd => rfl); (case hg => rfl); (case hr => exact hr_); intro j4 hg B7 hbox hb; have b7 := mk_ (hbox); have d7 := gb_ hg HB; replace HB := bp_ HB hb; have d8 := d7; have a6 := nb_ hg a5; replace a5 := bl_ a5 hb; have b8 := ns_ a6; have b1 := nb_ hg b2; replace b2 := bl_ b2 hb; have b9 := ns_ b1; clear hb hbox hg; have t8 := b8.out; have t9 := a6.out; have y6 := b9.out; have y7 := b1.out; have o4 := bc0_ b7; have o5 := bc1_ b7; have o6 := bf_ b7 0; have o7 := bf_ b7 1) | ((with_reducible refine gc_ 65 rfl ?_); refine gl_ (some 16) rfl Try.func65 #[.int .i64 ((rd_T64 l0 a4).f0), .int .i64 0, .int .i64 10000] ?_; (with_reducible refine (impl_in.calls ((rd_T64 l0 a4).f0) 0 10000 false _ A9.out).mono ?_); rintro e w' ⟨rfl, ⟨nd, rfl⟩⟩; refine ⟨_, rfl, ?_⟩; have y8 := a8.out; have y9 := b6.out; have o8 := bc0_ a5; have o9 := bc1_ a5; have p0 := bf_ a5 0; have p1 := bf_ a5 1))
       refine bodyPost_ret (results_ct rfl _ _ d6 66 #[.int .i64 0, .int .i64 0] (0, 0) _ rfl (by (with_reducible repeat (first | refine blk_drewN ?_ _ | refine blk_drew ?_ | refine blk_alloc ?_ _)); refine blk_put (cs := #[.int .i64 0, .int .i64 a9]) ?_ 1 _ rfl; (with_reducible repeat (first | refine blk_drewN ?_ _ | refine blk_drew ?_ | refine blk_alloc ?_ _)); refine blk_put (cs := #[.int .i64 b5, .int .i64 a9]) ?_ 0 _ rfl; (with_reducible repeat (first | refine blk_drewN ?_ _ | refine blk_drew ?_ | refine blk_alloc ?_ _)); refine blk_far ?_ a6.out _; (with_reducible repeat (first | refine blk_drewN ?_ _ | refine blk_drew ?_ | refine blk_alloc ?_ _)); refine blk_far ?_ a6.out _; (with_reducible repeat (first | refine blk_drewN ?_ _ | refine blk_drew ?_ | refine blk_alloc ?_ _)); exact a5.out) Try.underlying66 rfl (by kernel_rfl)) rfl ?_
       exact ⟨re_, by repeat (first | (with_reducible first | exact HB.out | apply below_alloc | apply pw_below_drewN | apply below_drew1 | refine below_set ?_ h3.out | refine below_set ?_ d8.out) | exact HB.out)⟩
     ·rw [if_neg c8] at H
      exact absurd H (by simp)
    ·rw [if_neg c7] at H
     exact absurd H (by simp)
   ·rw [if_neg c6] at H; have j7 : decide (a4 < (l0.length : Int)) = false := decide_eq_false c6; clear c6; by_cases l3 : (l0.length : Int) > 40
    ·rw [if_pos l3] at H; have l9 : decide (40 < (l0.length : Int)) = true := decide_eq_true l3; have m0 : decide (40 < l0.length) = true := decide_eq_true (by omega); clear l3
     simp only [Option.some.injEq, Prod.mk.injEq] at H
     obtain ⟨rfl, rfl, rfl⟩ := H; have A1 := a8.out
     have A2 := b6.out; have p2 := bc0_ a5
     have p3 := bc1_ a5; have p4 := bf_ a5 0; have p5 := bf_ a5 1; go_wp2
     refine bodyPost_ret (results_ct rfl _ _ d6 66 #[.int .i64 0, .int .i64 0] (0, 0) _ rfl (by (with_reducible repeat (first | refine blk_drewN ?_ _ | refine blk_drew ?_ | refine blk_alloc ?_ _)); refine blk_put (cs := #[.int .i64 0, .int .i64 a9]) ?_ 1 _ rfl; (with_reducible repeat (first | refine blk_drewN ?_ _ | refine blk_drew ?_ | refine blk_alloc ?_ _)); refine blk_put (cs := #[.int .i64 b5, .int .i64 a9]) ?_ 0 _ rfl; (with_reducible repeat (first | refine blk_drewN ?_ _ | refine blk_drew ?_ | refine blk_alloc ?_ _)); exact a5.out) Try.underlying66 rfl (by kernel_rfl)) rfl ?_
     exact ⟨re_, by repeat (first | (with_reducible first | exact HB.out | apply below_alloc | apply pw_below_drewN | apply below_drew1 | refine below_set ?_ h3.out) | exact HB.out)⟩
    ·rw [if_neg l3] at H; have l9 : decide (40 < (l0.length : Int)) = false := decide_eq_false l3; have m0 : decide (40 < l0.length) = false := decide_eq_false (by omega); clear l3
     simp only [Option.some.injEq, Prod.mk.injEq] at H
     obtain ⟨rfl, rfl, rfl⟩ := H; have A3 := b6.out
     have A4 := a8.out; have p6 := bc0_ b2
     have p7 := bc1_ b2; have p8 := bf_ b2 0; have p9 := bf_ b2 1; have q0 := bc0_ a5; have q1 := bc1_ a5; have q2 := bf_ a5 0; have q3 := bf_ a5 1; go_wp2
     refine bodyPost_ret (results_ct rfl _ _ d6 66 #[.int .i64 a7, .int .i64 b0] (0, 0) _ rfl (by (with_reducible repeat (first | refine blk_drewN ?_ _ | refine blk_drew ?_ | refine blk_alloc ?_ _)); refine blk_put (cs := #[.int .i64 a7, .int .i64 a9]) ?_ 1 _ rfl; (with_reducible repeat (first | refine blk_drewN ?_ _ | refine blk_drew ?_ | refine blk_alloc ?_ _)); refine blk_put (cs := #[.int .i64 b5, .int .i64 a9]) ?_ 0 _ rfl; (with_reducible repeat (first | refine blk_drewN ?_ _ | refine blk_drew ?_ | refine blk_alloc ?_ _)); exact a5.out) Try.underlying66 rfl (by kernel_rfl)) rfl ?_
     exact ⟨re_, by repeat (first | (with_reducible first | exact HB.out | apply below_alloc | apply pw_below_drewN | apply below_drew1 | refine below_set ?_ h3.out) | exact HB.out)⟩

/-! ### impl_allIn: function 55 -/
def impl_allIn.l0 : Nat → Int → Int → List Int → Int → Int → Option (Bool)
 | 0, _, _, _, _, _ => none
 | k + 1, x1, x2, x9, g3, d9 => if d9 < g3 then (if 0 ≤ d9 then (if d9 < (x9.length : Int) then ((impl_in.f (rd x9 d9) x1 x2).bind fun j8 => (if j8 = true then (impl_allIn.l0 k x1 x2 x9 g3 (wrap64 (d9 + 1))) else (some false))) else (none)) else (none)) else (some true)
def impl_allIn.f (k : Nat) (l0 : List Int) (a1 : Int) (a2 : Int) : Option (Bool) := impl_allIn.l0 k a1 a2 l0 (l0.length : Int) 0
theorem impl_allIn.mono_l : ∀ k, (∀ y0 y1 y2 y3 y4, LeO (impl_allIn.l0 k y0 y1 y2 y3 y4) (impl_allIn.l0 (k + 1) y0 y1 y2 y3 y4))
 | 0 => fun _ _ _ _ _ r h => by simp [impl_allIn.l0] at h
 | k + 1 => by
  have d5 := impl_allIn.mono_l k
  ·intro y0 y1 y2 y3 y4
   unfold impl_allIn.l0
   repeat' first
   | (with_reducible exact d5 _ _ _ _ _)
   | (with_reducible exact LeO.refl _)
   | (with_reducible exact LeO.none _)
   | (with_reducible refine LeO.ite ?_ ?_)
   | (with_reducible refine LeO.bind ?_ (fun _ => ?_))
   | exact d5 _ _ _ _ _
   | exact LeO.none _
   | refine LeO.ite ?_ ?_
   | refine LeO.bind ?_ (fun _ => ?_)
theorem impl_allIn.mono : ∀ a0 a1 a2 k, LeO (impl_allIn.f k a0 a1 a2) (impl_allIn.f (k + 1) a0 a1 a2) := by
 intro a0 a1 a2 k
 have d5 := impl_allIn.mono_l k
 unfold impl_allIn.f
 repeat' first
   | (with_reducible exact d5 _ _ _ _ _)
   | (with_reducible exact LeO.refl _)
   | (with_reducible exact LeO.none _)
   | (with_reducible refine LeO.ite ?_ ?_)
   | (with_reducible refine LeO.bind ?_ (fun _ => ?_))
   | exact d5 _ _ _ _ _
   | exact LeO.none _
   | refine LeO.ite ?_ ?_
   | refine LeO.bind ?_ (fun _ => ?_)
set_option maxHeartbeats 8000000 in
set_option maxRecDepth 100000 in
theorem impl_allIn.calls (k : Nat) (A0 : Option Addr) (c0 : Nat) (l0 : List Int) (a1 : Int) (a2 : Int) (r : Bool) (w : World) (hr0 : Kd.C (Kd.int .i64) w A0 l0.length l0) (hc0 : l0.length ≤ c0) (h : impl_allIn.f k l0 a1 a2 = some r) :
  Calls Try.prog 55 #[.slice A0 l0.length c0, .int .i64 a1, .int .i64 a2] w fun e w' => e = .returned (.bool r) ∧ Drawn0 w w' := by
 have g2 := mk_ hr0; have m5 := mk_ hc0; clear hr0 hc0
 have H : (impl_allIn.l0 k a1 a2 l0 (l0.length : Int) 0) = some r := h
 clear h
 have H' := mk_ H
 clear H
 go_enter Try.func55, Try.ntmps55
 go_wp2
 go_loopg [11] k (fun kq v11 w' => ∃ (a3 : Int), v11 = .int .i64 a3 ∧ Aside0 (impl_allIn.l0 kq a1 a2 l0 (l0.length : Int) a3 = some r) ∧ Aside0 (kq ≤ k) ∧ Drawn0 w w')
 case atStart => exact ⟨(0), rf_, H', ⟨Nat.le_refl _⟩, by repeat (first | exact Drawn0.refl _ | apply Drawn0.step)⟩
 case round =>
  clear H'
  obtain ⟨a3, rfl, HA, h7, ⟨m1, rfl⟩⟩ := hrel
  cases gk with
  | zero => exact absurd HA.out (by simp [impl_allIn.l0])
  | succ k1 =>
   have H := HA.out; clear HA
   simp only [impl_allIn.l0] at H
   by_cases c4 : a3 < (l0.length : Int)
   ·rw [if_pos c4] at H; have h4 : decide (a3 < (l0.length : Int)) = true := decide_eq_true c4; clear c4; by_cases c5 : 0 ≤ a3
    ·rw [if_pos c5] at H; have s1 : decide (0 ≤ a3) = true := decide_eq_true c5; clear c5; by_cases c6 : a3 < (l0.length : Int)
     ·rw [if_pos c6] at H; have j7 : decide (a3 < (l0.length : Int)) = true := decide_eq_true c6; clear c6; replace H := Option.bind_eq_some_iff.mp H; obtain ⟨j8, m2, H⟩ := H; (try dsimp only at H); have A7 := mk_ m2; clear m2; by_cases c8 : j8 = true
      ·subst c8; rw [if_pos rfl] at H
       have H' := mk_ H
       clear H
       have g4 : 0 ≤ (a3 : Int) := od_
       have g5 : a3 < (l0.length : Int) := od_
       obtain ⟨m3, j9, j0⟩ := Kd.at_int g2.out a3 g4 g5; cases j9; replace g4 := eq_true g4; replace g5 := eq_true g5
       go_wp2_with (first | ((with_reducible refine gc_ 65 rfl ?_); refine gl_ (some 18) rfl Try.func65 #[.int .i64 (rd l0 a3), .int .i64 a1, .int .i64 a2] ?_; (with_reducible refine (impl_in.calls (rd l0 a3) a1 a2 true _ A7.out).mono ?_); rintro e w' ⟨rfl, ⟨nd, rfl⟩⟩; refine ⟨_, rfl, ?_⟩))
       go_roundg k1
       case measure => have := h7.out; omega
       case rel => exact ⟨(wrap64 (a3 + 1)), rf_, H', ⟨by have := h7.out; omega⟩, by repeat (first | exact Drawn0.refl _ | apply Drawn0.step)⟩
      ·replace c8 := Bool.eq_false_iff.mpr c8; subst c8; rw [if_neg (show ¬ (false = true) by decide)] at H; obtain rfl := Option.some.inj H
       have g4 : 0 ≤ (a3 : Int) := od_
       have g5 : a3 < (l0.length : Int) := od_
       obtain ⟨m3, j9, j0⟩ := Kd.at_int g2.out a3 g4 g5; cases j9; replace g4 := eq_true g4; replace g5 := eq_true g5
       go_wp2_with (first | ((with_reducible refine gc_ 65 rfl ?_); refine gl_ (some 18) rfl Try.func65 #[.int .i64 (rd l0 a3), .int .i64 a1, .int .i64 a2] ?_; (with_reducible refine (impl_in.calls (rd l0 a3) a1 a2 false _ A7.out).mono ?_); rintro e w' ⟨rfl, ⟨nd, rfl⟩⟩; refine ⟨_, rfl, ?_⟩))
       go_ret
       exact ⟨by first | rfl | (simp; done) | (simp [*]; done), by repeat (first | exact Drawn0.refl _ | apply Drawn0.step)⟩
     ·rw [if_neg c6] at H
      exact absurd H (by simp)
    ·rw [if_neg c5] at H
     exact absurd H (by simp)
   ·rw [if_neg c4] at H; have h4 : decide (a3 < (l0.length : Int)) = false := decide_eq_false c4; clear c4; obtain rfl := Option.some.inj H; go_wp2; go_ret
    exact ⟨by first | rfl | (simp; done) | (simp [*]; done), by repeat (first | exact Drawn0.refl _ | apply Drawn0.step)⟩

/-! ### impl_ascends: function 69 -/
def impl_ascends.l0 : Nat → List Int → Int → Int → List Int → Int → Int → Option (Bool)
 | 0, _, _, _, _, _, _ => none
 | k + 1, x0, x1, x2, x9, g3, d9 => if d9 < g3 then (if 0 ≤ d9 then (if d9 < (x9.length : Int) then ((impl_in.f (rd x9 d9) x1 x2).bind fun l1 => (if l1 = true then (if d9 > 0 then (if 0 ≤ (wrap64 (d9 - 1)) then (if (wrap64 (d9 - 1)) < (x0.length : Int) then (if (rd x0 (wrap64 (d9 - 1))) ≥ (rd x9 d9) then (some false) else (impl_ascends.l0 k x0 x1 x2 x9 g3 (wrap64 (d9 + 1)))) else (none)) else (none)) else (impl_ascends.l0 k x0 x1 x2 x9 g3 (wrap64 (d9 + 1)))) else (some false))) else (none)) else (none)) else (some true)
def impl_ascends.f (k : Nat) (l0 : List Int) (a1 : Int) (a2 : Int) : Option (Bool) := impl_ascends.l0 k l0 a1 a2 l0 (l0.length : Int) 0
theorem impl_ascends.mono_l : ∀ k, (∀ y0 y1 y2 y3 y4 y5, LeO (impl_ascends.l0 k y0 y1 y2 y3 y4 y5) (impl_ascends.l0 (k + 1) y0 y1 y2 y3 y4 y5))
 | 0 => fun _ _ _ _ _ _ r h => by simp [impl_ascends.l0] at h
 | k + 1 => by
  have d5 := impl_ascends.mono_l k
  ·intro y0 y1 y2 y3 y4 y5
   unfold impl_ascends.l0
   repeat' first
   | (with_reducible exact d5 _ _ _ _ _ _)
   | (with_reducible exact LeO.refl _)
   | (with_reducible exact LeO.none _)
   | (with_reducible refine LeO.ite ?_ ?_)
   | (with_reducible refine LeO.bind ?_ (fun _ => ?_))
   | exact d5 _ _ _ _ _ _
   | exact LeO.none _
   | refine LeO.ite ?_ ?_
   | refine LeO.bind ?_ (fun _ => ?_)
theorem impl_ascends.mono : ∀ a0 a1 a2 k, LeO (impl_ascends.f k a0 a1 a2) (impl_ascends.f (k + 1) a0 a1 a2) := by
 intro a0 a1 a2 k
 have d5 := impl_ascends.mono_l k
 unfold impl_ascends.f
 repeat' first
   | (with_reducible exact d5 _ _ _ _ _ _)
   | (with_reducible exact LeO.refl _)
   | (with_reducible exact LeO.none _)
   | (with_reducible refine LeO.ite ?_ ?_)
   | (with_reducible refine LeO.bind ?_ (fun _ => ?_))
   | exact d5 _ _ _ _ _ _
   | exact LeO.none _
   | refine LeO.ite ?_ ?_
   | refine LeO.bind ?_ (fun _ => ?_)
set_option maxHeartbeats 8000000 in
set_option maxRecDepth 100000 in
theorem impl_ascends.calls (k : Nat) (A0 : Option Addr) (c0 : Nat) (l0 : List Int) (a1 : Int) (a2 : Int) (r : Bool) (w : World) (hr0 : Kd.C (Kd.int .i64) w A0 l0.length l0) (hc0 : l0.length ≤ c0) (h : impl_ascends.f k l0 a1 a2 = some r) :
  Calls Try.prog 69 #[.slice A0 l0.length c0, .int .i64 a1, .int .i64 a2] w fun e w' => e = .returned (.bool r) ∧ Drawn0 w w' := by
 have g2 := mk_ hr0; have m5 := mk_ hc0; clear hr0 hc0
 have H : (impl_ascends.l0 k l0 a1 a2 l0 (l0.length : Int) 0) = some r := h
 clear h
 have H' := mk_ H
 clear H
 go_enter Try.func69, Try.ntmps69
 go_wp2
 go_loopg [11] k (fun kq v11 w' => ∃ (a3 : Int), v11 = .int .i64 a3 ∧ Aside0 (impl_ascends.l0 kq l0 a1 a2 l0 (l0.length : Int) a3 = some r) ∧ Aside0 (kq ≤ k) ∧ Drawn0 w w')
 case atStart => exact ⟨(0), rf_, H', ⟨Nat.le_refl _⟩, by repeat (first | exact Drawn0.refl _ | apply Drawn0.step)⟩
 case round =>
  clear H'
  obtain ⟨a3, rfl, HA, h7, ⟨m1, rfl⟩⟩ := hrel
  cases gk with
  | zero => exact absurd HA.out (by simp [impl_ascends.l0])
  | succ k1 =>
   have H := HA.out; clear HA
   simp only [impl_ascends.l0] at H
   by_cases c4 : a3 < (l0.length : Int)
   ·rw [if_pos c4] at H; have h4 : decide (a3 < (l0.length : Int)) = true := decide_eq_true c4; clear c4; by_cases c5 : 0 ≤ a3
    ·rw [if_pos c5] at H; have s1 : decide (0 ≤ a3) = true := decide_eq_true c5; clear c5; by_cases c6 : a3 < (l0.length : Int)
     ·rw [if_pos c6] at H; have j7 : decide (a3 < (l0.length : Int)) = true := decide_eq_true c6; clear c6; replace H := Option.bind_eq_some_iff.mp H; obtain ⟨l1, m2, H⟩ := H; (try dsimp only at H); have A7 := mk_ m2; clear m2; by_cases c8 : l1 = true
      ·subst c8; rw [if_pos rfl] at H
       by_cases c9 : a3 > 0
       ·rw [if_pos c9] at H; have s2 : decide (0 < a3) = true := decide_eq_true c9; clear c9
        obtain ⟨c1, g0⟩ : ∃ j_ : Int, (wrap64 (a3 - 1)) = j_ := ⟨_, rfl⟩
        replace H : (if 0 ≤ (c1) then (if (c1) < (l0.length : Int) then (if (rd l0 (c1)) ≥ (rd l0 a3) then (some false) else (impl_ascends.l0 k1 l0 a1 a2 l0 (l0.length : Int) (wrap64 (a3 + 1)))) else (none)) else (none)) = some r := by first | (rw [g0] at H; exact H) | (simp only [g0] at H ⊢; exact H)
        (try rw [g0] at A7)
        have hji10w : (IntKind.i64.wrap (a3 - 1)) = c1 := (i64_w _).trans g0
        by_cases q4 : 0 ≤ (c1)
        ·rw [if_pos q4] at H; have A5 : decide (0 ≤ (c1)) = true := decide_eq_true q4; clear q4; by_cases h9 : (c1) < (l0.length : Int)
         ·rw [if_pos h9] at H; have A6 : decide ((c1) < (l0.length : Int)) = true := decide_eq_true h9; clear h9; by_cases l4 : (rd l0 (c1)) ≥ (rd l0 a3)
          ·rw [if_pos l4] at H; have m4 : decide ((rd l0 a3) ≤ (rd l0 (c1))) = true := decide_eq_true l4; clear l4; obtain rfl := Option.some.inj H
           have c2 : 0 ≤ (a3 : Int) := od_
           have d0 : a3 < (l0.length : Int) := od_
           obtain ⟨g1, g6, d3⟩ := Kd.at_int g2.out a3 c2 d0; cases g6; replace c2 := eq_true c2; replace d0 := eq_true d0
           go_wp2_with (first | ((with_reducible refine gc_ 65 rfl ?_); refine gl_ (some 19) rfl Try.func65 #[.int .i64 (rd l0 a3), .int .i64 a1, .int .i64 a2] ?_; (with_reducible refine (impl_in.calls (rd l0 a3) a1 a2 true _ A7.out).mono ?_); rintro e w' ⟨rfl, ⟨nd, rfl⟩⟩; refine ⟨_, rfl, ?_⟩; have g7 : 0 ≤ ((c1) : Int) := od_; have g8 : (c1) < (l0.length : Int) := od_; obtain ⟨h6, l2, j1⟩ := Kd.at_int g2.out (c1) g7 g8; obtain rfl : g1 = h6 := (by injection l2); replace g7 := eq_true g7; replace g8 := eq_true g8))
           go_ret
           exact ⟨by first | rfl | (simp; done) | (simp only [← g0] <;> (first | rfl | simp)) | (simp [*]; done), by repeat (first | exact Drawn0.refl _ | apply Drawn0.step)⟩
          ·rw [if_neg l4] at H; have m4 : decide ((rd l0 a3) ≤ (rd l0 (c1))) = false := decide_eq_false l4; clear l4
           have H' := mk_ H
           clear H
           have c2 : 0 ≤ (a3 : Int) := od_
           have d0 : a3 < (l0.length : Int) := od_
           obtain ⟨g1, g6, d3⟩ := Kd.at_int g2.out a3 c2 d0; cases g6; replace c2 := eq_true c2; replace d0 := eq_true d0
           go_wp2_with (first | ((with_reducible refine gc_ 65 rfl ?_); refine gl_ (some 19) rfl Try.func65 #[.int .i64 (rd l0 a3), .int .i64 a1, .int .i64 a2] ?_; (with_reducible refine (impl_in.calls (rd l0 a3) a1 a2 true _ A7.out).mono ?_); rintro e w' ⟨rfl, ⟨nd, rfl⟩⟩; refine ⟨_, rfl, ?_⟩; have g7 : 0 ≤ ((c1) : Int) := od_; have g8 : (c1) < (l0.length : Int) := od_; obtain ⟨h6, l2, j1⟩ := Kd.at_int g2.out (c1) g7 g8; obtain rfl : g1 = h6 := (by injection l2); replace g7 := eq_true g7; replace g8 := eq_true g8))
           go_roundg k1
           case measure => have := h7.out; omega
           case rel => exact ⟨(wrap64 (a3 + 1)), rf_, H', ⟨by have := h7.out; omega⟩, by repeat (first | exact Drawn0.refl _ | apply Drawn0.step)⟩
         ·rw [if_neg h9] at H
          exact absurd H (by simp)
        ·rw [if_neg q4] at H
         exact absurd H (by simp)
       ·rw [if_neg c9] at H; have s2 : decide (0 < a3) = false := decide_eq_false c9; clear c9
        have H' := mk_ H
        clear H
        have c2 : 0 ≤ (a3 : Int) := od_
        have d0 : a3 < (l0.length : Int) := od_
        obtain ⟨g1, g6, d3⟩ := Kd.at_int g2.out a3 c2 d0; cases g6; replace c2 := eq_true c2; replace d0 := eq_true d0
        go_wp2_with (first | ((with_reducible refine gc_ 65 rfl ?_); refine gl_ (some 19) rfl Try.func65 #[.int .i64 (rd l0 a3), .int .i64 a1, .int .i64 a2] ?_; (with_reducible refine (impl_in.calls (rd l0 a3) a1 a2 true _ A7.out).mono ?_); rintro e w' ⟨rfl, ⟨nd, rfl⟩⟩; refine ⟨_, rfl, ?_⟩))
        go_roundg k1
        case measure => have := h7.out; omega
        case rel => exact ⟨(wrap64 (a3 + 1)), rf_, H', ⟨by have := h7.out; omega⟩, by repeat (first | exact Drawn0.refl _ | apply Drawn0.step)⟩
      ·replace c8 := Bool.eq_false_iff.mpr c8; subst c8; rw [if_neg (show ¬ (false = true) by decide)] at H; obtain rfl := Option.some.inj H
       have c2 : 0 ≤ (a3 : Int) := od_
       have d0 : a3 < (l0.length : Int) := od_
       obtain ⟨g1, g6, d3⟩ := Kd.at_int g2.out a3 c2 d0; cases g6; replace c2 := eq_true c2; replace d0 := eq_true d0
       go_wp2_with (first | ((with_reducible refine gc_ 65 rfl ?_); refine gl_ (some 19) rfl Try.func65 #[.int .i64 (rd l0 a3), .int .i64 a1, .int .i64 a2] ?_; (with_reducible refine (impl_in.calls (rd l0 a3) a1 a2 false _ A7.out).mono ?_); rintro e w' ⟨rfl, ⟨nd, rfl⟩⟩; refine ⟨_, rfl, ?_⟩))
       go_ret
       exact ⟨by first | rfl | (simp; done) | (simp [*]; done), by repeat (first | exact Drawn0.refl _ | apply Drawn0.step)⟩
     ·rw [if_neg c6] at H
      exact absurd H (by simp)
    ·rw [if_neg c5] at H
     exact absurd H (by simp)
   ·rw [if_neg c4] at H; have h4 : decide (a3 < (l0.length : Int)) = false := decide_eq_false c4; clear c4; obtain rfl := Option.some.inj H; go_wp2; go_ret
    exact ⟨by first | rfl | (simp; done) | (simp [*]; done), by repeat (first | exact Drawn0.refl _ | apply Drawn0.step)⟩

end Go.Proofs.Ytkginilghcepbaa.QFnMoments
-- squeezed
