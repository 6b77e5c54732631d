/- Lean functions that tell what the Go functions used by one law answer, and for each a proof that the Go code comes to just these answers; no condition. Printed by this session's own program over the kit's printer. -/
import Derived.Test.YtkginilghcepbaaWSq
import Derived.Test.YtkginilghcepbaaQFnAirx0
import Derived.Test.YtkginilghcepbaaQFnAirx1
import Derived.Test.YtkginilghcepbaaQFnAirx2
namespace Go.Proofs.Ytkginilghcepbaa.QFnAir
open Go.RowKit Go.Proofs.YtkginilghcepbaaW.PrintWords Go.Proofs.YtkginilghcepbaaW.PrintLast Go.Proofs.YtkginilghcepbaaW.PrintMore
attribute [local go_sem] max2_int min2_int max_two min_two max_three min_three max_four min_four   -- for this text's walks alone
attribute [local go_sem high] go_eql go_neq go_lss go_leq go_gtr go_geq go_store   -- for this text's walks alone
set_option linter.unusedVariables false
set_option linter.unusedSimpArgs false

/-! ### spec_l1New: function 80 -/
def spec_l1New.l0 : Nat → List Int → Int → Int → Option (List Int × Int × Int)
 | 0, _, _, _ => none
 | k + 1, x0, x3, x4 => if x4 < (x0.length : Int) then (if x4 < 4000 then (if 0 ≤ x4 then (spec_l1New.l0 k x0 (Go.bits .and .i64 (wrap64 ((wrap64 ((wrap64 (x3 * 131)) + (wrap64 (rd x0 x4)))) + 7)) 1073741823) (wrap64 (x4 + 1))) else (none)) else (some (x0, 0, x3))) else (some (x0, 0, x3))
def spec_l1New.f (k : Nat) (l0 : List Int) : Option (List Int × Int × Int) := spec_l1New.l0 k l0 (wrap64 (63063 + (l0.length : Int))) 0
theorem spec_l1New.mono_l : ∀ k, (∀ y0 y1 y2, LeO (spec_l1New.l0 k y0 y1 y2) (spec_l1New.l0 (k + 1) y0 y1 y2))
 | 0 => fun _ _ _ r h => by simp [spec_l1New.l0] at h
 | k + 1 => by
  have b9 := spec_l1New.mono_l k
  ·intro y0 y1 y2
   unfold spec_l1New.l0
   repeat' first
   | (with_reducible exact b9 _ _ _)
   | (with_reducible exact LeO.refl _)
   | (with_reducible exact LeO.none _)
   | (with_reducible refine LeO.ite ?_ ?_)
   | (with_reducible refine LeO.bind ?_ (fun _ => ?_))
   | exact b9 _ _ _
   | exact LeO.none _
   | refine LeO.ite ?_ ?_
   | refine LeO.bind ?_ (fun _ => ?_)
theorem spec_l1New.mono : ∀ a0 k, LeO (spec_l1New.f k a0) (spec_l1New.f (k + 1) a0) := by
 intro a0 k
 have b9 := spec_l1New.mono_l k
 unfold spec_l1New.f
 repeat' first
   | (with_reducible exact b9 _ _ _)
   | (with_reducible exact LeO.refl _)
   | (with_reducible exact LeO.none _)
   | (with_reducible refine LeO.ite ?_ ?_)
   | (with_reducible refine LeO.bind ?_ (fun _ => ?_))
   | exact b9 _ _ _
   | exact LeO.none _
   | refine LeO.ite ?_ ?_
   | refine LeO.bind ?_ (fun _ => ?_)
set_option maxHeartbeats 8000000 in
set_option maxRecDepth 100000 in
theorem spec_l1New.calls (k : Nat) (A0 : Option Addr) (c0 : Nat) (l0 : List Int) (r1 : List Int) (r2 : Int) (r3 : Int) (w0 w : World) (hB : Below w0.heap.size w0 w) (hr0 : Kd.C (Kd.int .u8) w0 A0 l0.length l0) (hc0 : l0.length ≤ c0) (h : spec_l1New.f k l0 = some (r1, r2, r3)) :
  Calls Try.prog 80 #[.slice A0 l0.length c0] w fun e w' => ∃ g_ : Nat, e = .returned (.pointer (some ⟨g_, 0, none⟩)) ∧ IsS141 w0 w' g_ r1 r2 r3 ∧ Below w0.heap.size w0 w' ∧ Below w.heap.size w w' := by
 have C7 := Try.underlying141
 have d9 := mk_ hr0; have p8 := mk_ hc0; clear hr0 hc0; have HBW := mk_ (Below.refl w.heap.size w); have HW0 := mk_ hB.size; have HB := mk_ hB; clear hB
 have H : (spec_l1New.l0 k l0 (wrap64 (63063 + (l0.length : Int))) 0) = some (r1, r2, r3) := h
 clear h
 have H' := mk_ H
 clear H
 go_enter Try.func80, Try.ntmps80
 go_wp2
 go_loopg [3, 4] k (fun kq v3 v4 w' => ∃ (d6 : Int) (b1 : Int), v3 = .int .i64 d6 ∧ v4 = .int .i64 b1 ∧ Aside0 (spec_l1New.l0 kq l0 d6 b1 = some (r1, r2, r3)) ∧ Aside0 (kq ≤ k) ∧ Aside0 (Below w.heap.size w w') ∧ Aside0 (Below w0.heap.size w0 w'))
 case atStart => exact ⟨(wrap64 (63063 + (l0.length : Int))), (0), rf_, rf_, H', ⟨Nat.le_refl _⟩, ⟨hw_ HBW⟩, ⟨hw_ HB⟩⟩
 case round =>
  clear H'
  obtain ⟨d6, b1, rfl, rfl, HA, h2, HBW, HB⟩ := hrel
  cases gk with
  | zero => exact absurd HA.out (by simp [spec_l1New.l0])
  | succ k1 =>
   have H := HA.out; clear HA
   simp only [spec_l1New.l0] at H
   by_cases c2 : b1 < (l0.length : Int)
   ·rw [if_pos c2] at H; have t8 : decide (b1 < (l0.length : Int)) = true := decide_eq_true c2; clear c2; by_cases c3 : b1 < 4000
    ·rw [if_pos c3] at H; have t9 : decide (b1 < 4000) = true := decide_eq_true c3; clear c3; by_cases c4 : 0 ≤ b1
     ·rw [if_pos c4] at H; have h3 : decide (0 ≤ b1) = true := decide_eq_true c4; clear c4
      have H' := mk_ H
      clear H
      have m4 : 0 ≤ (b1 : Int) := od_
      have m5 : b1 < (l0.length : Int) := od_
      obtain ⟨C8, y9, g7⟩ := Kd.at_int d9.out b1 m4 m5; cases y9
      replace g7 := pw_cell_below HB.out g7
      replace m4 := eq_true m4; replace m5 := eq_true m5; go_wp2; go_roundg k1
      case measure => have := h2.out; omega
      case rel => exact ⟨(Go.bits .and .i64 (wrap64 ((wrap64 ((wrap64 (d6 * 131)) + (wrap64 (rd l0 b1)))) + 7)) 1073741823), (wrap64 (b1 + 1)), rf_, rf_, H', ⟨by have := h2.out; omega⟩, ⟨hw_ HBW⟩, ⟨hw_ HB⟩⟩
     ·rw [if_neg c4] at H
      exact absurd H (by simp)
    ·rw [if_neg c3] at H; have t9 : decide (b1 < 4000) = false := decide_eq_false c3; clear c3
     simp only [Option.some.injEq, Prod.mk.injEq] at H
     obtain ⟨rfl, rfl, rfl⟩ := H
     go_wp2_with (first | ((with_reducible refine gd_ 31 rfl ?_); refine box_event ?hg (N := 31) ?hd (cs := #[.slice A0 l0.length c0, .int .i64 0, .int .i64 d6]) (t := 141) ?hr ?_; (case hd => rfl); (case hg => rfl); (case hr => exact hr_); intro h6 hg w5 hbox hb; replace HB := bp_ HB hb; have o3 := mk_ (hbox); have C9 := gb_ hg HBW; have o4 := mk_ ((Nat.le_trans HW0.out (by rw [hg]; exact (below_size (by exact HBW.out)) : w.heap.size ≤ h6) : w0.heap.size ≤ h6)); replace HBW := mk_ (below_step HBW.out hb); clear hb hbox hg))
     go_ret
     exact ⟨_, rfl, (show IsS141 w0 _ h6 l0 0 d6 from ⟨_, _, by (with_reducible repeat (first | refine blk_drewN ?_ _ | refine blk_drew ?_ | refine blk_alloc ?_ _)); exact o3.out, o4.out, d9.out⟩), hw_ HB, hw_ HBW⟩
   ·rw [if_neg c2] at H; have t8 : decide (b1 < (l0.length : Int)) = false := decide_eq_false c2; clear c2
    simp only [Option.some.injEq, Prod.mk.injEq] at H
    obtain ⟨rfl, rfl, rfl⟩ := H
    go_wp2_with (first | ((with_reducible refine gd_ 31 rfl ?_); refine box_event ?hg (N := 31) ?hd (cs := #[.slice A0 l0.length c0, .int .i64 0, .int .i64 d6]) (t := 141) ?hr ?_; (case hd => rfl); (case hg => rfl); (case hr => exact hr_); intro h7 hg w6 hbox hb; replace HB := bp_ HB hb; have o5 := mk_ (hbox); have D0 := gb_ hg HBW; have o6 := mk_ ((Nat.le_trans HW0.out (by rw [hg]; exact (below_size (by exact HBW.out)) : w.heap.size ≤ h7) : w0.heap.size ≤ h7)); replace HBW := mk_ (below_step HBW.out hb); clear hb hbox hg))
    go_ret
    exact ⟨_, rfl, (show IsS141 w0 _ h7 l0 0 d6 from ⟨_, _, by (with_reducible repeat (first | refine blk_drewN ?_ _ | refine blk_drew ?_ | refine blk_alloc ?_ _)); exact o5.out, o6.out, d9.out⟩), hw_ HB, hw_ HBW⟩

/-! ### spec_DrawAirOk: function 37 -/
def spec_DrawAirOk.f (k : Nat) (l0 : List Int) : Option (Int × List Int × List Int) := (spec_l1New.f k l0).bind fun c1 => ((spec_l1DrawAir.f k c1.1 c1.2.1 c1.2.2).bind fun b0 => (some (b0.1, b0.2.1, b0.2.2.1)))
theorem spec_DrawAirOk.mono : ∀ a0 k, LeO (spec_DrawAirOk.f k a0) (spec_DrawAirOk.f (k + 1) a0) := by
 intro a0 k
 unfold spec_DrawAirOk.f
 repeat' first
   | (with_reducible exact spec_l1DrawAir.mono _ _ _ _)
   | (with_reducible exact spec_l1New.mono _ _)
   | (with_reducible exact LeO.refl _)
   | (with_reducible exact LeO.none _)
   | (with_reducible refine LeO.ite ?_ ?_)
   | (with_reducible refine LeO.bind ?_ (fun _ => ?_))
   | exact spec_l1DrawAir.mono _ _ _ _
   | exact spec_l1New.mono _ _
   | exact LeO.none _
   | refine LeO.ite ?_ ?_
   | refine LeO.bind ?_ (fun _ => ?_)
set_option maxHeartbeats 8000000 in
set_option maxRecDepth 100000 in
theorem spec_DrawAirOk.calls (k : Nat) (A0 : Option Addr) (c0 : Nat) (l0 : List Int) (r1 : Int) (r2 : List Int) (r3 : List Int) (w : World) (hr0 : Kd.C (Kd.int .u8) w A0 l0.length l0) (hc0 : l0.length ≤ c0) (h : spec_DrawAirOk.f k l0 = some (r1, r2, r3)) :
  Calls Try.prog 37 #[.slice A0 l0.length c0] w fun e w' => ∃ v1_ v2_ : Value, e = .returned (.agg #[.int .i64 r1, v1_, v2_]) ∧ Kd.R (Kd.int .i64) 3 w' w.heap.size (fun k_ => some k_ ≠ (v2_ : Value).ownBlock) v1_ r2 ∧ Kd.R (Kd.int .i64) 3 w' w.heap.size (fun k_ => some k_ ≠ (v1_ : Value).ownBlock) v2_ r3 ∧ Below w.heap.size w w' := by
 have o7 := Try.underlying79
 have d9 := mk_ hr0; have p8 := mk_ hc0; clear hr0 hc0; have HB := mk_ (Below.refl w.heap.size w)
 have H : ((spec_l1New.f k l0).bind fun c1 => ((spec_l1DrawAir.f k c1.1 c1.2.1 c1.2.2).bind fun b0 => (some (b0.1, b0.2.1, b0.2.2.1)))) = some (r1, r2, r3) := h
 clear h; replace H := Option.bind_eq_some_iff.mp H; obtain ⟨⟨m6, m7, m8⟩, o8, H⟩ := H
 replace H : ((spec_l1DrawAir.f k m6 m7 m8).bind fun b0 => (some (b0.1, b0.2.1, b0.2.2.1))) = some (r1, r2, r3) := H
 have A2 := mk_ o8; clear o8; replace H := Option.bind_eq_some_iff.mp H; obtain ⟨⟨g0, h4, h8, A1, A5⟩, D1, H⟩ := H
 replace H : (some (g0, h4, h8)) = some (r1, r2, r3) := H
 have A3 := mk_ D1; clear D1
 simp only [Option.some.injEq, Prod.mk.injEq] at H
 obtain ⟨rfl, rfl, rfl⟩ := H
 go_enter Try.func37, Try.ntmps37
 go_wp2_with (first | ((with_reducible refine gd_ 2 rfl ?_); refine box_event ?hg (N := 2) ?hd (cs := #[.int .i64 0, .slice none 0 0, .slice none 0 0]) (t := 79) ?hr ?_; (case hd => rfl); (case hg => rfl); (case hr => exact hr_); intro b2 hg w4 hbox hb; have a7 := mk_ (hbox); have o9 := gb_ hg HB; replace HB := bp_ HB hb; have p0 := o9; clear hb hbox hg) | ((with_reducible refine gc_ 80 rfl ?_); refine gl_ (some 4) rfl Try.func80 #[.slice A0 l0.length c0] ?_; (with_reducible refine (spec_l1New.calls k _ _ l0 m6 m7 m8 w _ ?b6 ?b7 ?p1 A2.out).mono ?_); (case b6 => exact HB.out); (case b7 => exact d9.out); (case p1 => exact p8.out); rintro e w5 ⟨g185, rfl, hi, hb, p2⟩; refine ⟨_, rfl, ?_⟩; replace HB := mk_ (hb); have g8 := mk_ (hi); have d0 := mk_ (IsS141.ne_blk hi (blk_below (g := b2) (o := .cells #[.int .i64 0, .slice none 0 0, .slice none 0 0] 79 (0, 0)) (by exact a7.out) p2) (by decide)); have d1 := mk_ (Ne.symm (IsS141.ne_blk hi (blk_below (g := b2) (o := .cells #[.int .i64 0, .slice none 0 0, .slice none 0 0] 79 (0, 0)) (by exact a7.out) p2) (by decide))); replace a7 := bl_ a7 p2; (try clear hb); (try clear p2); (try clear hk); (try clear hi)) | ((with_reducible refine gc_ 79 rfl ?_); refine gl_ (some 5) rfl Try.func79 #[.pointer (some ⟨g185, 0, none⟩)] ?_; (with_reducible refine (spec_l1DrawAir.calls k g185 m6 m7 m8 g0 h4 h8 A1 A5 w _ ?b6 ?b7 A3.out).mono ?_); (case b6 => repeat (first | (with_reducible first | exact g8.out | apply IsS141.alloc | apply IsS141.drewN | apply IsS141.drew | apply IsS141.set_1 | apply IsS141.set_2 | refine IsS141.far ?_ d0.out _) | exact g8.out)); (case b7 => exact HB.out); rintro e w6 ⟨v188, v191, rfl, D2, D3, hi, hb, hk⟩; refine ⟨_, rfl, ?_⟩; replace a7 := mk_ (KeepBut.blk hk (g' := b2) (o := .cells #[.int .i64 0, .slice none 0 0, .slice none 0 0] 79 (0, 0)) (by exact a7.out) d1.out (by simp)); have l8 := mk_ (Kd.R_lower D2 (below_size (by exact HB.out))); have l9 := mk_ (Kd.R_lower D3 (below_size (by exact HB.out))); replace HB := mk_ (hb); replace g8 := mk_ (hi); (try clear hb); (try clear p2); (try clear hk); (try clear hi); (try clear D2); (try clear D3); have E3 := d1.out; have E4 := d0.out; have A6 := bc0_ a7; have A8 := bc1_ a7; have B0 := bc2_ a7; have B1 := bf_ a7 0; have B2 := bf_ a7 1; have B3 := bf_ a7 2; obtain ⟨p9, q0, E5⟩ := Kd.R_slice l8.out; subst E5; obtain ⟨m9, n0, B4⟩ := Kd.R_slice l9.out; subst B4))
 refine bodyPost_ret (results_cell_row rfl _ _ b2 79 #[.int .i64 g0, .slice p9 h4.length q0, .slice m9 h8.length n0] (0, 0) _ rfl (by (with_reducible repeat (first | refine blk_drewN ?_ _ | refine blk_drew ?_ | refine blk_alloc ?_ _)); refine blk_put (cs := #[.int .i64 g0, .slice p9 h4.length q0, .slice none 0 0]) ?_ 2 _ rfl; (with_reducible repeat (first | refine blk_drewN ?_ _ | refine blk_drew ?_ | refine blk_alloc ?_ _)); refine blk_put (cs := #[.int .i64 g0, .slice none 0 0, .slice none 0 0]) ?_ 1 _ rfl; (with_reducible repeat (first | refine blk_drewN ?_ _ | refine blk_drew ?_ | refine blk_alloc ?_ _)); refine blk_put (cs := #[.int .i64 0, .slice none 0 0, .slice none 0 0]) ?_ 0 _ rfl; (with_reducible repeat (first | refine blk_drewN ?_ _ | refine blk_drew ?_ | refine blk_alloc ?_ _)); exact a7.out) Try.underlying79 rfl (by kernel_rfl)) rfl ?_
 exact ⟨_, _, re_, by (with_reducible repeat (first | apply Kd.R_alloc | apply Kd.R_drewN | apply Kd.R_drew)); exact Kd.R_mono (Kd.R_far (p := ⟨b2, 2, none⟩) (Kd.R_far (p := ⟨b2, 1, none⟩) (Kd.R_far (p := ⟨b2, 0, none⟩) (Kd.R_types l8.out a7.out (by decide)) (fun _ hk => hk.2) (.int .i64 g0)) (fun _ hk => hk.2) (.slice p9 h4.length q0)) (fun _ hk => hk.2) (.slice m9 h8.length n0)) (fun _ hk => hk.1), by (with_reducible repeat (first | apply Kd.R_alloc | apply Kd.R_drewN | apply Kd.R_drew)); exact Kd.R_mono (Kd.R_far (p := ⟨b2, 2, none⟩) (Kd.R_far (p := ⟨b2, 1, none⟩) (Kd.R_far (p := ⟨b2, 0, none⟩) (Kd.R_types l9.out a7.out (by decide)) (fun _ hk => hk.2) (.int .i64 g0)) (fun _ hk => hk.2) (.slice p9 h4.length q0)) (fun _ hk => hk.2) (.slice m9 h8.length n0)) (fun _ hk => hk.1), by repeat (first | (with_reducible first | exact HB.out | apply below_alloc | apply pw_below_drewN | apply below_drew1 | refine below_set ?_ (IsS141.ge g8.out) | refine below_set ?_ p0.out) | exact HB.out)⟩

/-! ### impl_in: function 65 -/
def impl_in.f (a0 : Int) (a1 : Int) (a2 : Int) : Option (Bool) := if a0 ≥ a1 then (some (decide (a0 ≤ a2))) else (some false)
set_option maxHeartbeats 8000000 in
set_option maxRecDepth 100000 in
theorem impl_in.calls (a0 : Int) (a1 : Int) (a2 : Int) (r : Bool) (w : World) (h : impl_in.f a0 a1 a2 = some r) :
  Calls Try.prog 65 #[.int .i64 a0, .int .i64 a1, .int .i64 a2] w fun e w' => e = .returned (.bool r) ∧ Drawn0 w w' := by
 have H : (if a0 ≥ a1 then (some (decide (a0 ≤ a2))) else (some false)) = some r := h
 clear h; by_cases c4 : a0 ≥ a1
 ·rw [if_pos c4] at H; have h3 : decide (a1 ≤ a0) = true := decide_eq_true c4; clear c4; obtain rfl := Option.some.inj H
  go_enter Try.func65, Try.ntmps65
  go_wp2; go_ret
  exact ⟨by first | rfl | (simp; done) | (simp [*]; done), by repeat (first | exact Drawn0.refl _ | apply Drawn0.step)⟩
 ·rw [if_neg c4] at H; have h3 : decide (a1 ≤ a0) = false := decide_eq_false c4; clear c4; obtain rfl := Option.some.inj H
  go_enter Try.func65, Try.ntmps65
  go_wp2; go_ret
  exact ⟨by first | rfl | (simp; done) | (simp [*]; done), by repeat (first | exact Drawn0.refl _ | apply Drawn0.step)⟩

/-! ### impl_allIn: function 55 -/
def impl_allIn.l0 : Nat → Int → Int → List Int → Int → Int → Option (Bool)
 | 0, _, _, _, _, _ => none
 | k + 1, x1, x2, x9, o1, d7 => if d7 < o1 then (if 0 ≤ d7 then (if d7 < (x9.length : Int) then ((impl_in.f (rd x9 d7) x1 x2).bind fun n1 => (if n1 = true then (impl_allIn.l0 k x1 x2 x9 o1 (wrap64 (d7 + 1))) else (some false))) else (none)) else (none)) else (some true)
def impl_allIn.f (k : Nat) (l0 : List Int) (a1 : Int) (a2 : Int) : Option (Bool) := impl_allIn.l0 k a1 a2 l0 (l0.length : Int) 0
theorem impl_allIn.mono_l : ∀ k, (∀ y0 y1 y2 y3 y4, LeO (impl_allIn.l0 k y0 y1 y2 y3 y4) (impl_allIn.l0 (k + 1) y0 y1 y2 y3 y4))
 | 0 => fun _ _ _ _ _ r h => by simp [impl_allIn.l0] at h
 | k + 1 => by
  have b9 := impl_allIn.mono_l k
  ·intro y0 y1 y2 y3 y4
   unfold impl_allIn.l0
   repeat' first
   | (with_reducible exact b9 _ _ _ _ _)
   | (with_reducible exact LeO.refl _)
   | (with_reducible exact LeO.none _)
   | (with_reducible refine LeO.ite ?_ ?_)
   | (with_reducible refine LeO.bind ?_ (fun _ => ?_))
   | exact b9 _ _ _ _ _
   | exact LeO.none _
   | refine LeO.ite ?_ ?_
   | refine LeO.bind ?_ (fun _ => ?_)
theorem impl_allIn.mono : ∀ a0 a1 a2 k, LeO (impl_allIn.f k a0 a1 a2) (impl_allIn.f (k + 1) a0 a1 a2) := by
 intro a0 a1 a2 k
 have b9 := impl_allIn.mono_l k
 unfold impl_allIn.f
 repeat' first
   | (with_reducible exact b9 _ _ _ _ _)
   | (with_reducible exact LeO.refl _)
   | (with_reducible exact LeO.none _)
   | (with_reducible refine LeO.ite ?_ ?_)
   | (with_reducible refine LeO.bind ?_ (fun _ => ?_))
   | exact b9 _ _ _ _ _
   | exact LeO.none _
   | refine LeO.ite ?_ ?_
   | refine LeO.bind ?_ (fun _ => ?_)
set_option maxHeartbeats 8000000 in
set_option maxRecDepth 100000 in
theorem impl_allIn.calls (k : Nat) (A0 : Option Addr) (c0 : Nat) (l0 : List Int) (a1 : Int) (a2 : Int) (r : Bool) (w : World) (hr0 : Kd.C (Kd.int .i64) w A0 l0.length l0) (hc0 : l0.length ≤ c0) (h : impl_allIn.f k l0 a1 a2 = some r) :
  Calls Try.prog 55 #[.slice A0 l0.length c0, .int .i64 a1, .int .i64 a2] w fun e w' => e = .returned (.bool r) ∧ Drawn0 w w' := by
 have d9 := mk_ hr0; have p8 := mk_ hc0; clear hr0 hc0
 have H : (impl_allIn.l0 k a1 a2 l0 (l0.length : Int) 0) = some r := h
 clear h
 have H' := mk_ H
 clear H
 go_enter Try.func55, Try.ntmps55
 go_wp2
 go_loopg [11] k (fun kq v11 w' => ∃ (a4 : Int), v11 = .int .i64 a4 ∧ Aside0 (impl_allIn.l0 kq a1 a2 l0 (l0.length : Int) a4 = some r) ∧ Aside0 (kq ≤ k) ∧ Drawn0 w w')
 case atStart => exact ⟨(0), rf_, H', ⟨Nat.le_refl _⟩, by repeat (first | exact Drawn0.refl _ | apply Drawn0.step)⟩
 case round =>
  clear H'
  obtain ⟨a4, rfl, HA, h2, ⟨m1, rfl⟩⟩ := hrel
  cases gk with
  | zero => exact absurd HA.out (by simp [impl_allIn.l0])
  | succ k1 =>
   have H := HA.out; clear HA
   simp only [impl_allIn.l0] at H
   by_cases c4 : a4 < (l0.length : Int)
   ·rw [if_pos c4] at H; have h3 : decide (a4 < (l0.length : Int)) = true := decide_eq_true c4; clear c4; by_cases c5 : 0 ≤ a4
    ·rw [if_pos c5] at H; have n2 : decide (0 ≤ a4) = true := decide_eq_true c5; clear c5; by_cases c6 : a4 < (l0.length : Int)
     ·rw [if_pos c6] at H; have j6 : decide (a4 < (l0.length : Int)) = true := decide_eq_true c6; clear c6; replace H := Option.bind_eq_some_iff.mp H; obtain ⟨n1, m0, H⟩ := H; (try dsimp only at H); have A7 := mk_ m0; clear m0; by_cases c8 : n1 = true
      ·subst c8; rw [if_pos rfl] at H
       have H' := mk_ H
       clear H
       have g1 : 0 ≤ (a4 : Int) := od_
       have g2 : a4 < (l0.length : Int) := od_
       obtain ⟨p3, n3, j7⟩ := Kd.at_int d9.out a4 g1 g2; cases n3; replace g1 := eq_true g1; replace g2 := eq_true g2
       go_wp2_with (first | ((with_reducible refine gc_ 65 rfl ?_); refine gl_ (some 18) rfl Try.func65 #[.int .i64 (rd l0 a4), .int .i64 a1, .int .i64 a2] ?_; (with_reducible refine (impl_in.calls (rd l0 a4) a1 a2 true _ A7.out).mono ?_); rintro e w' ⟨rfl, ⟨nd, rfl⟩⟩; refine ⟨_, rfl, ?_⟩))
       go_roundg k1
       case measure => have := h2.out; omega
       case rel => exact ⟨(wrap64 (a4 + 1)), rf_, H', ⟨by have := h2.out; omega⟩, by repeat (first | exact Drawn0.refl _ | apply Drawn0.step)⟩
      ·replace c8 := Bool.eq_false_iff.mpr c8; subst c8; rw [if_neg (show ¬ (false = true) by decide)] at H; obtain rfl := Option.some.inj H
       have g1 : 0 ≤ (a4 : Int) := od_
       have g2 : a4 < (l0.length : Int) := od_
       obtain ⟨p3, n3, j7⟩ := Kd.at_int d9.out a4 g1 g2; cases n3; replace g1 := eq_true g1; replace g2 := eq_true g2
       go_wp2_with (first | ((with_reducible refine gc_ 65 rfl ?_); refine gl_ (some 18) rfl Try.func65 #[.int .i64 (rd l0 a4), .int .i64 a1, .int .i64 a2] ?_; (with_reducible refine (impl_in.calls (rd l0 a4) a1 a2 false _ A7.out).mono ?_); rintro e w' ⟨rfl, ⟨nd, rfl⟩⟩; refine ⟨_, rfl, ?_⟩))
       go_ret
       exact ⟨by first | rfl | (simp; done) | (simp [*]; done), by repeat (first | exact Drawn0.refl _ | apply Drawn0.step)⟩
     ·rw [if_neg c6] at H
      exact absurd H (by simp)
    ·rw [if_neg c5] at H
     exact absurd H (by simp)
   ·rw [if_neg c4] at H; have h3 : decide (a4 < (l0.length : Int)) = false := decide_eq_false c4; clear c4; obtain rfl := Option.some.inj H; go_wp2; go_ret
    exact ⟨by first | rfl | (simp; done) | (simp [*]; done), by repeat (first | exact Drawn0.refl _ | apply Drawn0.step)⟩

/-! ### impl_ascends: function 69 -/
def impl_ascends.l0 : Nat → List Int → Int → Int → List Int → Int → Int → Option (Bool)
 | 0, _, _, _, _, _, _ => none
 | k + 1, x0, x1, x2, x9, o1, d7 => if d7 < o1 then (if 0 ≤ d7 then (if d7 < (x9.length : Int) then ((impl_in.f (rd x9 d7) x1 x2).bind fun n4 => (if n4 = true then (if d7 > 0 then (if 0 ≤ (wrap64 (d7 - 1)) then (if (wrap64 (d7 - 1)) < (x0.length : Int) then (if (rd x0 (wrap64 (d7 - 1))) ≥ (rd x9 d7) then (some false) else (impl_ascends.l0 k x0 x1 x2 x9 o1 (wrap64 (d7 + 1)))) else (none)) else (none)) else (impl_ascends.l0 k x0 x1 x2 x9 o1 (wrap64 (d7 + 1)))) else (some false))) else (none)) else (none)) else (some true)
def impl_ascends.f (k : Nat) (l0 : List Int) (a1 : Int) (a2 : Int) : Option (Bool) := impl_ascends.l0 k l0 a1 a2 l0 (l0.length : Int) 0
theorem impl_ascends.mono_l : ∀ k, (∀ y0 y1 y2 y3 y4 y5, LeO (impl_ascends.l0 k y0 y1 y2 y3 y4 y5) (impl_ascends.l0 (k + 1) y0 y1 y2 y3 y4 y5))
 | 0 => fun _ _ _ _ _ _ r h => by simp [impl_ascends.l0] at h
 | k + 1 => by
  have b9 := impl_ascends.mono_l k
  ·intro y0 y1 y2 y3 y4 y5
   unfold impl_ascends.l0
   repeat' first
   | (with_reducible exact b9 _ _ _ _ _ _)
   | (with_reducible exact LeO.refl _)
   | (with_reducible exact LeO.none _)
   | (with_reducible refine LeO.ite ?_ ?_)
   | (with_reducible refine LeO.bind ?_ (fun _ => ?_))
   | exact b9 _ _ _ _ _ _
   | exact LeO.none _
   | refine LeO.ite ?_ ?_
   | refine LeO.bind ?_ (fun _ => ?_)
theorem impl_ascends.mono : ∀ a0 a1 a2 k, LeO (impl_ascends.f k a0 a1 a2) (impl_ascends.f (k + 1) a0 a1 a2) := by
 intro a0 a1 a2 k
 have b9 := impl_ascends.mono_l k
 unfold impl_ascends.f
 repeat' first
   | (with_reducible exact b9 _ _ _ _ _ _)
   | (with_reducible exact LeO.refl _)
   | (with_reducible exact LeO.none _)
   | (with_reducible refine LeO.ite ?_ ?_)
   | (with_reducible refine LeO.bind ?_ (fun _ => ?_))
   | exact b9 _ _ _ _ _ _
   | exact LeO.none _
   | refine LeO.ite ?_ ?_
   | refine LeO.bind ?_ (fun _ => ?_)
set_option maxHeartbeats 8000000 in
set_option maxRecDepth 100000 in
theorem impl_ascends.calls (k : Nat) (A0 : Option Addr) (c0 : Nat) (l0 : List Int) (a1 : Int) (a2 : Int) (r : Bool) (w : World) (hr0 : Kd.C (Kd.int .i64) w A0 l0.length l0) (hc0 : l0.length ≤ c0) (h : impl_ascends.f k l0 a1 a2 = some r) :
  Calls Try.prog 69 #[.slice A0 l0.length c0, .int .i64 a1, .int .i64 a2] w fun e w' => e = .returned (.bool r) ∧ Drawn0 w w' := by
 have d9 := mk_ hr0; have p8 := mk_ hc0; clear hr0 hc0
 have H : (impl_ascends.l0 k l0 a1 a2 l0 (l0.length : Int) 0) = some r := h
 clear h
 have H' := mk_ H
 clear H
 go_enter Try.func69, Try.ntmps69
 go_wp2
 go_loopg [11] k (fun kq v11 w' => ∃ (a4 : Int), v11 = .int .i64 a4 ∧ Aside0 (impl_ascends.l0 kq l0 a1 a2 l0 (l0.length : Int) a4 = some r) ∧ Aside0 (kq ≤ k) ∧ Drawn0 w w')
 case atStart => exact ⟨(0), rf_, H', ⟨Nat.le_refl _⟩, by repeat (first | exact Drawn0.refl _ | apply Drawn0.step)⟩
 case round =>
  clear H'
  obtain ⟨a4, rfl, HA, h2, ⟨m1, rfl⟩⟩ := hrel
  cases gk with
  | zero => exact absurd HA.out (by simp [impl_ascends.l0])
  | succ k1 =>
   have H := HA.out; clear HA
   simp only [impl_ascends.l0] at H
   by_cases c4 : a4 < (l0.length : Int)
   ·rw [if_pos c4] at H; have h3 : decide (a4 < (l0.length : Int)) = true := decide_eq_true c4; clear c4; by_cases c5 : 0 ≤ a4
    ·rw [if_pos c5] at H; have n2 : decide (0 ≤ a4) = true := decide_eq_true c5; clear c5; by_cases c6 : a4 < (l0.length : Int)
     ·rw [if_pos c6] at H; have j6 : decide (a4 < (l0.length : Int)) = true := decide_eq_true c6; clear c6; replace H := Option.bind_eq_some_iff.mp H; obtain ⟨n4, m0, H⟩ := H; (try dsimp only at H); have A7 := mk_ m0; clear m0; by_cases c8 : n4 = true
      ·subst c8; rw [if_pos rfl] at H
       by_cases c9 : a4 > 0
       ·rw [if_pos c9] at H; have B5 : decide (0 < a4) = true := decide_eq_true c9; clear c9
        obtain ⟨a9, b3⟩ : ∃ j_ : Int, (wrap64 (a4 - 1)) = j_ := ⟨_, rfl⟩
        replace H : (if 0 ≤ (a9) then (if (a9) < (l0.length : Int) then (if (rd l0 (a9)) ≥ (rd l0 a4) then (some false) else (impl_ascends.l0 k1 l0 a1 a2 l0 (l0.length : Int) (wrap64 (a4 + 1)))) else (none)) else (none)) = some r := by first | (rw [b3] at H; exact H) | (simp only [b3] at H ⊢; exact H)
        (try rw [b3] at A7)
        have hji10w : (IntKind.i64.wrap (a4 - 1)) = a9 := (i64_w _).trans b3
        by_cases q1 : 0 ≤ (a9)
        ·rw [if_pos q1] at H; have D4 : decide (0 ≤ (a9)) = true := decide_eq_true q1; clear q1; by_cases q2 : (a9) < (l0.length : Int)
         ·rw [if_pos q2] at H; have D5 : decide ((a9) < (l0.length : Int)) = true := decide_eq_true q2; clear q2; by_cases o2 : (rd l0 (a9)) ≥ (rd l0 a4)
          ·rw [if_pos o2] at H; have p4 : decide ((rd l0 a4) ≤ (rd l0 (a9))) = true := decide_eq_true o2; clear o2; obtain rfl := Option.some.inj H
           have b4 : 0 ≤ (a4 : Int) := od_
           have b5 : a4 < (l0.length : Int) := od_
           obtain ⟨d8, g3, d2⟩ := Kd.at_int d9.out a4 b4 b5; cases g3; replace b4 := eq_true b4; replace b5 := eq_true b5
           go_wp2_with (first | ((with_reducible refine gc_ 65 rfl ?_); refine gl_ (some 19) rfl Try.func65 #[.int .i64 (rd l0 a4), .int .i64 a1, .int .i64 a2] ?_; (with_reducible refine (impl_in.calls (rd l0 a4) a1 a2 true _ A7.out).mono ?_); rintro e w' ⟨rfl, ⟨nd, rfl⟩⟩; refine ⟨_, rfl, ?_⟩; have g4 : 0 ≤ ((a9) : Int) := od_; have g5 : (a9) < (l0.length : Int) := od_; obtain ⟨h9, n5, j8⟩ := Kd.at_int d9.out (a9) g4 g5; obtain rfl : d8 = h9 := (by injection n5); replace g4 := eq_true g4; replace g5 := eq_true g5))
           go_ret
           exact ⟨by first | rfl | (simp; done) | (simp only [← b3] <;> (first | rfl | simp)) | (simp [*]; done), by repeat (first | exact Drawn0.refl _ | apply Drawn0.step)⟩
          ·rw [if_neg o2] at H; have p4 : decide ((rd l0 a4) ≤ (rd l0 (a9))) = false := decide_eq_false o2; clear o2
           have H' := mk_ H
           clear H
           have b4 : 0 ≤ (a4 : Int) := od_
           have b5 : a4 < (l0.length : Int) := od_
           obtain ⟨d8, g3, d2⟩ := Kd.at_int d9.out a4 b4 b5; cases g3; replace b4 := eq_true b4; replace b5 := eq_true b5
           go_wp2_with (first | ((with_reducible refine gc_ 65 rfl ?_); refine gl_ (some 19) rfl Try.func65 #[.int .i64 (rd l0 a4), .int .i64 a1, .int .i64 a2] ?_; (with_reducible refine (impl_in.calls (rd l0 a4) a1 a2 true _ A7.out).mono ?_); rintro e w' ⟨rfl, ⟨nd, rfl⟩⟩; refine ⟨_, rfl, ?_⟩; have g4 : 0 ≤ ((a9) : Int) := od_; have g5 : (a9) < (l0.length : Int) := od_; obtain ⟨h9, n5, j8⟩ := Kd.at_int d9.out (a9) g4 g5; obtain rfl : d8 = h9 := (by injection n5); replace g4 := eq_true g4; replace g5 := eq_true g5))
           go_roundg k1
           case measure => have := h2.out; omega
           case rel => exact ⟨(wrap64 (a4 + 1)), rf_, H', ⟨by have := h2.out; omega⟩, by repeat (first | exact Drawn0.refl _ | apply Drawn0.step)⟩
         ·rw [if_neg q2] at H
          exact absurd H (by simp)
        ·rw [if_neg q1] at H
         exact absurd H (by simp)
       ·rw [if_neg c9] at H; have B5 : decide (0 < a4) = false := decide_eq_false c9; clear c9
        have H' := mk_ H
        clear H
        have b4 : 0 ≤ (a4 : Int) := od_
        have b5 : a4 < (l0.length : Int) := od_
        obtain ⟨d8, g3, d2⟩ := Kd.at_int d9.out a4 b4 b5; cases g3; replace b4 := eq_true b4; replace b5 := eq_true b5
        go_wp2_with (first | ((with_reducible refine gc_ 65 rfl ?_); refine gl_ (some 19) rfl Try.func65 #[.int .i64 (rd l0 a4), .int .i64 a1, .int .i64 a2] ?_; (with_reducible refine (impl_in.calls (rd l0 a4) a1 a2 true _ A7.out).mono ?_); rintro e w' ⟨rfl, ⟨nd, rfl⟩⟩; refine ⟨_, rfl, ?_⟩))
        go_roundg k1
        case measure => have := h2.out; omega
        case rel => exact ⟨(wrap64 (a4 + 1)), rf_, H', ⟨by have := h2.out; omega⟩, by repeat (first | exact Drawn0.refl _ | apply Drawn0.step)⟩
      ·replace c8 := Bool.eq_false_iff.mpr c8; subst c8; rw [if_neg (show ¬ (false = true) by decide)] at H; obtain rfl := Option.some.inj H
       have b4 : 0 ≤ (a4 : Int) := od_
       have b5 : a4 < (l0.length : Int) := od_
       obtain ⟨d8, g3, d2⟩ := Kd.at_int d9.out a4 b4 b5; cases g3; replace b4 := eq_true b4; replace b5 := eq_true b5
       go_wp2_with (first | ((with_reducible refine gc_ 65 rfl ?_); refine gl_ (some 19) rfl Try.func65 #[.int .i64 (rd l0 a4), .int .i64 a1, .int .i64 a2] ?_; (with_reducible refine (impl_in.calls (rd l0 a4) a1 a2 false _ A7.out).mono ?_); rintro e w' ⟨rfl, ⟨nd, rfl⟩⟩; refine ⟨_, rfl, ?_⟩))
       go_ret
       exact ⟨by first | rfl | (simp; done) | (simp [*]; done), by repeat (first | exact Drawn0.refl _ | apply Drawn0.step)⟩
     ·rw [if_neg c6] at H
      exact absurd H (by simp)
    ·rw [if_neg c5] at H
     exact absurd H (by simp)
   ·rw [if_neg c4] at H; have h3 : decide (a4 < (l0.length : Int)) = false := decide_eq_false c4; clear c4; obtain rfl := Option.some.inj H; go_wp2; go_ret
    exact ⟨by first | rfl | (simp; done) | (simp [*]; done), by repeat (first | exact Drawn0.refl _ | apply Drawn0.step)⟩

/-! ### impl_AirOk: function 40 -/
def impl_AirOk.f (k : Nat) (a0_0 : Int) (l0_1 : List Int) (l0_2 : List Int) : Option (Bool) := (impl_in.f a0_0 (-100) 100).bind fun j0 => (if j0 = true then ((impl_in.f (l0_1.length : Int) 1 6).bind fun j1 => (if j1 = true then (if (l0_2.length : Int) = (l0_1.length : Int) then ((impl_allIn.f k l0_1 (-20) 20).bind fun j2 => (if j2 = true then ((impl_ascends.f k l0_2 1 1000).bind fun j3 => (some j3)) else (some false))) else (some false)) else (some false))) else (some false))
theorem impl_AirOk.mono : ∀ a0 a1 a2 k, LeO (impl_AirOk.f k a0 a1 a2) (impl_AirOk.f (k + 1) a0 a1 a2) := by
 intro a0 a1 a2 k
 unfold impl_AirOk.f
 repeat' first
   | (with_reducible exact impl_allIn.mono _ _ _ _)
   | (with_reducible exact impl_ascends.mono _ _ _ _)
   | (with_reducible exact LeO.refl _)
   | (with_reducible exact LeO.none _)
   | (with_reducible refine LeO.ite ?_ ?_)
   | (with_reducible refine LeO.bind ?_ (fun _ => ?_))
   | exact impl_allIn.mono _ _ _ _
   | exact impl_ascends.mono _ _ _ _
   | exact LeO.none _
   | refine LeO.ite ?_ ?_
   | refine LeO.bind ?_ (fun _ => ?_)
set_option maxHeartbeats 8000000 in
set_option maxRecDepth 100000 in
theorem impl_AirOk.calls (k : Nat) (a0_0 : Int) (A0_1 : Option Addr) (c0_1 : Nat) (l0_1 : List Int) (A0_2 : Option Addr) (c0_2 : Nat) (l0_2 : List Int) (r : Bool) (w : World) (hr0_1 : Kd.C (Kd.int .i64) w A0_1 l0_1.length l0_1) (hc0_1 : l0_1.length ≤ c0_1) (hr0_2 : Kd.C (Kd.int .i64) w A0_2 l0_2.length l0_2) (hc0_2 : l0_2.length ≤ c0_2) (h : impl_AirOk.f k a0_0 l0_1 l0_2 = some r) :
  Calls Try.prog 40 #[.agg #[.int .i64 a0_0, .slice A0_1 l0_1.length c0_1, .slice A0_2 l0_2.length c0_2]] w fun e w' => e = .returned (.bool r) ∧ Below w.heap.size w w' := by
 have o7 := Try.underlying79
 have g9 := mk_ hr0_1; have j4 := mk_ hc0_1; clear hr0_1 hc0_1; have j5 := mk_ hr0_2; have m2 := mk_ hc0_2; clear hr0_2 hc0_2; have HB := mk_ (Below.refl w.heap.size w)
 have H : ((impl_in.f a0_0 (-100) 100).bind fun j0 => (if j0 = true then ((impl_in.f (l0_1.length : Int) 1 6).bind fun j1 => (if j1 = true then (if (l0_2.length : Int) = (l0_1.length : Int) then ((impl_allIn.f k l0_1 (-20) 20).bind fun j2 => (if j2 = true then ((impl_ascends.f k l0_2 1 1000).bind fun j3 => (some j3)) else (some false))) else (some false)) else (some false))) else (some false))) = some r := h
 clear h; replace H := Option.bind_eq_some_iff.mp H; obtain ⟨j0, o8, H⟩ := H; (try dsimp only at H); have A2 := mk_ o8; clear o8; by_cases c3 : j0 = true
 ·subst c3; rw [if_pos rfl] at H
  replace H := Option.bind_eq_some_iff.mp H; obtain ⟨j1, D6, H⟩ := H
  (try dsimp only at H); have A4 := mk_ D6; clear D6
  by_cases c5 : j1 = true
  ·subst c5; rw [if_pos rfl] at H
   by_cases c6 : (l0_2.length : Int) = (l0_1.length : Int)
   ·rw [if_pos c6] at H; have j6 : ((l0_2.length : Int) == (l0_1.length : Int)) = true := beq_iff_eq.mpr c6; have B6 : ((l0_2.length : Int) != (l0_1.length : Int)) = false := bne_eq_false_iff_eq.mpr c6
    have B7 : (l0_2.length == l0_1.length) = true := by first | simpa using c6 | (simp at c6 ⊢; omega)
    clear c6; replace H := Option.bind_eq_some_iff.mp H; obtain ⟨j2, m0, H⟩ := H; (try dsimp only at H); have A7 := mk_ m0; clear m0; by_cases c8 : j2 = true
    ·subst c8; rw [if_pos rfl] at H
     replace H := Option.bind_eq_some_iff.mp H; obtain ⟨j3, D7, H⟩ := H
     (try dsimp only at H); have A9 := mk_ D7; clear D7
     obtain rfl := Option.some.inj H
     go_enter Try.func40, Try.ntmps40
     go_wp2_with (first | ((with_reducible refine gd_ 1 rfl ?_); (try (refine gate_guard (by rfl) ?_; dsimp only)); refine box_event ?hg (N := 1) ?hd (cs := #[.int .i64 a0_0, .slice A0_1 l0_1.length c0_1, .slice A0_2 l0_2.length c0_2]) (t := 79) ?hr ?_; (case hd => rfl); (case hg => rfl); (case hr => exact hr_); intro h0 hg E8 hbox hb; have a5 := mk_ (hbox); have b8 := gb_ hg HB; replace HB := bp_ HB hb; have h1 := b8; clear hb hbox hg; have j9 := bc0_ a5; have l1 := bc1_ a5; have l2 := bc2_ a5; have l3 := bf_ a5 0; have l4 := bf_ a5 1; have l5 := bf_ a5 2) | ((with_reducible refine gc_ 65 rfl ?_); refine gl_ (some 5) rfl Try.func65 #[.int .i64 a0_0, .int .i64 (-100), .int .i64 100] ?_; (with_reducible refine (impl_in.calls a0_0 (-100) 100 true _ A2.out).mono ?_); rintro e w' ⟨rfl, ⟨nd, rfl⟩⟩; refine ⟨_, rfl, ?_⟩) | (go_at_call 65; (with_reducible refine (impl_in.calls (l0_1.length : Int) 1 6 true _ A4.out).mono ?_); rintro e w' ⟨rfl, ⟨nd, rfl⟩⟩) | (go_at_call 55; (with_reducible refine (impl_allIn.calls k _ _ l0_1 (-20) 20 true _ ?b6 ?b7 A7.out).mono ?_); (case b6 => repeat (first | exact (Kd.C_below g9.out (hw_ HB)) | (with_reducible refine Kd.C_alloc ?_ _) | (with_reducible refine Kd.C_drewN ?_ _) | (with_reducible refine Kd.C_drew ?_))); (case b7 => exact j4.out); rintro e w' ⟨rfl, ⟨nd, rfl⟩⟩) | (go_at_call 69; (with_reducible refine (impl_ascends.calls k _ _ l0_2 1 1000 j3 _ ?b6 ?b7 A9.out).mono ?_); (case b6 => repeat (first | exact (Kd.C_below j5.out (hw_ HB)) | (with_reducible refine Kd.C_alloc ?_ _) | (with_reducible refine Kd.C_drewN ?_ _) | (with_reducible refine Kd.C_drew ?_))); (case b7 => exact m2.out); rintro e w' ⟨rfl, ⟨nd, rfl⟩⟩))
     go_ret
     exact ⟨re_, hw_ HB⟩
    ·replace c8 := Bool.eq_false_iff.mpr c8; subst c8; rw [if_neg (show ¬ (false = true) by decide)] at H; obtain rfl := Option.some.inj H
     go_enter Try.func40, Try.ntmps40
     go_wp2_with (first | ((with_reducible refine gd_ 1 rfl ?_); (try (refine gate_guard (by rfl) ?_; dsimp only)); refine box_event ?hg (N := 1) ?hd (cs := #[.int .i64 a0_0, .slice A0_1 l0_1.length c0_1, .slice A0_2 l0_2.length c0_2]) (t := 79) ?hr ?_; (case hd => rfl); (case hg => rfl); (case hr => exact hr_); intro h0 hg E9 hbox hb; have a5 := mk_ (hbox); have b8 := gb_ hg HB; replace HB := bp_ HB hb; have h1 := b8; clear hb hbox hg; have q3 := bc0_ a5; have q4 := bc1_ a5; have q5 := bc2_ a5; have q6 := bf_ a5 0; have q7 := bf_ a5 1; have q8 := bf_ a5 2) | ((with_reducible refine gc_ 65 rfl ?_); refine gl_ (some 5) rfl Try.func65 #[.int .i64 a0_0, .int .i64 (-100), .int .i64 100] ?_; (with_reducible refine (impl_in.calls a0_0 (-100) 100 true _ A2.out).mono ?_); rintro e w' ⟨rfl, ⟨nd, rfl⟩⟩; refine ⟨_, rfl, ?_⟩) | (go_at_call 65; (with_reducible refine (impl_in.calls (l0_1.length : Int) 1 6 true _ A4.out).mono ?_); rintro e w' ⟨rfl, ⟨nd, rfl⟩⟩) | (go_at_call 55; (with_reducible refine (impl_allIn.calls k _ _ l0_1 (-20) 20 false _ ?b6 ?b7 A7.out).mono ?_); (case b6 => repeat (first | exact (Kd.C_below g9.out (hw_ HB)) | (with_reducible refine Kd.C_alloc ?_ _) | (with_reducible refine Kd.C_drewN ?_ _) | (with_reducible refine Kd.C_drew ?_))); (case b7 => exact j4.out); rintro e w' ⟨rfl, ⟨nd, rfl⟩⟩))
     go_ret
     exact ⟨re_, hw_ HB⟩
   ·rw [if_neg c6] at H; have j6 : ((l0_2.length : Int) == (l0_1.length : Int)) = false := beq_eq_false_iff_ne.mpr c6; have B6 : ((l0_2.length : Int) != (l0_1.length : Int)) = true := bne_iff_ne.mpr c6
    have B7 : (l0_2.length == l0_1.length) = false := by first | simpa using c6 | (simp at c6 ⊢; omega)
    obtain rfl := Option.some.inj H
    go_enter Try.func40, Try.ntmps40
    go_wp2_with (first | ((with_reducible refine gd_ 1 rfl ?_); (try (refine gate_guard (by rfl) ?_; dsimp only)); refine box_event ?hg (N := 1) ?hd (cs := #[.int .i64 a0_0, .slice A0_1 l0_1.length c0_1, .slice A0_2 l0_2.length c0_2]) (t := 79) ?hr ?_; (case hd => rfl); (case hg => rfl); (case hr => exact hr_); intro h0 hg F0 hbox hb; have a5 := mk_ (hbox); have b8 := gb_ hg HB; replace HB := bp_ HB hb; have h1 := b8; clear hb hbox hg; have q9 := bc0_ a5; have s0 := bc1_ a5; have s1 := bc2_ a5; have s2 := bf_ a5 0; have s3 := bf_ a5 1; have s4 := bf_ a5 2) | ((with_reducible refine gc_ 65 rfl ?_); refine gl_ (some 5) rfl Try.func65 #[.int .i64 a0_0, .int .i64 (-100), .int .i64 100] ?_; (with_reducible refine (impl_in.calls a0_0 (-100) 100 true _ A2.out).mono ?_); rintro e w' ⟨rfl, ⟨nd, rfl⟩⟩; refine ⟨_, rfl, ?_⟩) | (go_at_call 65; (with_reducible refine (impl_in.calls (l0_1.length : Int) 1 6 true _ A4.out).mono ?_); rintro e w' ⟨rfl, ⟨nd, rfl⟩⟩))
    go_ret
    exact ⟨re_, hw_ HB⟩
  ·replace c5 := Bool.eq_false_iff.mpr c5; subst c5; rw [if_neg (show ¬ (false = true) by decide)] at H; obtain rfl := Option.some.inj H
   go_enter Try.func40, Try.ntmps40
   go_wp2_with (first | ((with_reducible refine gd_ 1 rfl ?_); (try (refine gate_guard (by rfl) ?_; dsimp only)); refine box_event ?hg (N := 1) ?hd (cs := #[.int .i64 a0_0, .slice A0_1 l0_1.length c0_1, .slice A0_2 l0_2.length c0_2]) (t := 79) ?hr ?_; (case hd => rfl); (case hg => rfl); (case hr => exact hr_); intro h0 hg F1 hbox hb; have a5 := mk_ (hbox); have b8 := gb_ hg HB; replace HB := bp_ HB hb; have h1 := b8; clear hb hbox hg; have s5 := bc0_ a5; have s6 := bc1_ a5; have s7 := bc2_ a5; have s8 := bf_ a5 0; have s9 := bf_ a5 1; have t0 := bf_ a5 2) | ((with_reducible refine gc_ 65 rfl ?_); refine gl_ (some 5) rfl Try.func65 #[.int .i64 a0_0, .int .i64 (-100), .int .i64 100] ?_; (with_reducible refine (impl_in.calls a0_0 (-100) 100 true _ A2.out).mono ?_); rintro e w' ⟨rfl, ⟨nd, rfl⟩⟩; refine ⟨_, rfl, ?_⟩) | (go_at_call 65; (with_reducible refine (impl_in.calls (l0_1.length : Int) 1 6 false _ A4.out).mono ?_); rintro e w' ⟨rfl, ⟨nd, rfl⟩⟩))
   go_ret
   exact ⟨re_, hw_ HB⟩
 ·replace c3 := Bool.eq_false_iff.mpr c3; subst c3; rw [if_neg (show ¬ (false = true) by decide)] at H; obtain rfl := Option.some.inj H
  go_enter Try.func40, Try.ntmps40
  go_wp2_with (first | ((with_reducible refine gd_ 1 rfl ?_); (try (refine gate_guard (by rfl) ?_; dsimp only)); refine box_event ?hg (N := 1) ?hd (cs := #[.int .i64 a0_0, .slice A0_1 l0_1.length c0_1, .slice A0_2 l0_2.length c0_2]) (t := 79) ?hr ?_; (case hd => rfl); (case hg => rfl); (case hr => exact hr_); intro h0 hg F2 hbox hb; have a5 := mk_ (hbox); have b8 := gb_ hg HB; replace HB := bp_ HB hb; have h1 := b8; clear hb hbox hg; have t1 := bc0_ a5; have t2 := bc1_ a5; have t3 := bc2_ a5; have t4 := bf_ a5 0; have t5 := bf_ a5 1; have t6 := bf_ a5 2) | ((with_reducible refine gc_ 65 rfl ?_); refine gl_ (some 5) rfl Try.func65 #[.int .i64 a0_0, .int .i64 (-100), .int .i64 100] ?_; (with_reducible refine (impl_in.calls a0_0 (-100) 100 false _ A2.out).mono ?_); rintro e w' ⟨rfl, ⟨nd, rfl⟩⟩; refine ⟨_, rfl, ?_⟩))
  go_ret
  exact ⟨re_, hw_ HB⟩

/-! ### impl_warm: function 81 -/
def impl_warm.l0 : Nat → Int → Int → Int → List Int → Int → Int → Int → List Int → List Int → Option (Int)
 | 0, _, _, _, _, _, _, _, _, _ => none
 | k + 1, x1, x5, x6, t7, D8, m3, l6, d3, l7 => if m3 < D8 then (if 0 ≤ m3 then (if m3 < (t7.length : Int) then (if m3 < (d3.length : Int) then (impl_warm.l0 k x1 (wrap64 (x5 + (wrap64 ((rd d3 m3) * (mx (wrap64 ((mn x1 (rd t7 m3)) - x6)) 0))))) (rd t7 m3) t7 D8 (wrap64 (m3 + 1)) l6 d3 l7) else (none)) else (none)) else (none)) else (some x5)
def impl_warm.f (k : Nat) (a0_0 : Int) (l0_1 : List Int) (l0_2 : List Int) (a1 : Int) : Option (Int) := impl_warm.l0 k a1 a0_0 0 l0_2 (l0_2.length : Int) 0 a0_0 l0_1 l0_2
theorem impl_warm.mono_l : ∀ k, (∀ y0 y1 y2 y3 y4 y5 y6 y7 y8, LeO (impl_warm.l0 k y0 y1 y2 y3 y4 y5 y6 y7 y8) (impl_warm.l0 (k + 1) y0 y1 y2 y3 y4 y5 y6 y7 y8))
 | 0 => fun _ _ _ _ _ _ _ _ _ r h => by simp [impl_warm.l0] at h
 | k + 1 => by
  have b9 := impl_warm.mono_l k
  ·intro y0 y1 y2 y3 y4 y5 y6 y7 y8
   unfold impl_warm.l0
   repeat' first
   | (with_reducible exact b9 _ _ _ _ _ _ _ _ _)
   | (with_reducible exact LeO.refl _)
   | (with_reducible exact LeO.none _)
   | (with_reducible refine LeO.ite ?_ ?_)
   | (with_reducible refine LeO.bind ?_ (fun _ => ?_))
   | exact b9 _ _ _ _ _ _ _ _ _
   | exact LeO.none _
   | refine LeO.ite ?_ ?_
   | refine LeO.bind ?_ (fun _ => ?_)
theorem impl_warm.mono : ∀ a0 a1 a2 a3 k, LeO (impl_warm.f k a0 a1 a2 a3) (impl_warm.f (k + 1) a0 a1 a2 a3) := by
 intro a0 a1 a2 a3 k
 have b9 := impl_warm.mono_l k
 unfold impl_warm.f
 repeat' first
   | (with_reducible exact b9 _ _ _ _ _ _ _ _ _)
   | (with_reducible exact LeO.refl _)
   | (with_reducible exact LeO.none _)
   | (with_reducible refine LeO.ite ?_ ?_)
   | (with_reducible refine LeO.bind ?_ (fun _ => ?_))
   | exact b9 _ _ _ _ _ _ _ _ _
   | exact LeO.none _
   | refine LeO.ite ?_ ?_
   | refine LeO.bind ?_ (fun _ => ?_)
set_option maxHeartbeats 8000000 in
set_option maxRecDepth 100000 in
theorem impl_warm.calls (k : Nat) (a0_0 : Int) (A0_1 : Option Addr) (c0_1 : Nat) (l0_1 : List Int) (A0_2 : Option Addr) (c0_2 : Nat) (l0_2 : List Int) (a1 : Int) (r : Int) (w : World) (hr0_1 : Kd.C (Kd.int .i64) w A0_1 l0_1.length l0_1) (hc0_1 : l0_1.length ≤ c0_1) (hr0_2 : Kd.C (Kd.int .i64) w A0_2 l0_2.length l0_2) (hc0_2 : l0_2.length ≤ c0_2) (h : impl_warm.f k a0_0 l0_1 l0_2 a1 = some r) :
  Calls Try.prog 81 #[.agg #[.int .i64 a0_0, .slice A0_1 l0_1.length c0_1, .slice A0_2 l0_2.length c0_2], .int .i64 a1] w fun e w' => e = .returned (.int .i64 r) ∧ Below w.heap.size w w' := by
 have o7 := Try.underlying79
 have g9 := mk_ hr0_1; have j4 := mk_ hc0_1; clear hr0_1 hc0_1; have j5 := mk_ hr0_2; have m2 := mk_ hc0_2; clear hr0_2 hc0_2; have HB := mk_ (Below.refl w.heap.size w)
 have H : (impl_warm.l0 k a1 a0_0 0 l0_2 (l0_2.length : Int) 0 a0_0 l0_1 l0_2) = some r := h
 clear h
 have H' := mk_ H
 clear H
 go_enter Try.func81, Try.ntmps81
 go_wp2_with (first | ((with_reducible refine gd_ 2 rfl ?_); refine box_event ?hg (N := 2) ?hd (cs := #[.int .i64 a0_0, .slice A0_1 l0_1.length c0_1, .slice A0_2 l0_2.length c0_2]) (t := 79) ?hr ?_; (case hd => rfl); (case hg => rfl); (case hr => exact hr_); intro p5 hg w3 hbox hb; have a8 := mk_ (hbox); have p6 := gb_ hg HB; replace HB := bp_ HB hb; have D9 := p6; clear hb hbox hg; have B8 := bc0_ a8; have B9 := bc1_ a8; have C0 := bc2_ a8; have C1 := bf_ a8 0; have C2 := bf_ a8 1; have C3 := bf_ a8 2))
 go_loopg [5, 6, 14] k (fun kq v5 v6 v14 w' => ∃ (h5 : Int) (g6 : Int) (a6 : Int), v5 = .int .i64 h5 ∧ v6 = .int .i64 g6 ∧ v14 = .int .i64 a6 ∧ Aside0 (impl_warm.l0 kq a1 h5 g6 l0_2 (l0_2.length : Int) a6 a0_0 l0_1 l0_2 = some r) ∧ Aside0 (kq ≤ k) ∧ Aside0 (w'.heap[p5]? = some (.cells #[.int .i64 a0_0, (.slice A0_1 l0_1.length c0_1), (.slice A0_2 l0_2.length c0_2)] 79 (0, 0))) ∧ Aside0 (Below w.heap.size w w'))
 case atStart => exact ⟨(a0_0), (0), (0), rf_, rf_, rf_, H', ⟨Nat.le_refl _⟩, bw_ a8, ⟨hw_ HB⟩⟩
 case round =>
  clear H'
  obtain ⟨h5, g6, a6, rfl, rfl, rfl, HA, h2, a8, HB⟩ := hrel
  cases gk with
  | zero => exact absurd HA.out (by simp [impl_warm.l0])
  | succ k1 =>
   have H := HA.out; clear HA
   simp only [impl_warm.l0] at H
   by_cases c5 : a6 < (l0_2.length : Int)
   ·rw [if_pos c5] at H; have n2 : decide (a6 < (l0_2.length : Int)) = true := decide_eq_true c5; clear c5; by_cases c6 : 0 ≤ a6
    ·rw [if_pos c6] at H; have j6 : decide (0 ≤ a6) = true := decide_eq_true c6; clear c6; by_cases c7 : a6 < (l0_2.length : Int)
     ·rw [if_pos c7] at H; have E6 : decide (a6 < (l0_2.length : Int)) = true := decide_eq_true c7; clear c7; by_cases c8 : a6 < (l0_1.length : Int)
      ·rw [if_pos c8] at H; have E7 : decide (a6 < (l0_1.length : Int)) = true := decide_eq_true c8; clear c8
       obtain ⟨p7, n6⟩ : ∃ j_ : Int, (mn a1 (rd l0_2 a6)) = j_ := ⟨_, rfl⟩
       replace H : (impl_warm.l0 k1 a1 (wrap64 (h5 + (wrap64 ((rd l0_1 a6) * (mx (wrap64 ((p7) - g6)) 0))))) (rd l0_2 a6) l0_2 (l0_2.length : Int) (wrap64 (a6 + 1)) a0_0 l0_1 l0_2) = some r := by first | (rw [n6] at H; exact H) | (simp only [n6] at H ⊢; exact H)
       have E0 : (if (rd l0_2 a6) < a1 then (rd l0_2 a6) else a1) = p7 := n6
       obtain ⟨a9, b3⟩ : ∃ j_ : Int, (mx (wrap64 ((p7) - g6)) 0) = j_ := ⟨_, rfl⟩
       replace H : (impl_warm.l0 k1 a1 (wrap64 (h5 + (wrap64 ((rd l0_1 a6) * (a9))))) (rd l0_2 a6) l0_2 (l0_2.length : Int) (wrap64 (a6 + 1)) a0_0 l0_1 l0_2) = some r := by first | (rw [b3] at H; exact H) | (simp only [b3] at H ⊢; exact H)
       have C4 : (if (wrap64 ((p7) - g6)) < 0 then 0 else (wrap64 ((p7) - g6))) = a9 := b3
       have H' := mk_ H
       clear H
       have n7 : 0 ≤ (a6 : Int) := od_
       have n8 : a6 < (l0_2.length : Int) := od_
       obtain ⟨E1, C5, d4⟩ := Kd.at_int j5.out a6 n7 n8; cases C5
       replace d4 := (HB.out.cell (World.block_lt_of_cell? w _ d4)).trans d4
       replace n7 := eq_true n7; replace n8 := eq_true n8; have j9 := bc0_ a8; have l1 := bc1_ a8; have l2 := bc2_ a8; have l3 := bf_ a8 0; have l4 := bf_ a8 1; have l5 := bf_ a8 2
       have n9 : 0 ≤ (a6 : Int) := od_
       have o0 : a6 < (l0_1.length : Int) := od_
       obtain ⟨E2, C6, d5⟩ := Kd.at_int g9.out a6 n9 o0; cases C6
       replace d5 := (HB.out.cell (World.block_lt_of_cell? w _ d5)).trans d5
       replace n9 := eq_true n9; replace o0 := eq_true o0; go_wp2; go_roundg k1
       case measure => have := h2.out; omega
       case rel => exact ⟨(wrap64 (h5 + (wrap64 ((rd l0_1 a6) * (a9))))), (rd l0_2 a6), (wrap64 (a6 + 1)), (by first | rfl | (simp; done) | (simp only [← b3] <;> (first | rfl | simp)) | (simp [*]; done)), rf_, rf_, H', ⟨by have := h2.out; omega⟩, bw_ a8, ⟨hw_ HB⟩⟩
      ·rw [if_neg c8] at H
       exact absurd H (by simp)
     ·rw [if_neg c7] at H
      exact absurd H (by simp)
    ·rw [if_neg c6] at H
     exact absurd H (by simp)
   ·rw [if_neg c5] at H; have n2 : decide (a6 < (l0_2.length : Int)) = false := decide_eq_false c5; clear c5; obtain rfl := Option.some.inj H; go_wp2; go_ret
    exact ⟨re_, hw_ HB⟩

end Go.Proofs.Ytkginilghcepbaa.QFnAir
-- squeezed
