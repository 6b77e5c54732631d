/- Lean functions that tell what the Go functions used by one law answer, and for each a proof that the Go code comes to just these answers; no condition. Printed by this session's own program over the kit's printer. -/
import Derived.Test.YtnphbpkpjinddaaWSq
import Derived.Test.YtnphbpkpjinddaaQFnTablesx0
import Derived.Test.YtnphbpkpjinddaaQFnTablesx1
import Derived.Test.YtnphbpkpjinddaaQFnTablesx2
import Derived.Test.YtnphbpkpjinddaaQFnTablesx3
import Derived.Test.YtnphbpkpjinddaaQFnTablesx4
namespace Go.Proofs.Ytnphbpkpjinddaa.QFnTables
open Go.RowKit Go.Proofs.YtnphbpkpjinddaaW.PrintWords Go.Proofs.YtnphbpkpjinddaaW.PrintLast Go.Proofs.YtnphbpkpjinddaaW.PrintMore
attribute [local go_sem] max2_int min2_int max_two min_two max_three min_three max_four min_four   -- for this text's walks alone
attribute [local go_sem high] go_eql go_neq go_lss go_leq go_gtr go_geq go_store   -- for this text's walks alone
set_option linter.unusedVariables false
set_option linter.unusedSimpArgs false

/-! ### spec_l1Min: function 83 -/
def spec_l1Min.f (a0 : Int) (a1 : Int) : Option (Int) := if a0 < a1 then (some a0) else (some a1)
set_option maxHeartbeats 8000000 in
set_option maxRecDepth 100000 in
theorem spec_l1Min.calls (a0 : Int) (a1 : Int) (r : Int) (w : World) (h : spec_l1Min.f a0 a1 = some r) :
  Calls Try.prog 83 #[.int .i64 a0, .int .i64 a1] w fun e w' => e = .returned (.int .i64 r) ∧ Drawn0 w w' := by
 have H : (if a0 < a1 then (some a0) else (some a1)) = some r := h
 clear h; by_cases c3 : a0 < a1
 ·rw [if_pos c3] at H; have C8 : decide (a0 < a1) = true := decide_eq_true c3; clear c3; obtain rfl := Option.some.inj H
  go_enter Try.func83, Try.ntmps83
  go_wp2; go_ret
  exact ⟨by first | rfl | (simp; done) | (simp [*]; done), by repeat (first | exact Drawn0.refl _ | apply Drawn0.step)⟩
 ·rw [if_neg c3] at H; have C8 : decide (a0 < a1) = false := decide_eq_false c3; clear c3; obtain rfl := Option.some.inj H
  go_enter Try.func83, Try.ntmps83
  go_wp2; go_ret
  exact ⟨by first | rfl | (simp; done) | (simp [*]; done), by repeat (first | exact Drawn0.refl _ | apply Drawn0.step)⟩

/-! ### spec_DrawCurve: function 31 -/
def spec_DrawCurve.l0 : Nat → List Int → Int → Int → List Int → List Int → Option (List Int × List Int × Int)
 | 0, _, _, _, _, _ => none
 | k + 1, h4, j1, j2, c6, j3 => (spec_CurveOk.f k c6 j3).bind fun m3 => (if m3 = true then (if 0 < (c6.length : Int) then (if 0 ≤ (wrap64 ((c6.length : Int) - 1)) then (if (wrap64 ((c6.length : Int) - 1)) < (c6.length : Int) then ((spec_l1Min.f (wrap64 ((wrap64 ((rd c6 (wrap64 ((c6.length : Int) - 1))) - (rd c6 0))) + 1)) 60000).bind fun g8 => ((spec_l1Below.f h4 j1 j2 g8).bind fun g2 => (some (c6, j3, wrap64 ((rd c6 0) + g2.1))))) else (none)) else (none)) else (none)) else ((spec_l1DrawCurve.f k h4 j1 j2).bind fun d3 => (spec_DrawCurve.l0 k h4 d3.2.2.1 d3.2.2.2 d3.1 d3.2.1)))
def spec_DrawCurve.f (k : Nat) (l0 : List Int) : Option (List Int × List Int × Int) := (spec_l1New.f k l0).bind fun g3 => ((spec_l1DrawCurve.f k g3.1 g3.2.1 g3.2.2).bind fun d4 => (spec_DrawCurve.l0 k g3.1 d4.2.2.1 d4.2.2.2 d4.1 d4.2.1))
theorem spec_DrawCurve.mono_l : ∀ k, (∀ y0 y1 y2 y3 y4, LeO (spec_DrawCurve.l0 k y0 y1 y2 y3 y4) (spec_DrawCurve.l0 (k + 1) y0 y1 y2 y3 y4))
 | 0 => fun _ _ _ _ _ r h => by simp [spec_DrawCurve.l0] at h
 | k + 1 => by
  have p7 := spec_DrawCurve.mono_l k
  ·intro y0 y1 y2 y3 y4
   unfold spec_DrawCurve.l0
   repeat' first
   | (with_reducible exact p7 _ _ _ _ _)
   | (with_reducible exact spec_CurveOk.mono _ _ _)
   | (with_reducible exact spec_l1DrawCurve.mono _ _ _ _)
   | (with_reducible exact spec_l1New.mono _ _)
   | (with_reducible exact LeO.refl _)
   | (with_reducible exact LeO.none _)
   | (with_reducible refine LeO.ite ?_ ?_)
   | (with_reducible refine LeO.bind ?_ (fun _ => ?_))
   | exact p7 _ _ _ _ _
   | exact spec_CurveOk.mono _ _ _
   | exact spec_l1DrawCurve.mono _ _ _ _
   | exact spec_l1New.mono _ _
   | exact LeO.none _
   | refine LeO.ite ?_ ?_
   | refine LeO.bind ?_ (fun _ => ?_)
theorem spec_DrawCurve.mono : ∀ a0 k, LeO (spec_DrawCurve.f k a0) (spec_DrawCurve.f (k + 1) a0) := by
 intro a0 k
 have p7 := spec_DrawCurve.mono_l k
 unfold spec_DrawCurve.f
 repeat' first
   | (with_reducible exact p7 _ _ _ _ _)
   | (with_reducible exact spec_CurveOk.mono _ _ _)
   | (with_reducible exact spec_l1DrawCurve.mono _ _ _ _)
   | (with_reducible exact spec_l1New.mono _ _)
   | (with_reducible exact LeO.refl _)
   | (with_reducible exact LeO.none _)
   | (with_reducible refine LeO.ite ?_ ?_)
   | (with_reducible refine LeO.bind ?_ (fun _ => ?_))
   | exact p7 _ _ _ _ _
   | exact spec_CurveOk.mono _ _ _
   | exact spec_l1DrawCurve.mono _ _ _ _
   | exact spec_l1New.mono _ _
   | exact LeO.none _
   | refine LeO.ite ?_ ?_
   | refine LeO.bind ?_ (fun _ => ?_)
def spec_DrawCurve.T5 : Bool × List (List Nat × List Nat) := (true, [([], []), ([], []), ([1], [1]), ([2], [2]), ([3], [3]), ([], []), ([], []), ([6], [6]), ([], []), ([8], [8]), ([9], [9]), ([10], [10]), ([7, 11], [7, 11]), ([12], [12]), ([], []), ([14], [14]), ([15], [15]), ([16], [16]), ([13, 17], [13, 17]), ([18], [18]), ([19], [19]), ([5, 20, 20], [5, 20]), ([4, 21], [4, 21]), ([0, 21, 0], [0]), ([22, 23, 0, 1, 2, 3, 4, 5, 6, 7, 8, 9, 10, 11, 12, 13, 14, 15, 16, 17, 18, 19, 20, 21, 22, 23], [22])])
def spec_DrawCurve.B5 : List Nat := [0, 0, 2, 6, 14, 0, 0, 64, 0, 256, 768, 1792, 4032, 8128, 0, 16384, 49152, 114688, 262080, 524224, 1048512, 2097120, 4194302, 4194273, 16777215]
theorem spec_DrawCurve.tab5 : rtab .any (opsOf Try.f31 5) = spec_DrawCurve.T5 := by kernel_rfl
theorem spec_DrawCurve.bits5 : waitsOk spec_DrawCurve.T5.2 spec_DrawCurve.B5 = true := by kernel_rfl
set_option maxHeartbeats 8000000 in
set_option maxRecDepth 100000 in
theorem spec_DrawCurve.calls (k : Nat) (A0 : Option Addr) (c0 : Nat) (l0 : List Int) (r1 : List Int) (r2 : List Int) (r3 : Int) (w : World) (hr0 : Kd.C (Kd.int .u8) w A0 l0.length l0) (hc0 : l0.length ≤ c0) (h : spec_DrawCurve.f k l0 = some (r1, r2, r3)) :
  Calls Try.prog 31 #[.slice A0 l0.length c0] w fun e w' => ∃ v0_ v1_ : Value, e = .returned (.tuple #[.agg #[v0_, v1_], .int .i64 r3]) ∧ Kd.R (Kd.int .i64) 3 w' w.heap.size (fun k_ => some k_ ≠ (v1_ : Value).ownBlock) v0_ r1 ∧ Kd.R (Kd.int .i64) 3 w' w.heap.size (fun k_ => some k_ ≠ (v0_ : Value).ownBlock) v1_ r2 ∧ Below w.heap.size w w' := by
 have C9 := Try.underlying51
 have H9 := mk_ hr0; have I0 := mk_ hc0; clear hr0 hc0; have HB := mk_ (Below.refl w.heap.size w)
 have H : ((spec_l1New.f k l0).bind fun g3 => ((spec_l1DrawCurve.f k g3.1 g3.2.1 g3.2.2).bind fun d4 => (spec_DrawCurve.l0 k g3.1 d4.2.2.1 d4.2.2.2 d4.1 d4.2.1))) = some (r1, r2, r3) := h
 clear h; replace H := Option.bind_eq_some_iff.mp H; obtain ⟨⟨d1, n4, n5⟩, s4, H⟩ := H
 replace H : ((spec_l1DrawCurve.f k d1 n4 n5).bind fun d4 => (spec_DrawCurve.l0 k d1 d4.2.2.1 d4.2.2.2 d4.1 d4.2.1)) = some (r1, r2, r3) := H
 have A2 := mk_ s4; clear s4; replace H := Option.bind_eq_some_iff.mp H; obtain ⟨⟨h7, j7, l5, l6⟩, p8, H⟩ := H
 replace H : (spec_DrawCurve.l0 k d1 l5 l6 h7 j7) = some (r1, r2, r3) := H
 have A3 := mk_ p8; clear p8
 have H' := mk_ H
 clear H
 go_enter Try.func31, Try.ntmps31
 go_wp2_with (first | ((with_reducible refine gd_ 2 rfl ?_); refine box_event ?hg (N := 2) ?hd (cs := #[.slice none 0 0, .slice none 0 0]) (t := 51) ?hr ?_; (case hd => rfl); (case hg => rfl); (case hr => exact hr_); intro b7 hg w4 hbox hb; have a5 := mk_ (hbox); have p9 := gb_ hg HB; replace HB := bp_ HB hb; have q0 := p9; clear hb hbox hg) | ((with_reducible refine gc_ 80 rfl ?_); refine gl_ (some 7) rfl Try.func80 #[.slice A0 l0.length c0] ?_; (with_reducible refine (spec_l1New.calls k _ _ l0 d1 n4 n5 w _ ?c9 ?d0 ?d9 A2.out).mono ?_); (case c9 => exact HB.out); (case d0 => exact H9.out); (case d9 => exact I0.out); rintro e w5 ⟨g230, rfl, hi, hb, j8⟩; refine ⟨_, rfl, ?_⟩; replace HB := mk_ (hb); have a6 := mk_ (hi); have b2 := mk_ (IsS152.ne_blk hi (blk_below (g := b7) (o := .cells #[.slice none 0 0, .slice none 0 0] 51 (0, 0)) (by exact a5.out) j8) (by decide)); have g7 := mk_ (Ne.symm (IsS152.ne_blk hi (blk_below (g := b7) (o := .cells #[.slice none 0 0, .slice none 0 0] 51 (0, 0)) (by exact a5.out) j8) (by decide))); replace a5 := bl_ a5 j8; (try clear hb); (try clear j8); (try clear hk); (try clear hi)) | ((with_reducible refine gc_ 81 rfl ?_); refine gl_ (some 9) rfl Try.func81 #[.pointer (some ⟨g230, 0, none⟩)] ?_; (with_reducible refine (spec_l1DrawCurve.calls k g230 d1 n4 n5 h7 j7 l5 l6 w _ ?c9 ?d0 A3.out).mono ?_); (case c9 => repeat (first | (with_reducible first | exact a6.out | apply IsS152.alloc | apply IsS152.drewN | apply IsS152.drew | apply IsS152.set_1 | apply IsS152.set_2 | refine IsS152.far ?_ b2.out _) | exact a6.out)); (case d0 => exact HB.out); rintro e w6 ⟨v232, v235, rfl, n6, n7, hi, hb, hk⟩; refine ⟨_, rfl, ?_⟩; replace a5 := mk_ (KeepBut.blk hk (g' := b7) (o := .cells #[.slice none 0 0, .slice none 0 0] 51 (0, 0)) (by exact a5.out) g7.out (by simp)); have j4 := mk_ (Kd.R_lower n6 (below_size (by exact HB.out))); have j5 := mk_ (Kd.R_lower n7 (below_size (by exact HB.out))); replace HB := mk_ (hb); replace a6 := mk_ (hi); (try clear hb); (try clear j8); (try clear hk); (try clear hi); (try clear n6); (try clear n7)) | ((with_reducible refine gd_ 5 rfl ?_); refine box_event ?hg (N := 5) ?hd (cs := #[.slice none 0 0, .slice none 0 0]) (t := 51) ?hr ?_; (case hd => rfl); (case hg => rfl); (case hr => exact hr_); intro d2 hg w7 hbox hb; replace j4 := rb_ j4 hb; replace j5 := rb_ j5 hb; have a9 := mk_ (hbox); have q1 := gb_ hg HB; replace HB := bp_ HB hb; have n1 := q1; have b6 := nb_ hg a5; replace a5 := bl_ a5 hb; have b9 := ns_ b6; have b4 := mk_ ((by rw [hg]; exact Nat.ne_of_lt (IsS152.lt (show IsS152 w _ g230 d1 l5 l6 from by repeat (first | (with_reducible first | exact a6.out | apply IsS152.alloc | apply IsS152.drewN | apply IsS152.drew | apply IsS152.set_1 | apply IsS152.set_2 | refine IsS152.far ?_ b2.out _) | exact a6.out))) : g230 ≠ d2)); have d5 := mk_ ((by rw [hg]; exact Nat.ne_of_gt (IsS152.lt (show IsS152 w _ g230 d1 l5 l6 from by repeat (first | (with_reducible first | exact a6.out | apply IsS152.alloc | apply IsS152.drewN | apply IsS152.drew | apply IsS152.set_1 | apply IsS152.set_2 | refine IsS152.far ?_ b2.out _) | exact a6.out))) : d2 ≠ g230)); replace a6 := mk_ (IsS152.below (by repeat (first | (with_reducible first | exact a6.out | apply IsS152.alloc | apply IsS152.drewN | apply IsS152.drew | apply IsS152.set_1 | apply IsS152.set_2 | refine IsS152.far ?_ b2.out _) | exact a6.out)) hb); clear hb hbox hg; obtain ⟨s5, s6, I1⟩ := Kd.R_slice j4.out; subst I1; have I2 := b9.out; have I3 := b6.out; have E9 := d5.out; have F0 := b4.out; have s7 := bc0_ a9; have s8 := bc1_ a9; have s9 := bf_ a9 0; have t0 := bf_ a9 1; obtain ⟨n8, n9, D0⟩ := Kd.R_slice j5.out; subst D0))
 go_loopg [] k (fun kq w' => ∃ (b0 : Int) (b1 : Int) (a3 : List Int) (a7 : List Int) (g9 : Value) (h0 : Value), Aside0 (spec_DrawCurve.l0 kq d1 b0 b1 a3 a7 = some (r1, r2, r3)) ∧ Aside0 (kq ≤ k) ∧ Aside0 (Kd.R (Kd.int .i64) 3 w' w.heap.size (fun k_ => some k_ ≠ (h0 : Value).ownBlock) g9 a3) ∧ Aside0 (Kd.R (Kd.int .i64) 3 w' w.heap.size (fun k_ => some k_ ≠ (g9 : Value).ownBlock) h0 a7) ∧ Aside0 (w'.heap[b7]? = some (.cells #[(.slice none 0 0), (.slice none 0 0)] 51 (0, 0))) ∧ Aside0 (w'.heap[d2]? = some (.cells #[g9, h0] 51 (0, 0))) ∧ Aside0 (IsS152 w w' g230 d1 b0 b1) ∧ Aside0 (Below w.heap.size w w'))
 case atStart => exact ⟨(l5), (l6), (h7), (j7), (.slice s5 h7.length s6), (.slice n8 j7.length n9), H', ⟨Nat.le_refl _⟩, ⟨by (with_reducible repeat (first | apply Kd.R_alloc | apply Kd.R_drewN | apply Kd.R_drew)); exact Kd.R_mono (Kd.R_far (p := ⟨d2, 1, none⟩) (Kd.R_far (p := ⟨d2, 0, none⟩) (Kd.R_types j4.out a9.out (by decide)) (fun _ hk => hk.2) (.slice s5 h7.length s6)) (fun _ hk => hk.2) (.slice n8 j7.length n9)) (fun _ hk => hk.1)⟩, ⟨by (with_reducible repeat (first | apply Kd.R_alloc | apply Kd.R_drewN | apply Kd.R_drew)); exact Kd.R_mono (Kd.R_far (p := ⟨d2, 1, none⟩) (Kd.R_far (p := ⟨d2, 0, none⟩) (Kd.R_types j5.out a9.out (by decide)) (fun _ hk => hk.2) (.slice s5 h7.length s6)) (fun _ hk => hk.2) (.slice n8 j7.length n9)) (fun _ hk => hk.1)⟩, ⟨by (with_reducible repeat (first | refine blk_drewN ?_ _ | refine blk_drew ?_ | refine blk_alloc ?_ _)); refine blk_far ?_ b6.out _; (with_reducible repeat (first | refine blk_drewN ?_ _ | refine blk_drew ?_ | refine blk_alloc ?_ _)); refine blk_far ?_ b6.out _; (with_reducible repeat (first | refine blk_drewN ?_ _ | refine blk_drew ?_ | refine blk_alloc ?_ _)); exact a5.out⟩, ⟨by (with_reducible repeat (first | refine blk_drewN ?_ _ | refine blk_drew ?_ | refine blk_alloc ?_ _)); refine blk_put (cs := #[.slice s5 h7.length s6, .slice none 0 0]) ?_ 1 _ rfl; (with_reducible repeat (first | refine blk_drewN ?_ _ | refine blk_drew ?_ | refine blk_alloc ?_ _)); refine blk_put (cs := #[.slice none 0 0, .slice none 0 0]) ?_ 0 _ rfl; (with_reducible repeat (first | refine blk_drewN ?_ _ | refine blk_drew ?_ | refine blk_alloc ?_ _)); exact a9.out⟩, ⟨by repeat (first | (with_reducible first | exact a6.out | apply IsS152.alloc | apply IsS152.drewN | apply IsS152.drew | apply IsS152.set_1 | apply IsS152.set_2 | refine IsS152.far ?_ b2.out _ | refine IsS152.far ?_ b4.out _) | exact a6.out)⟩, ⟨by repeat (first | (with_reducible first | exact HB.out | apply below_alloc | apply pw_below_drewN | apply below_drew1 | refine below_set ?_ (IsS152.ge a6.out) | refine below_set ?_ n1.out) | exact HB.out)⟩⟩
 case round => as_aux_lemma =>
  clear H'
  obtain ⟨b0, b1, a3, a7, g9, h0, HA, F1, a4, a8, a5, a9, a6, HB⟩ := hrel
  cases gk with
  | zero => exact absurd HA.out (by simp [spec_DrawCurve.l0])
  | succ k1 =>
   have H := HA.out; clear HA
   simp only [spec_DrawCurve.l0] at H
   replace H := Option.bind_eq_some_iff.mp H; obtain ⟨m3, q2, H⟩ := H
   replace H : (if m3 = true then (if 0 < (a3.length : Int) then (if 0 ≤ (wrap64 ((a3.length : Int) - 1)) then (if (wrap64 ((a3.length : Int) - 1)) < (a3.length : Int) then ((spec_l1Min.f (wrap64 ((wrap64 ((rd a3 (wrap64 ((a3.length : Int) - 1))) - (rd a3 0))) + 1)) 60000).bind fun g8 => ((spec_l1Below.f d1 b0 b1 g8).bind fun g2 => (some (a3, a7, wrap64 ((rd a3 0) + g2.1))))) else (none)) else (none)) else (none)) else ((spec_l1DrawCurve.f k1 d1 b0 b1).bind fun d3 => (spec_DrawCurve.l0 k1 d1 d3.2.2.1 d3.2.2.2 d3.1 d3.2.1))) = some (r1, r2, r3) := H
   have D1 := mk_ q2; clear q2; by_cases t1 : m3 = true
   ·subst t1
    have H1 : (if 0 < (a3.length : Int) then (if 0 ≤ (wrap64 ((a3.length : Int) - 1)) then (if (wrap64 ((a3.length : Int) - 1)) < (a3.length : Int) then ((spec_l1Min.f (wrap64 ((wrap64 ((rd a3 (wrap64 ((a3.length : Int) - 1))) - (rd a3 0))) + 1)) 60000).bind fun g8 => ((spec_l1Below.f d1 b0 b1 g8).bind fun g2 => (some (a3, a7, wrap64 ((rd a3 0) + g2.1))))) else (none)) else (none)) else (none)) = some (r1, r2, r3) := by rw [if_pos rfl] at H; exact H
    clear H
    have H := H1
    clear H1; by_cases t2 : 0 < (a3.length : Int)
    ·rw [if_pos t2] at H; have F2 : decide (0 < (a3.length : Int)) = true := decide_eq_true t2; have F3 : decide (0 < a3.length) = true := decide_eq_true (by omega); clear t2
     obtain ⟨g1, h3⟩ : ∃ j_ : Int, (wrap64 ((a3.length : Int) - 1)) = j_ := ⟨_, rfl⟩
     replace H : (if 0 ≤ (g1) then (if (g1) < (a3.length : Int) then ((spec_l1Min.f (wrap64 ((wrap64 ((rd a3 (g1)) - (rd a3 0))) + 1)) 60000).bind fun g8 => ((spec_l1Below.f d1 b0 b1 g8).bind fun g2 => (some (a3, a7, wrap64 ((rd a3 0) + g2.1))))) else (none)) else (none)) = some (r1, r2, r3) := by first | (rw [h3] at H; exact H) | (simp only [h3] at H ⊢; exact H)
     (try rw [h3] at D1)
     have hji16w : (IntKind.i64.wrap ((a3.length : Int) - 1)) = g1 := (i64_w _).trans h3
     by_cases t3 : 0 ≤ (g1)
     ·rw [if_pos t3] at H; have F4 : decide (0 ≤ (g1)) = true := decide_eq_true t3; clear t3; by_cases t4 : (g1) < (a3.length : Int)
      ·rw [if_pos t4] at H; have F5 : decide ((g1) < (a3.length : Int)) = true := decide_eq_true t4; clear t4; replace H := Option.bind_eq_some_iff.mp H; obtain ⟨g8, q3, H⟩ := H
       replace H : ((spec_l1Below.f d1 b0 b1 g8).bind fun g2 => (some (a3, a7, wrap64 ((rd a3 0) + g2.1)))) = some (r1, r2, r3) := H
       have I4 := mk_ q3; clear q3; replace H := Option.bind_eq_some_iff.mp H; obtain ⟨⟨q4, D2, D3⟩, q5, H⟩ := H
       replace H : (some (a3, a7, wrap64 ((rd a3 0) + q4))) = some (r1, r2, r3) := H
       have s4 := mk_ q5; clear q5
       simp only [Option.some.injEq, Prod.mk.injEq] at H
       obtain ⟨rfl, rfl, rfl⟩ := H; have F6 := b9.out
       have F7 := b6.out; have F8 := d5.out
       have F9 := b4.out; have t5 := bc0_ a9
       have t6 := bc1_ a9; have t7 := bf_ a9 0; have t8 := bf_ a9 1; obtain ⟨D4, h8, D5⟩ := Kd.R_slice a4.out; subst D5; obtain ⟨j9, l1, D6⟩ := Kd.R_slice a8.out; subst D6
       try go_wp2_with (first | ((with_reducible refine gc_ 74 rfl ?_); refine gl_ (some 11) rfl Try.func74 #[.agg #[.slice D4 a3.length h8, .slice j9 a7.length l1]] ?_; (with_reducible refine (spec_CurveOk.calls k1 _ _ a3 _ _ a7 true _ ?c9 ?d0 ?d9 ?g4 D1.out).mono ?_); (case c9 => exact cw_ (rr_ a4)); (case d0 => exact (Kd.R_reads' a4.out).2.1); (case d9 => exact cw_ (rr_ a8)); (case g4 => exact (Kd.R_reads' a8.out).2.1); rintro e I5 ⟨rfl, hb⟩; refine ⟨_, rfl, ?_⟩; replace a4 := rb_ a4 hb; replace a8 := rb_ a8 hb; replace a5 := bl_ a5 hb; replace a9 := bl_ a9 hb; replace a6 := mk_ (IsS152.below (by repeat (first | (with_reducible first | exact a6.out | apply IsS152.alloc | apply IsS152.drewN | apply IsS152.drew | apply IsS152.set_1 | apply IsS152.set_2 | refine IsS152.far ?_ b2.out _ | refine IsS152.far ?_ b4.out _) | exact a6.out)) hb); replace HB := bp_ HB hb; (try clear hb); (try clear j8); (try clear hk); (try clear hi)))
       replace a4 := dR_ a4; replace a8 := dR_ a8; replace a5 := dB_ a5; replace a9 := dB_ a9; replace a6 := mk_ (IsS152.drew a6.out); replace HB := dH_ HB
       have o0 : 0 ≤ (0 : Int) := (by omega)
       have o1 : 0 < (a3.length : Int) := od_
       obtain ⟨g0, D7, h1⟩ := Kd.at_int (rr_ a4) 0 o0 o1; cases D7
       have qi241 : (0 < a3.length) = True := eq_true (by omega)
       (try rw [show ((0 : Int)).toNat = 0 from rfl] at h1)
       (try rw [Addr.add_zero'] at h1)
       replace o0 := eq_true o0; replace o1 := eq_true o1
       have o2 : 0 ≤ ((g1) : Int) := od_
       have o3 : (g1) < (a3.length : Int) := od_
       obtain ⟨q6, D8, j6⟩ := Kd.at_int (rr_ a4) (g1) o2 o3; obtain rfl : g0 = q6 := (by injection D8); replace o2 := eq_true o2; replace o3 := eq_true o3
       have o4 : 0 ≤ (0 : Int) := (by omega)
       have o5 : 0 < (a3.length : Int) := od_
       obtain ⟨q7, D9, h2⟩ := Kd.at_int (rr_ a4) 0 o4 o5; obtain rfl : g0 = q7 := (by injection D9)
       have qi243 : (0 < a3.length) = True := eq_true (by omega)
       (try rw [show ((0 : Int)).toNat = 0 from rfl] at h2)
       (try rw [Addr.add_zero'] at h2)
       replace o4 := eq_true o4; replace o5 := eq_true o5
       refine start_ (n := 25) (S := fun w' => w'.cell? ⟨d2, 0, none⟩ = some (.slice (some g0) a3.length h8) ∧ w'.cell? ⟨d2, 1, none⟩ = some (.slice j9 a7.length l1) ∧ w'.cell? g0 = some (.int .i64 (rd a3 0)) ∧ w'.cell? (g0.add ((g1)).toNat) = some (.int .i64 (rd a3 (g1))) ∧ w'.cell? g0 = some (.int .i64 (rd a3 0))) (ds := []) (bs_ 25 0) (by kernel_rfl) rfl (by kernel_rfl) ⟨bc0_ a9, bc1_ a9, h1, j6, h2⟩ (fun hHeld => ?_); refine with_tabW spec_DrawCurve.tab5 spec_DrawCurve.bits5 (fun HT_ HW_ => ?_)
       generalize I5.drew = J8 at a4 a8 a5 a9 a6 HB h1 j6 h2 hHeld ⊢
       refine pu_ HT_ 1 16 (bs_ 25 2) ?_; refine pu_ HT_ 5 20 (bs_ 25 34) ?_; refine pu_ HT_ 6 21 (bs_ 25 98) ?_; refine pu_ HT_ 8 23 (bs_ 25 354) ?_; refine pu_ HT_ 14 29 (bs_ 25 16738) ?_; refine tk_ HT_ HW_ 0 15 (bs_ 25 16739) hHeld ?_; refine tk_ HT_ HW_ 2 17 (bs_ 25 16743) hHeld ?_; refine pu_ HT_ 3 18 (bs_ 25 16751) ?_; refine tk_ HT_ HW_ 4 19 (bs_ 25 16767) hHeld ?_; refine tk_ HT_ HW_ 7 22 (bs_ 25 16895) hHeld ?_; refine tk_ HT_ HW_ 9 24 (bs_ 25 17407) hHeld ?_; refine pu_ HT_ 10 25 (bs_ 25 18431) ?_; refine pu_ HT_ 11 26 (bs_ 25 20479) ?_; refine pu_ HT_ 12 27 (bs_ 25 24575) ?_; refine tk_ HT_ HW_ 13 28 (bs_ 25 32767) hHeld ?_; refine tk_ HT_ HW_ 15 30 (bs_ 25 65535) hHeld ?_; refine pu_ HT_ 16 31 (bs_ 25 131071) ?_; refine tk_ HT_ HW_ 17 32 (bs_ 25 262143) hHeld ?_; refine pu_ HT_ 18 33 (bs_ 25 524287) ?_; refine pu_ HT_ 19 34 (bs_ 25 1048575) ?_
       refine one_ (i := 20) (N := some 35) (bs_ 25 2097151) rfl rfl (one_of HT_.out (by kernel_rfl)) (by decide) (fun K hK => ?_)
       refine goes_ Try.func83 (by kernel_rfl) rfl #[.int .i64 (wrap64 ((wrap64 ((rd a3 (g1)) - (rd a3 0))) + 1)), .int .i64 60000] (by rfl) rfl rfl (by (try simp only [List.map_toArray, List.map_cons, List.map_nil]); first | done | (simp only [h3]; rfl) | rfl | (simp only [List.length_drop, List.length_take]; rfl)) ?_
       with_reducible refine (spec_l1Min.calls (wrap64 ((wrap64 ((rd a3 (g1)) - (rd a3 0))) + 1)) 60000 g8 _ I4.out).mono ?_
       rintro e w' ⟨rfl, ⟨nd, rfl⟩⟩
       refine ⟨_, rfl, ?_⟩
       refine hK.out _ _ ⟨bc0_ a9, bc1_ a9, hHeld.2.2.1, hHeld.2.2.2.1, hHeld.2.2.2.2⟩ (fun hHeld => ?_)
       clear hK K; refine nm_ 35 ?_
       refine one_ (i := 21) (N := some 36) (bs_ 25 4194303) rfl rfl (one_of HT_.out (by kernel_rfl)) (by decide) (fun K hK => ?_)
       refine gs_ Try.func82 #[.pointer (some ⟨g230, 0, none⟩), .int .i64 g8] ?_
       with_reducible refine (spec_l1Below.calls g230 d1 b0 b1 g8 q4 D2 D3 w _ ?c9 ?d0 s4.out).mono ?_
       (case c9 => repeat (first | (with_reducible first | exact a6.out | apply IsS152.alloc | apply IsS152.drewN | apply IsS152.drew | apply IsS152.set_1 | apply IsS152.set_2 | refine IsS152.far ?_ b2.out _ | refine IsS152.far ?_ b4.out _) | exact a6.out))
       (case d0 => repeat (first | (with_reducible first | exact HB.out | apply below_alloc | apply pw_below_drewN | apply below_drew1 | refine below_set ?_ (IsS152.ge a6.out)) | exact HB.out))
       rintro e G0 ⟨rfl, hi, hb, hk⟩
       have E0 := keep_cell hk (hHeld.2.2.1) (by first | (rw [add_block]; exact Kd.own_blk (IsS152.own_ne a6.out a4.out (by decide))) | (show (Addr.add _ _).block ≠ _; rw [add_block]; exact Kd.own_blk (IsS152.own_ne a6.out a4.out (by decide))) | exact Kd.own_blk (IsS152.own_ne a6.out a4.out (by decide)))
       have E1 := keep_cell hk (hHeld.2.2.2.1) (by first | (rw [add_block]; exact Kd.own_blk (IsS152.own_ne a6.out a4.out (by decide))) | (show (Addr.add _ _).block ≠ _; rw [add_block]; exact Kd.own_blk (IsS152.own_ne a6.out a4.out (by decide))) | exact Kd.own_blk (IsS152.own_ne a6.out a4.out (by decide)))
       have E2 := keep_cell hk (hHeld.2.2.2.2) (by first | (rw [add_block]; exact Kd.own_blk (IsS152.own_ne a6.out a4.out (by decide))) | (show (Addr.add _ _).block ≠ _; rw [add_block]; exact Kd.own_blk (IsS152.own_ne a6.out a4.out (by decide))) | exact Kd.own_blk (IsS152.own_ne a6.out a4.out (by decide)))
       refine ⟨_, rfl, ?_⟩
       replace a4 := mk_ (Kd.R_mono (Kd.R_keep (IsS152.apart (show IsS152 w _ g230 d1 b0 b1 from by repeat (first | (with_reducible first | exact a6.out | apply IsS152.alloc | apply IsS152.drewN | apply IsS152.drew | apply IsS152.set_1 | apply IsS152.set_2 | refine IsS152.far ?_ b2.out _ | refine IsS152.far ?_ b4.out _) | exact a6.out)) (kx_ a4) (by decide)) hk (fun _ h => h.2)) (fun _ h => h.1)); replace a8 := mk_ (Kd.R_mono (Kd.R_keep (IsS152.apart (show IsS152 w _ g230 d1 b0 b1 from by repeat (first | (with_reducible first | exact a6.out | apply IsS152.alloc | apply IsS152.drewN | apply IsS152.drew | apply IsS152.set_1 | apply IsS152.set_2 | refine IsS152.far ?_ b2.out _ | refine IsS152.far ?_ b4.out _) | exact a6.out)) (kx_ a8) (by decide)) hk (fun _ h => h.2)) (fun _ h => h.1)); replace a5 := mk_ (KeepBut.blk hk (g' := b7) (o := .cells #[.slice none 0 0, .slice none 0 0] 51 (0, 0)) (bx_ a5) g7.out (by simp)); replace a9 := mk_ (KeepBut.blk hk (g' := d2) (o := .cells #[.slice (some g0) a3.length h8, .slice j9 a7.length l1] 51 (0, 0)) (bx_ a9) d5.out (by simp)); replace HB := mk_ (hb); replace a6 := mk_ (hi)
       (try clear hb); (try clear j8); (try clear hk); (try clear hi)
       refine hK.out _ _ ⟨bc0_ a9, bc1_ a9, E0, E1, E2⟩ (fun hHeld => ?_)
       clear hK K; refine nm_ 36 ?_; refine pu_ HT_ 22 37 (bs_ 25 8388607) ?_
       refine one_ (i := 23) (N := none) (bs_ 25 16777215) rfl rfl (one_of HT_.out (by kernel_rfl)) (by decide) (fun K hK => ?_)
       have I6 : G0.cell? ⟨b7, 0, none⟩ = some (.slice none 0 0) := bc0_ a5
       have G1 := blk_frozen a5.out 0
       have t9 := b9.out; have y5 := b6.out
       have I7 : G0.cell? ⟨b7, 1, none⟩ = some (.slice none 0 0) := bc1_ a5
       have G2 := blk_frozen a5.out 1
       have y6 := b9.out; have y7 := b6.out
       refine skip_ (w1 := ?_) (by rfl) rfl ?_ ?_
       rotate_left
       ·go_simp
        rfl
       refine hK.out _ _ ⟨((cell_far (p := ⟨b7, _, none⟩) b9.out _).trans (((cell_far (p := ⟨b7, _, none⟩) b9.out _).trans (hHeld.1)))), ((cell_far (p := ⟨b7, _, none⟩) b9.out _).trans (((cell_far (p := ⟨b7, _, none⟩) b9.out _).trans (hHeld.2.1)))), ((cell_far (p := ⟨b7, _, none⟩) (by first | exact Kd.own_blk (Kd.R_ne a4.out a5.out (by decide)) | (rw [add_block]; exact Kd.own_blk (Kd.R_ne a4.out a5.out (by decide))) | (show (Addr.add _ _).block ≠ _; rw [add_block]; exact Kd.own_blk (Kd.R_ne a4.out a5.out (by decide))) | (dsimp only; exact Kd.own_blk (Kd.R_ne a4.out a5.out (by decide)))) _).trans (((cell_far (p := ⟨b7, _, none⟩) (by first | exact Kd.own_blk (Kd.R_ne a4.out a5.out (by decide)) | (rw [add_block]; exact Kd.own_blk (Kd.R_ne a4.out a5.out (by decide))) | (show (Addr.add _ _).block ≠ _; rw [add_block]; exact Kd.own_blk (Kd.R_ne a4.out a5.out (by decide))) | (dsimp only; exact Kd.own_blk (Kd.R_ne a4.out a5.out (by decide)))) _).trans (hHeld.2.2.1)))), ((cell_far (p := ⟨b7, _, none⟩) (by first | exact Kd.own_blk (Kd.R_ne a4.out a5.out (by decide)) | (rw [add_block]; exact Kd.own_blk (Kd.R_ne a4.out a5.out (by decide))) | (show (Addr.add _ _).block ≠ _; rw [add_block]; exact Kd.own_blk (Kd.R_ne a4.out a5.out (by decide))) | (dsimp only; exact Kd.own_blk (Kd.R_ne a4.out a5.out (by decide)))) _).trans (((cell_far (p := ⟨b7, _, none⟩) (by first | exact Kd.own_blk (Kd.R_ne a4.out a5.out (by decide)) | (rw [add_block]; exact Kd.own_blk (Kd.R_ne a4.out a5.out (by decide))) | (show (Addr.add _ _).block ≠ _; rw [add_block]; exact Kd.own_blk (Kd.R_ne a4.out a5.out (by decide))) | (dsimp only; exact Kd.own_blk (Kd.R_ne a4.out a5.out (by decide)))) _).trans (hHeld.2.2.2.1)))), ((cell_far (p := ⟨b7, _, none⟩) (by first | exact Kd.own_blk (Kd.R_ne a4.out a5.out (by decide)) | (rw [add_block]; exact Kd.own_blk (Kd.R_ne a4.out a5.out (by decide))) | (show (Addr.add _ _).block ≠ _; rw [add_block]; exact Kd.own_blk (Kd.R_ne a4.out a5.out (by decide))) | (dsimp only; exact Kd.own_blk (Kd.R_ne a4.out a5.out (by decide)))) _).trans (((cell_far (p := ⟨b7, _, none⟩) (by first | exact Kd.own_blk (Kd.R_ne a4.out a5.out (by decide)) | (rw [add_block]; exact Kd.own_blk (Kd.R_ne a4.out a5.out (by decide))) | (show (Addr.add _ _).block ≠ _; rw [add_block]; exact Kd.own_blk (Kd.R_ne a4.out a5.out (by decide))) | (dsimp only; exact Kd.own_blk (Kd.R_ne a4.out a5.out (by decide)))) _).trans (hHeld.2.2.2.2))))⟩ (fun hHeld => ?_)
       clear hK K; refine pu_ HT_ 24 3 (bs_ 25 33554431) ?_
       refine done_ (done_of HT_.out (by kernel_rfl)) ?_
       try go_wp2
       refine bodyPost_ret (results_ct rfl _ _ b7 51 #[.slice (some g0) a3.length h8, .slice j9 a7.length l1] (0, 0) _ rfl (by (with_reducible repeat (first | refine blk_drewN ?_ _ | refine blk_drew ?_ | refine blk_alloc ?_ _)); refine blk_put (cs := #[.slice (some g0) a3.length h8, .slice none 0 0]) ?_ 1 _ rfl; (with_reducible repeat (first | refine blk_drewN ?_ _ | refine blk_drew ?_ | refine blk_alloc ?_ _)); refine blk_put (cs := #[.slice none 0 0, .slice none 0 0]) ?_ 0 _ rfl; (with_reducible repeat (first | refine blk_drewN ?_ _ | refine blk_drew ?_ | refine blk_alloc ?_ _)); exact a5.out) Try.underlying51 rfl (by kernel_rfl)) rfl ?_
       exact ⟨_, _, by first | rfl | (simp [errW_none, errW_some] <;> rfl) | (simp only [← h3]; first | rfl | (simp [errW_none, errW_some] <;> rfl)) | (simp [*, errW_none, errW_some] <;> rfl), by (with_reducible repeat (first | apply Kd.R_alloc | apply Kd.R_drewN | apply Kd.R_drew)); exact Kd.R_mono (Kd.R_far (p := ⟨b7, 1, none⟩) (Kd.R_far (p := ⟨b7, 0, none⟩) (Kd.R_types a4.out a5.out (by decide)) (fun _ hk => hk.2) (.slice (some g0) a3.length h8)) (fun _ hk => hk.2) (.slice j9 a7.length l1)) (fun _ hk => hk.1), by (with_reducible repeat (first | apply Kd.R_alloc | apply Kd.R_drewN | apply Kd.R_drew)); exact Kd.R_mono (Kd.R_far (p := ⟨b7, 1, none⟩) (Kd.R_far (p := ⟨b7, 0, none⟩) (Kd.R_types a8.out a5.out (by decide)) (fun _ hk => hk.2) (.slice (some g0) a3.length h8)) (fun _ hk => hk.2) (.slice j9 a7.length l1)) (fun _ hk => hk.1), by repeat (first | (with_reducible first | exact HB.out | apply below_alloc | apply pw_below_drewN | apply below_drew1 | refine below_set ?_ (IsS152.ge a6.out) | refine below_set ?_ q0.out) | exact HB.out)⟩
      ·rw [if_neg t4] at H
       exact absurd H (by simp)
     ·rw [if_neg t3] at H
      exact absurd H (by simp)
    ·rw [if_neg t2] at H
     exact absurd H (by simp)
   ·replace t1 := Bool.eq_false_iff.mpr t1; subst t1
    have H1 : ((spec_l1DrawCurve.f k1 d1 b0 b1).bind fun d3 => (spec_DrawCurve.l0 k1 d1 d3.2.2.1 d3.2.2.2 d3.1 d3.2.1)) = some (r1, r2, r3) := by rw [if_neg (show ¬ (false = true) by decide)] at H; exact H
    clear H
    have H := H1
    clear H1; replace H := Option.bind_eq_some_iff.mp H; obtain ⟨⟨h9, l2, o6, o7⟩, q8, H⟩ := H
    replace H : (spec_DrawCurve.l0 k1 d1 o6 o7 h9 l2) = some (r1, r2, r3) := H
    have I8 := mk_ q8; clear q8
    have H' := mk_ H
    clear H; have G3 := b9.out; have G4 := b6.out; have G5 := d5.out; have G6 := b4.out; have y8 := bc0_ a9; have y9 := bc1_ a9; have A1 := bf_ a9 0; have A4 := bf_ a9 1; obtain ⟨o8, o9, E3⟩ := Kd.R_slice a4.out; subst E3; obtain ⟨m4, m5, E4⟩ := Kd.R_slice a8.out; subst E4
    go_wp2_with (first | ((with_reducible refine gc_ 74 rfl ?_); refine gl_ (some 11) rfl Try.func74 #[.agg #[.slice o8 a3.length o9, .slice m4 a7.length m5]] ?_; (with_reducible refine (spec_CurveOk.calls k1 _ _ a3 _ _ a7 false _ ?c9 ?d0 ?d9 ?g4 D1.out).mono ?_); (case c9 => exact cw_ (rr_ a4)); (case d0 => exact (Kd.R_reads' a4.out).2.1); (case d9 => exact cw_ (rr_ a8)); (case g4 => exact (Kd.R_reads' a8.out).2.1); rintro e J9 ⟨rfl, hb⟩; refine ⟨_, rfl, ?_⟩; replace a4 := rb_ a4 hb; replace a8 := rb_ a8 hb; replace a5 := bl_ a5 hb; replace a9 := bl_ a9 hb; replace a6 := mk_ (IsS152.below (by repeat (first | (with_reducible first | exact a6.out | apply IsS152.alloc | apply IsS152.drewN | apply IsS152.drew | apply IsS152.set_1 | apply IsS152.set_2 | refine IsS152.far ?_ b2.out _ | refine IsS152.far ?_ b4.out _) | exact a6.out)) hb); replace HB := bp_ HB hb; (try clear hb); (try clear j8); (try clear hk); (try clear hi)) | ((with_reducible refine gc_ 81 rfl ?_); refine gl_ (some 14) rfl Try.func81 #[.pointer (some ⟨g230, 0, none⟩)] ?_; (with_reducible refine (spec_l1DrawCurve.calls k1 g230 d1 b0 b1 h9 l2 o6 o7 w _ ?c9 ?d0 I8.out).mono ?_); (case c9 => repeat (first | (with_reducible first | exact a6.out | apply IsS152.alloc | apply IsS152.drewN | apply IsS152.drew | apply IsS152.set_1 | apply IsS152.set_2 | refine IsS152.far ?_ b2.out _ | refine IsS152.far ?_ b4.out _) | exact a6.out)); (case d0 => exact HB.out); rintro e L0 ⟨v249, v252, rfl, n6, n7, hi, hb, hk⟩; refine ⟨_, rfl, ?_⟩; replace a5 := mk_ (KeepBut.blk hk (g' := b7) (o := .cells #[.slice none 0 0, .slice none 0 0] 51 (0, 0)) (by exact a5.out) g7.out (by simp)); replace a9 := mk_ (KeepBut.blk hk (g' := d2) (o := .cells #[.slice o8 a3.length o9, .slice m4 a7.length m5] 51 (0, 0)) (by exact a9.out) d5.out (by simp)); have n2 := mk_ (Kd.R_lower (Kd.R_new' (Kd.R_new' n6 (Kd.R_lt (by exact a4.out))) (Kd.R_lt (by exact a8.out))) (below_size (by exact HB.out))); have n3 := mk_ (Kd.R_lower (Kd.R_new' (Kd.R_new' n7 (Kd.R_lt (by exact a4.out))) (Kd.R_lt (by exact a8.out))) (below_size (by exact HB.out))); replace a4 := mk_ (Kd.R_mono (Kd.R_told (Kd.R_told (Kd.R_oldK (IsS152.apart (show IsS152 w _ g230 d1 b0 b1 from by repeat (first | (with_reducible first | exact a6.out | apply IsS152.alloc | apply IsS152.drewN | apply IsS152.drew | apply IsS152.set_1 | apply IsS152.set_2 | refine IsS152.far ?_ b2.out _ | refine IsS152.far ?_ b4.out _) | exact a6.out)) (by exact a4.out) (by decide)) hk) (Kd.R_base n6)) (Kd.R_base n7)) (fun _ h_ => h_.1)); replace a8 := mk_ (Kd.R_mono (Kd.R_told (Kd.R_told (Kd.R_oldK (IsS152.apart (show IsS152 w _ g230 d1 b0 b1 from by repeat (first | (with_reducible first | exact a6.out | apply IsS152.alloc | apply IsS152.drewN | apply IsS152.drew | apply IsS152.set_1 | apply IsS152.set_2 | refine IsS152.far ?_ b2.out _ | refine IsS152.far ?_ b4.out _) | exact a6.out)) (by exact a8.out) (by decide)) hk) (Kd.R_base n6)) (Kd.R_base n7)) (fun _ h_ => h_.1)); replace HB := mk_ (hb); replace a6 := mk_ (hi); (try clear hb); (try clear j8); (try clear hk); (try clear hi); (try clear n6); (try clear n7); obtain ⟨m6, m7, E5⟩ := Kd.R_slice n2.out; subst E5; have A5 := bc0_ a9; have A6 := bc1_ a9; have A7 := bf_ a9 0; have A8 := bf_ a9 1; obtain ⟨p0, p1, E6⟩ := Kd.R_slice n3.out; subst E6))
    go_roundg k1
    case measure => have := F1.out; omega
    case rel => exact ⟨(o6), (o7), (h9), (l2), (.slice m6 h9.length m7), (.slice p0 l2.length p1), H', ⟨by have := F1.out; omega⟩, ⟨by (with_reducible repeat (first | apply Kd.R_alloc | apply Kd.R_drewN | apply Kd.R_drew)); exact Kd.R_mono (Kd.R_far (p := ⟨d2, 1, none⟩) (Kd.R_far (p := ⟨d2, 0, none⟩) (Kd.R_types n2.out a9.out (by decide)) (fun _ hk => hk.2) (.slice m6 h9.length m7)) (fun _ hk => hk.2) (.slice p0 l2.length p1)) (fun _ hk => hk.1.1.1)⟩, ⟨by (with_reducible repeat (first | apply Kd.R_alloc | apply Kd.R_drewN | apply Kd.R_drew)); exact Kd.R_mono (Kd.R_far (p := ⟨d2, 1, none⟩) (Kd.R_far (p := ⟨d2, 0, none⟩) (Kd.R_types n3.out a9.out (by decide)) (fun _ hk => hk.2) (.slice m6 h9.length m7)) (fun _ hk => hk.2) (.slice p0 l2.length p1)) (fun _ hk => hk.1.1.1)⟩, ⟨by (with_reducible repeat (first | refine blk_drewN ?_ _ | refine blk_drew ?_ | refine blk_alloc ?_ _)); refine blk_far ?_ b6.out _; (with_reducible repeat (first | refine blk_drewN ?_ _ | refine blk_drew ?_ | refine blk_alloc ?_ _)); refine blk_far ?_ b6.out _; (with_reducible repeat (first | refine blk_drewN ?_ _ | refine blk_drew ?_ | refine blk_alloc ?_ _)); exact a5.out⟩, ⟨by (with_reducible repeat (first | refine blk_drewN ?_ _ | refine blk_drew ?_ | refine blk_alloc ?_ _)); refine blk_put (cs := #[.slice m6 h9.length m7, .slice m4 a7.length m5]) ?_ 1 _ rfl; (with_reducible repeat (first | refine blk_drewN ?_ _ | refine blk_drew ?_ | refine blk_alloc ?_ _)); refine blk_put (cs := #[.slice o8 a3.length o9, .slice m4 a7.length m5]) ?_ 0 _ rfl; (with_reducible repeat (first | refine blk_drewN ?_ _ | refine blk_drew ?_ | refine blk_alloc ?_ _)); exact a9.out⟩, ⟨by repeat (first | (with_reducible first | exact a6.out | apply IsS152.alloc | apply IsS152.drewN | apply IsS152.drew | apply IsS152.set_1 | apply IsS152.set_2 | refine IsS152.far ?_ b2.out _ | refine IsS152.far ?_ b4.out _) | exact a6.out)⟩, ⟨by repeat (first | (with_reducible first | exact HB.out | apply below_alloc | apply pw_below_drewN | apply below_drew1 | refine below_set ?_ (IsS152.ge a6.out) | refine below_set ?_ n1.out) | exact HB.out)⟩⟩

/-! ### impl_held: function 86 -/
def impl_held.f (a0 : Int) (a1 : Int) (a2 : Int) : Option (Int) := some (mx (mn a0 a2) a1)
set_option maxHeartbeats 8000000 in
set_option maxRecDepth 100000 in
theorem impl_held.calls (a0 : Int) (a1 : Int) (a2 : Int) (r : Int) (w : World) (h : impl_held.f a0 a1 a2 = some r) :
  Calls Try.prog 86 #[.int .i64 a0, .int .i64 a1, .int .i64 a2] w fun e w' => e = .returned (.int .i64 r) ∧ Below w.heap.size w w' := by
 have HB := mk_ (Below.refl w.heap.size w)
 have H : (some (mx (mn a0 a2) a1)) = some r := h
 clear h
 obtain ⟨q9, m8⟩ : ∃ j_ : Int, (mn a0 a2) = j_ := ⟨_, rfl⟩
 replace H : (some (mx (q9) a1)) = some r := by first | (rw [m8] at H; exact H) | (simp only [m8] at H ⊢; exact H)
 have G7 : (if a2 < a0 then a2 else a0) = q9 := m8
 obtain ⟨G8, m9⟩ : ∃ j_ : Int, (mx (q9) a1) = j_ := ⟨_, rfl⟩
 replace H : (some G8) = some r := by first | (rw [m9] at H; exact H) | (simp only [m9] at H ⊢; exact H)
 have G9 : (if (q9) < a1 then a1 else (q9)) = G8 := m9
 obtain rfl := Option.some.inj H
 go_enter Try.func86, Try.ntmps86
 go_wp2; go_ret
 exact ⟨by first | rfl | (simp [errW_none, errW_some] <;> rfl) | (simp only [← m8, ← m9]; first | rfl | (simp [errW_none, errW_some] <;> rfl)) | (simp [*, errW_none, errW_some] <;> rfl), hw_ HB⟩

/-! ### impl_Held: function 33 -/
def impl_Held.f (k : Nat) (l0_0 : List Int) (l0_1 : List Int) (a1 : Int) : Option (Int × Int × Bool) := (impl_CurveOk.f k l0_0 l0_1).bind fun l3 => (if l3 = true then (if 0 < (l0_0.length : Int) then (if 0 ≤ (wrap64 ((l0_0.length : Int) - 1)) then (if (wrap64 ((l0_0.length : Int) - 1)) < (l0_0.length : Int) then ((impl_held.f a1 (rd l0_0 0) (rd l0_0 (wrap64 ((l0_0.length : Int) - 1)))).bind fun g5 => ((impl_At.f k l0_0 l0_1 g5).bind fun b8 => (some (b8.1, b8.2.1, b8.2.2)))) else (none)) else (none)) else (none)) else (some (0, 0, false)))
theorem impl_Held.mono : ∀ a0 a1 a2 k, LeO (impl_Held.f k a0 a1 a2) (impl_Held.f (k + 1) a0 a1 a2) := by
 intro a0 a1 a2 k
 unfold impl_Held.f
 repeat' first
   | (with_reducible exact impl_At.mono _ _ _ _)
   | (with_reducible exact impl_CurveOk.mono _ _ _)
   | (with_reducible exact LeO.refl _)
   | (with_reducible exact LeO.none _)
   | (with_reducible refine LeO.ite ?_ ?_)
   | (with_reducible refine LeO.bind ?_ (fun _ => ?_))
   | exact impl_At.mono _ _ _ _
   | exact impl_CurveOk.mono _ _ _
   | exact LeO.none _
   | refine LeO.ite ?_ ?_
   | refine LeO.bind ?_ (fun _ => ?_)
def impl_Held.T3 : Bool × List (List Nat × List Nat) := (true, [([], []), ([], []), ([], []), ([2], [2]), ([3], [3]), ([4], [4]), ([], []), ([6], [6]), ([], []), ([8], [8]), ([9], [9]), ([10], [10]), ([7, 11], [7, 11]), ([12], [12]), ([1, 5, 13], [1, 5, 13]), ([0, 14, 14], [0, 14]), ([15], [15]), ([15], [15]), ([16, 15, 0, 1, 2, 3, 4, 5, 6, 7, 8, 9, 10, 11, 12, 13, 14, 15, 16, 17], [16]), ([17, 18, 0, 1, 2, 3, 4, 5, 6, 7, 8, 9, 10, 11, 12, 13, 14, 15, 16, 17, 18], [17])])
def impl_Held.B3 : List Nat := [0, 0, 0, 4, 12, 28, 0, 64, 0, 256, 768, 1792, 4032, 8128, 16382, 32767, 65535, 65535, 262143, 524287]
theorem impl_Held.tab3 : rtab .any (opsOf Try.f33 3) = impl_Held.T3 := by kernel_rfl
theorem impl_Held.bits3 : waitsOk impl_Held.T3.2 impl_Held.B3 = true := by kernel_rfl
set_option maxHeartbeats 8000000 in
set_option maxRecDepth 100000 in
theorem impl_Held.calls (k : Nat) (A0_0 : Option Addr) (c0_0 : Nat) (l0_0 : List Int) (A0_1 : Option Addr) (c0_1 : Nat) (l0_1 : List Int) (a1 : Int) (r1 : Int) (r2 : Int) (r3 : Bool) (w : World) (hr0_0 : Kd.C (Kd.int .i64) w A0_0 l0_0.length l0_0) (hc0_0 : l0_0.length ≤ c0_0) (hr0_1 : Kd.C (Kd.int .i64) w A0_1 l0_1.length l0_1) (hc0_1 : l0_1.length ≤ c0_1) (h : impl_Held.f k l0_0 l0_1 a1 = some (r1, r2, r3)) :
  Calls Try.prog 33 #[.agg #[.slice A0_0 l0_0.length c0_0, .slice A0_1 l0_1.length c0_1], .int .i64 a1] w fun e w' => e = .returned (.tuple #[.agg #[.int .i64 r1, .int .i64 r2], .bool r3]) ∧ Below w.heap.size w w' := by
 have C9 := Try.underlying51
 have I9 := Try.underlying48
 have h5 := mk_ hr0_0; have l7 := mk_ hc0_0; clear hr0_0 hc0_0; have l8 := mk_ hr0_1; have l9 := mk_ hc0_1; clear hr0_1 hc0_1; have HB := mk_ (Below.refl w.heap.size w)
 have H : ((impl_CurveOk.f k l0_0 l0_1).bind fun l3 => (if l3 = true then (if 0 < (l0_0.length : Int) then (if 0 ≤ (wrap64 ((l0_0.length : Int) - 1)) then (if (wrap64 ((l0_0.length : Int) - 1)) < (l0_0.length : Int) then ((impl_held.f a1 (rd l0_0 0) (rd l0_0 (wrap64 ((l0_0.length : Int) - 1)))).bind fun g5 => ((impl_At.f k l0_0 l0_1 g5).bind fun b8 => (some (b8.1, b8.2.1, b8.2.2)))) else (none)) else (none)) else (none)) else (some (0, 0, false)))) = some (r1, r2, r3) := h
 clear h; replace H := Option.bind_eq_some_iff.mp H; obtain ⟨l3, p8, H⟩ := H
 replace H : (if l3 = true then (if 0 < (l0_0.length : Int) then (if 0 ≤ (wrap64 ((l0_0.length : Int) - 1)) then (if (wrap64 ((l0_0.length : Int) - 1)) < (l0_0.length : Int) then ((impl_held.f a1 (rd l0_0 0) (rd l0_0 (wrap64 ((l0_0.length : Int) - 1)))).bind fun g5 => ((impl_At.f k l0_0 l0_1 g5).bind fun b8 => (some (b8.1, b8.2.1, b8.2.2)))) else (none)) else (none)) else (none)) else (some (0, 0, false))) = some (r1, r2, r3) := H
 have A3 := mk_ p8; clear p8; by_cases c4 : l3 = true
 ·subst c4
  have H1 : (if 0 < (l0_0.length : Int) then (if 0 ≤ (wrap64 ((l0_0.length : Int) - 1)) then (if (wrap64 ((l0_0.length : Int) - 1)) < (l0_0.length : Int) then ((impl_held.f a1 (rd l0_0 0) (rd l0_0 (wrap64 ((l0_0.length : Int) - 1)))).bind fun g5 => ((impl_At.f k l0_0 l0_1 g5).bind fun b8 => (some (b8.1, b8.2.1, b8.2.2)))) else (none)) else (none)) else (none)) = some (r1, r2, r3) := by rw [if_pos rfl] at H; exact H
  clear H
  have H := H1
  clear H1; by_cases c5 : 0 < (l0_0.length : Int)
  ·rw [if_pos c5] at H; have J0 : decide (0 < (l0_0.length : Int)) = true := decide_eq_true c5; have J1 : decide (0 < l0_0.length) = true := decide_eq_true (by omega); clear c5
   obtain ⟨j0, l4⟩ : ∃ j_ : Int, (wrap64 ((l0_0.length : Int) - 1)) = j_ := ⟨_, rfl⟩
   replace H : (if 0 ≤ (j0) then (if (j0) < (l0_0.length : Int) then ((impl_held.f a1 (rd l0_0 0) (rd l0_0 (j0))).bind fun g5 => ((impl_At.f k l0_0 l0_1 g5).bind fun b8 => (some (b8.1, b8.2.1, b8.2.2)))) else (none)) else (none)) = some (r1, r2, r3) := by first | (rw [l4] at H; exact H) | (simp only [l4] at H ⊢; exact H)
   (try rw [l4] at A3)
   have hji6w : (IntKind.i64.wrap ((l0_0.length : Int) - 1)) = j0 := (i64_w _).trans l4
   by_cases c7 : 0 ≤ (j0)
   ·rw [if_pos c7] at H; have J2 : decide (0 ≤ (j0)) = true := decide_eq_true c7; clear c7; by_cases c8 : (j0) < (l0_0.length : Int)
    ·rw [if_pos c8] at H; have J3 : decide ((j0) < (l0_0.length : Int)) = true := decide_eq_true c8; clear c8; replace H := Option.bind_eq_some_iff.mp H; obtain ⟨g5, H0, H⟩ := H
     replace H : ((impl_At.f k l0_0 l0_1 g5).bind fun b8 => (some (b8.1, b8.2.1, b8.2.2))) = some (r1, r2, r3) := H
     have A9 := mk_ H0; clear H0; replace H := Option.bind_eq_some_iff.mp H; obtain ⟨⟨n0, p2, s0⟩, s1, H⟩ := H
     replace H : (some (n0, p2, s0)) = some (r1, r2, r3) := H
     have J4 := mk_ s1; clear s1
     simp only [Option.some.injEq, Prod.mk.injEq] at H
     obtain ⟨rfl, rfl, rfl⟩ := H
     go_enter Try.func33, Try.ntmps33
     try go_wp2_with (first | ((with_reducible refine gd_ 2 rfl ?_); refine box_event ?hg (N := 2) ?hd (cs := #[.slice A0_0 l0_0.length c0_0, .slice A0_1 l0_1.length c0_1]) (t := 51) ?hr ?_; (case hd => rfl); (case hg => rfl); (case hr => exact hr_); intro m0 hg L1 hbox hb; have b3 := mk_ (hbox); have m1 := gb_ hg HB; replace HB := bp_ HB hb; have s2 := m1; clear hb hbox hg) | ((with_reducible refine gd_ 4 rfl ?_); refine box_event ?hg (N := 4) ?hd (cs := #[.int .i64 0, .int .i64 0]) (t := 48) ?hr ?_; (case hd => rfl); (case hg => rfl); (case hr => exact hr_); intro d6 hg L2 hbox hb; have c1 := mk_ (hbox); have c2 := gb_ hg HB; replace HB := bp_ HB hb; have m2 := c2; have b5 := nb_ hg b3; replace b3 := bl_ b3 hb; have d7 := ns_ b5; clear hb hbox hg; have H2 := b5.out; have H3 := d7.out; have B0 := bc0_ b3; have B1 := bc1_ b3; have B2 := bf_ b3 0; have B4 := bf_ b3 1) | ((with_reducible refine gc_ 32 rfl ?_); refine gl_ (some 7) rfl Try.func32 #[.agg #[.slice A0_0 l0_0.length c0_0, .slice A0_1 l0_1.length c0_1]] ?_; (with_reducible refine (impl_CurveOk.calls k _ _ l0_0 _ _ l0_1 true _ ?c9 ?d0 ?d9 ?g4 A3.out).mono ?_); (case c9 => exact cw_ (Kd.C_below h5.out HB.out)); (case d0 => exact l7.out); (case d9 => exact cw_ (Kd.C_below l8.out HB.out)); (case g4 => exact l9.out); rintro e J5 ⟨rfl, hb⟩; refine ⟨_, rfl, ?_⟩; replace b3 := bl_ b3 hb; replace c1 := bl_ c1 hb; replace HB := bp_ HB hb; (try clear hb); (try clear j8); (try clear hk); (try clear hi)))
     replace b3 := dB_ b3; replace c1 := dB_ c1; replace HB := dH_ HB
     have p3 : 0 ≤ (0 : Int) := (by omega)
     have p4 : 0 < (l0_0.length : Int) := od_
     obtain ⟨h6, E7, d8⟩ := Kd.at_int h5.out 0 p3 p4
     have hw259_0 := d8
     (try rw [show ((0 : Int)).toNat = 0 from rfl] at hw259_0)
     (try rw [show 0 * 1 = 0 from rfl] at hw259_0)
     (try rw [Addr.add_zero'] at hw259_0)
     cases E7
     have qi259 : (0 < l0_0.length) = True := eq_true (by omega)
     (try rw [show ((0 : Int)).toNat = 0 from rfl] at d8)
     (try rw [Addr.add_zero'] at d8)
     replace d8 := (HB.out.cell (World.block_lt_of_cell? w _ d8)).trans d8
     replace p3 := eq_true p3; replace p4 := eq_true p4
     have p5 : 0 ≤ ((j0) : Int) := od_
     have p6 : (j0) < (l0_0.length : Int) := od_
     obtain ⟨s3, E8, g6⟩ := Kd.at_int h5.out (j0) p5 p6
     have hw260_0 := g6
     obtain rfl : h6 = s3 := (by injection E8)
     replace g6 := (HB.out.cell (World.block_lt_of_cell? w _ g6)).trans g6
     replace p5 := eq_true p5; replace p6 := eq_true p6
     refine start_ (n := 20) (S := fun w' => w'.cell? ⟨m0, 0, none⟩ = some (.slice (some h6) l0_0.length c0_0) ∧ w'.cell? ⟨m0, 1, none⟩ = some (.slice A0_1 l0_1.length c0_1) ∧ w'.cell? h6 = some (.int .i64 (rd l0_0 0)) ∧ w'.cell? (h6.add ((j0)).toNat) = some (.int .i64 (rd l0_0 (j0)))) (ds := []) (bs_ 20 0) (by kernel_rfl) rfl (by kernel_rfl) ⟨bc0_ b3, bc1_ b3, ((HB.out.cell (World.block_lt_of_cell? w _ hw259_0)).trans hw259_0), ((HB.out.cell (World.block_lt_of_cell? w _ hw260_0)).trans hw260_0)⟩ (fun hHeld => ?_); refine with_tabW impl_Held.tab3 impl_Held.bits3 (fun HT_ HW_ => ?_)
     generalize J5.drew = L3 at b3 c1 HB d8 g6 hHeld ⊢
     refine pu_ HT_ 1 11 (bs_ 20 2) ?_; refine pu_ HT_ 2 12 (bs_ 20 6) ?_; refine pu_ HT_ 6 16 (bs_ 20 70) ?_; refine pu_ HT_ 8 18 (bs_ 20 326) ?_; refine tk_ HT_ HW_ 0 10 (bs_ 20 327) hHeld ?_; refine tk_ HT_ HW_ 3 13 (bs_ 20 335) hHeld ?_; refine pu_ HT_ 4 14 (bs_ 20 351) ?_; refine tk_ HT_ HW_ 5 15 (bs_ 20 383) hHeld ?_; refine tk_ HT_ HW_ 7 17 (bs_ 20 511) hHeld ?_; refine tk_ HT_ HW_ 9 19 (bs_ 20 1023) hHeld ?_; refine pu_ HT_ 10 20 (bs_ 20 2047) ?_; refine pu_ HT_ 11 21 (bs_ 20 4095) ?_; refine pu_ HT_ 12 22 (bs_ 20 8191) ?_; refine tk_ HT_ HW_ 13 23 (bs_ 20 16383) hHeld ?_
     refine one_ (i := 14) (N := some 24) (bs_ 20 32767) rfl rfl (one_of HT_.out (by kernel_rfl)) (by decide) (fun K hK => ?_)
     refine goes_ Try.func86 (by kernel_rfl) rfl #[.int .i64 a1, .int .i64 (rd l0_0 0), .int .i64 (rd l0_0 (j0))] (by rfl) rfl rfl (by (try simp only [List.map_toArray, List.map_cons, List.map_nil]); first | done | (simp only [l4]; rfl) | rfl | (simp only [List.length_drop, List.length_take]; rfl)) ?_
     with_reducible refine (impl_held.calls a1 (rd l0_0 0) (rd l0_0 (j0)) g5 _ A9.out).mono ?_
     rintro e L4 ⟨rfl, hb⟩
     refine ⟨_, rfl, ?_⟩
     replace b3 := bk_ b3 hb; replace c1 := bk_ c1 hb; replace HB := hk_ HB hb
     (try clear hb); (try clear j8); (try clear hk); (try clear hi)
     refine hK.out _ _ ⟨bc0_ b3, bc1_ b3, ((HB.out.cell (World.block_lt_of_cell? w _ hw259_0)).trans hw259_0), ((HB.out.cell (World.block_lt_of_cell? w _ hw260_0)).trans hw260_0)⟩ (fun hHeld => ?_)
     clear hK K; refine nm_ 24 ?_
     refine one_ (i := 15) (N := some 25) (bs_ 20 65535) rfl rfl (one_of HT_.out (by kernel_rfl)) (by decide) (fun K hK => ?_)
     refine gs_ Try.func27 #[.agg #[.slice (some h6) l0_0.length c0_0, .slice A0_1 l0_1.length c0_1], .int .i64 g5] ?_
     with_reducible refine (impl_At.calls k _ _ l0_0 _ _ l0_1 g5 n0 p2 s0 _ ?c9 ?d0 ?d9 ?g4 J4.out).mono ?_
     (case c9 => exact cw_ (Kd.C_below h5.out HB.out))
     (case d0 => exact l7.out)
     (case d9 => exact cw_ (Kd.C_below l8.out HB.out))
     (case g4 => exact l9.out)
     rintro e H4 ⟨rfl, hb⟩
     refine ⟨_, rfl, ?_⟩
     replace b3 := bk_ b3 hb; replace c1 := bk_ c1 hb; replace HB := hk_ HB hb
     (try clear hb); (try clear j8); (try clear hk); (try clear hi)
     refine hK.out _ _ ⟨bc0_ b3, bc1_ b3, ((HB.out.cell (World.block_lt_of_cell? w _ hw259_0)).trans hw259_0), ((HB.out.cell (World.block_lt_of_cell? w _ hw260_0)).trans hw260_0)⟩ (fun hHeld => ?_)
     clear hK K; refine nm_ 25 ?_; refine pu_ HT_ 16 26 (bs_ 20 131071) ?_; refine pu_ HT_ 17 27 (bs_ 20 262143) ?_
     refine one_ (i := 18) (N := none) (bs_ 20 524287) rfl rfl (one_of HT_.out (by kernel_rfl)) (by decide) (fun K hK => ?_)
     have J6 : H4.cell? ⟨d6, 0, none⟩ = some (.int .i64 0) := bc0_ c1
     have H5 := blk_frozen c1.out 0
     have B6 := b5.out; have B7 := d7.out
     have J7 : H4.cell? ⟨d6, 1, none⟩ = some (.int .i64 0) := bc1_ c1
     have H6 := blk_frozen c1.out 1
     have B8 := b5.out; have B9 := d7.out
     refine skip_ (w1 := ?_) (by rfl) rfl ?_ ?_
     rotate_left
     ·go_simp
      rfl
     refine hK.out _ _ ⟨((cell_far (p := ⟨d6, _, none⟩) b5.out _).trans (((cell_far (p := ⟨d6, _, none⟩) b5.out _).trans (hHeld.1)))), ((cell_far (p := ⟨d6, _, none⟩) b5.out _).trans (((cell_far (p := ⟨d6, _, none⟩) b5.out _).trans (hHeld.2.1)))), ((cell_far (p := ⟨d6, _, none⟩) (by first | exact Nat.ne_of_lt (Nat.lt_of_lt_of_le (by have := World.block_lt_of_cell? _ _ hw259_0; first | rwa [add_block] at this | exact this) c2.out) | (rw [add_block]; exact Nat.ne_of_lt (Nat.lt_of_lt_of_le (by have := World.block_lt_of_cell? _ _ hw259_0; first | rwa [add_block] at this | exact this) c2.out)) | (show (Addr.add _ _).block ≠ _; rw [add_block]; exact Nat.ne_of_lt (Nat.lt_of_lt_of_le (by have := World.block_lt_of_cell? _ _ hw259_0; first | rwa [add_block] at this | exact this) c2.out)) | (dsimp only; exact Nat.ne_of_lt (Nat.lt_of_lt_of_le (by have := World.block_lt_of_cell? _ _ hw259_0; first | rwa [add_block] at this | exact this) c2.out))) _).trans (((cell_far (p := ⟨d6, _, none⟩) (by first | exact Nat.ne_of_lt (Nat.lt_of_lt_of_le (by have := World.block_lt_of_cell? _ _ hw259_0; first | rwa [add_block] at this | exact this) c2.out) | (rw [add_block]; exact Nat.ne_of_lt (Nat.lt_of_lt_of_le (by have := World.block_lt_of_cell? _ _ hw259_0; first | rwa [add_block] at this | exact this) c2.out)) | (show (Addr.add _ _).block ≠ _; rw [add_block]; exact Nat.ne_of_lt (Nat.lt_of_lt_of_le (by have := World.block_lt_of_cell? _ _ hw259_0; first | rwa [add_block] at this | exact this) c2.out)) | (dsimp only; exact Nat.ne_of_lt (Nat.lt_of_lt_of_le (by have := World.block_lt_of_cell? _ _ hw259_0; first | rwa [add_block] at this | exact this) c2.out))) _).trans (hHeld.2.2.1)))), ((cell_far (p := ⟨d6, _, none⟩) (by first | exact Nat.ne_of_lt (Nat.lt_of_lt_of_le (by have := World.block_lt_of_cell? _ _ hw260_0; first | rwa [add_block] at this | exact this) c2.out) | (rw [add_block]; exact Nat.ne_of_lt (Nat.lt_of_lt_of_le (by have := World.block_lt_of_cell? _ _ hw260_0; first | rwa [add_block] at this | exact this) c2.out)) | (show (Addr.add _ _).block ≠ _; rw [add_block]; exact Nat.ne_of_lt (Nat.lt_of_lt_of_le (by have := World.block_lt_of_cell? _ _ hw260_0; first | rwa [add_block] at this | exact this) c2.out)) | (dsimp only; exact Nat.ne_of_lt (Nat.lt_of_lt_of_le (by have := World.block_lt_of_cell? _ _ hw260_0; first | rwa [add_block] at this | exact this) c2.out))) _).trans (((cell_far (p := ⟨d6, _, none⟩) (by first | exact Nat.ne_of_lt (Nat.lt_of_lt_of_le (by have := World.block_lt_of_cell? _ _ hw260_0; first | rwa [add_block] at this | exact this) c2.out) | (rw [add_block]; exact Nat.ne_of_lt (Nat.lt_of_lt_of_le (by have := World.block_lt_of_cell? _ _ hw260_0; first | rwa [add_block] at this | exact this) c2.out)) | (show (Addr.add _ _).block ≠ _; rw [add_block]; exact Nat.ne_of_lt (Nat.lt_of_lt_of_le (by have := World.block_lt_of_cell? _ _ hw260_0; first | rwa [add_block] at this | exact this) c2.out)) | (dsimp only; exact Nat.ne_of_lt (Nat.lt_of_lt_of_le (by have := World.block_lt_of_cell? _ _ hw260_0; first | rwa [add_block] at this | exact this) c2.out))) _).trans (hHeld.2.2.2))))⟩ (fun hHeld => ?_)
     clear hK K; refine pu_ HT_ 19 5 (bs_ 20 1048575) ?_
     refine done_ (done_of HT_.out (by kernel_rfl)) ?_
     try go_wp2
     refine bodyPost_ret (results_ct rfl _ _ d6 48 #[.int .i64 n0, .int .i64 p2] (0, 0) _ rfl (by (with_reducible repeat (first | refine blk_drewN ?_ _ | refine blk_drew ?_ | refine blk_alloc ?_ _)); refine blk_put (cs := #[.int .i64 n0, .int .i64 0]) ?_ 1 _ rfl; (with_reducible repeat (first | refine blk_drewN ?_ _ | refine blk_drew ?_ | refine blk_alloc ?_ _)); refine blk_put (cs := #[.int .i64 0, .int .i64 0]) ?_ 0 _ rfl; (with_reducible repeat (first | refine blk_drewN ?_ _ | refine blk_drew ?_ | refine blk_alloc ?_ _)); exact c1.out) Try.underlying48 rfl (by kernel_rfl)) rfl ?_
     exact ⟨by first | rfl | (simp [errW_none, errW_some] <;> rfl) | (simp only [← l4]; first | rfl | (simp [errW_none, errW_some] <;> rfl)) | (simp [*, errW_none, errW_some] <;> rfl), by repeat (first | (with_reducible first | exact HB.out | apply below_alloc | apply pw_below_drewN | apply below_drew1 | refine below_set ?_ m2.out) | exact HB.out)⟩
    ·rw [if_neg c8] at H
     exact absurd H (by simp)
   ·rw [if_neg c7] at H
    exact absurd H (by simp)
  ·rw [if_neg c5] at H
   exact absurd H (by simp)
 ·replace c4 := Bool.eq_false_iff.mpr c4; subst c4
  have H1 : (some (0, 0, false)) = some (r1, r2, r3) := by rw [if_neg (show ¬ (false = true) by decide)] at H; exact H
  clear H
  have H := H1
  clear H1
  simp only [Option.some.injEq, Prod.mk.injEq] at H
  obtain ⟨rfl, rfl, rfl⟩ := H
  go_enter Try.func33, Try.ntmps33
  go_wp2_with (first | ((with_reducible refine gd_ 2 rfl ?_); refine box_event ?hg (N := 2) ?hd (cs := #[.slice A0_0 l0_0.length c0_0, .slice A0_1 l0_1.length c0_1]) (t := 51) ?hr ?_; (case hd => rfl); (case hg => rfl); (case hr => exact hr_); intro m0 hg L5 hbox hb; have b3 := mk_ (hbox); have m1 := gb_ hg HB; replace HB := bp_ HB hb; have s2 := m1; clear hb hbox hg) | ((with_reducible refine gd_ 4 rfl ?_); refine box_event ?hg (N := 4) ?hd (cs := #[.int .i64 0, .int .i64 0]) (t := 48) ?hr ?_; (case hd => rfl); (case hg => rfl); (case hr => exact hr_); intro d6 hg L6 hbox hb; have c1 := mk_ (hbox); have c2 := gb_ hg HB; replace HB := bp_ HB hb; have m2 := c2; have b5 := nb_ hg b3; replace b3 := bl_ b3 hb; have d7 := ns_ b5; clear hb hbox hg; have H7 := b5.out; have H8 := d7.out; have C0 := bc0_ b3; have C1 := bc1_ b3; have C2 := bf_ b3 0; have C3 := bf_ b3 1) | ((with_reducible refine gc_ 32 rfl ?_); refine gl_ (some 7) rfl Try.func32 #[.agg #[.slice A0_0 l0_0.length c0_0, .slice A0_1 l0_1.length c0_1]] ?_; (with_reducible refine (impl_CurveOk.calls k _ _ l0_0 _ _ l0_1 false _ ?c9 ?d0 ?d9 ?g4 A3.out).mono ?_); (case c9 => exact cw_ (Kd.C_below h5.out HB.out)); (case d0 => exact l7.out); (case d9 => exact cw_ (Kd.C_below l8.out HB.out)); (case g4 => exact l9.out); rintro e L7 ⟨rfl, hb⟩; refine ⟨_, rfl, ?_⟩; replace b3 := bl_ b3 hb; replace c1 := bl_ c1 hb; replace HB := bp_ HB hb; (try clear hb); (try clear j8); (try clear hk); (try clear hi); have C4 := bc0_ c1; have C5 := bc1_ c1; have C6 := bf_ c1 0; have C7 := bf_ c1 1))
  refine bodyPost_ret (results_ct rfl _ _ d6 48 #[.int .i64 0, .int .i64 0] (0, 0) _ rfl (by (with_reducible repeat (first | refine blk_drewN ?_ _ | refine blk_drew ?_ | refine blk_alloc ?_ _)); refine blk_put (cs := #[.int .i64 0, .int .i64 0]) ?_ 1 _ rfl; (with_reducible repeat (first | refine blk_drewN ?_ _ | refine blk_drew ?_ | refine blk_alloc ?_ _)); refine blk_put (cs := #[.int .i64 0, .int .i64 0]) ?_ 0 _ rfl; (with_reducible repeat (first | refine blk_drewN ?_ _ | refine blk_drew ?_ | refine blk_alloc ?_ _)); exact c1.out) Try.underlying48 rfl (by kernel_rfl)) rfl ?_
  exact ⟨re_, by repeat (first | (with_reducible first | exact HB.out | apply below_alloc | apply pw_below_drewN | apply below_drew1 | refine below_set ?_ m2.out) | exact HB.out)⟩

end Go.Proofs.Ytnphbpkpjinddaa.QFnTables
-- squeezed
