/- Lean functions that tell what the Go functions used by one law answer, and for each a proof that the Go code comes to just these answers; no condition. Printed by this session's own program over the kit's printer. -/
import Derived.Test.YtnphbpkpjinddaaWSq
import Derived.Test.YtnphbpkpjinddaaQFnClearsx0
import Derived.Test.YtnphbpkpjinddaaQFnClearsx1
import Derived.Test.YtnphbpkpjinddaaQFnClearsx2
import Derived.Test.YtnphbpkpjinddaaQFnClearsx3
namespace Go.Proofs.Ytnphbpkpjinddaa.QFnClears
open Go.RowKit Go.Proofs.YtnphbpkpjinddaaW.PrintWords Go.Proofs.YtnphbpkpjinddaaW.PrintLast Go.Proofs.YtnphbpkpjinddaaW.PrintMore
attribute [local go_sem] max2_int min2_int max_two min_two max_three min_three max_four min_four   -- for this text's walks alone
attribute [local go_sem high] go_eql go_neq go_lss go_leq go_gtr go_geq go_store   -- for this text's walks alone
set_option linter.unusedVariables false
set_option linter.unusedSimpArgs false

/-! ### spec_Climbs: function 61 -/
def spec_Climbs.l0 : Nat → Int → List (S137) → List Int → Int → Option (List Int × Bool)
 | 0, _, _, _, _ => none
 | k + 1, x0, x1, x6, x7 => if x7 < (x1.length : Int) then (if 0 ≤ x7 then (if x6.length < 17592186044416 then (spec_Climbs.l0 k (wrap64 (x0 + (wrap64 (((rd_T137 x1 x7).f0) * ((rd_T137 x1 x7).f1))))) x1 (x6 ++ [wrap64 (x0 + (wrap64 (((rd_T137 x1 x7).f0) * ((rd_T137 x1 x7).f1))))]) (wrap64 (x7 + 1))) else (none)) else (none)) else (some (x6, true))
def spec_Climbs.f (k : Nat) (a0 : Int) (l1 : List (S137)) : Option (List Int × Bool) := (some (([] : List Int) : List Int)).bind fun d1 => ((spec_l3Phases.f k a0 l1).bind fun h5 => (if h5 = true then (spec_Climbs.l0 k a0 l1 d1 0) else (some (d1, false))))
theorem spec_Climbs.mono_l : ∀ k, (∀ y0 y1 y2 y3, LeO (spec_Climbs.l0 k y0 y1 y2 y3) (spec_Climbs.l0 (k + 1) y0 y1 y2 y3))
 | 0 => fun _ _ _ _ r h => by simp [spec_Climbs.l0] at h
 | k + 1 => by
  have h6 := spec_Climbs.mono_l k
  ·intro y0 y1 y2 y3
   unfold spec_Climbs.l0
   repeat' first
   | (with_reducible exact h6 _ _ _ _)
   | (with_reducible exact spec_l3Phases.mono _ _ _)
   | (with_reducible exact LeO.refl _)
   | (with_reducible exact LeO.none _)
   | (with_reducible refine LeO.ite ?_ ?_)
   | (with_reducible refine LeO.bind ?_ (fun _ => ?_))
   | exact h6 _ _ _ _
   | exact spec_l3Phases.mono _ _ _
   | exact LeO.none _
   | refine LeO.ite ?_ ?_
   | refine LeO.bind ?_ (fun _ => ?_)
theorem spec_Climbs.mono : ∀ a0 a1 k, LeO (spec_Climbs.f k a0 a1) (spec_Climbs.f (k + 1) a0 a1) := by
 intro a0 a1 k
 have h6 := spec_Climbs.mono_l k
 unfold spec_Climbs.f
 repeat' first
   | (with_reducible exact h6 _ _ _ _)
   | (with_reducible exact spec_l3Phases.mono _ _ _)
   | (with_reducible exact LeO.refl _)
   | (with_reducible exact LeO.none _)
   | (with_reducible refine LeO.ite ?_ ?_)
   | (with_reducible refine LeO.bind ?_ (fun _ => ?_))
   | exact h6 _ _ _ _
   | exact spec_l3Phases.mono _ _ _
   | exact LeO.none _
   | refine LeO.ite ?_ ?_
   | refine LeO.bind ?_ (fun _ => ?_)
set_option maxHeartbeats 8000000 in
set_option maxRecDepth 100000 in
theorem spec_Climbs.calls (k : Nat) (a0 : Int) (A1 : Option Addr) (c1 : Nat) (l1 : List (S137)) (r1 : List Int) (r2 : Bool) (w : World) (hr1 : Kd.C k137 w A1 l1.length l1) (hc1 : l1.length ≤ c1) (h : spec_Climbs.f k a0 l1 = some (r1, r2)) :
  Calls Try.prog 61 #[.int .i64 a0, .slice A1 l1.length c1] w fun e w' => ∃ v0_ : Value, e = .returned (.tuple #[v0_, .bool r2]) ∧ Kd.R (Kd.int .i64) 3 w' w.heap.size (fun _ => True) v0_ r1 ∧ Below w.heap.size w w' := by
 have n5 := mk_ hr1; have p5 := mk_ hc1; clear hr1 hc1; have HB := mk_ (Below.refl w.heap.size w)
 have H : ((some (([] : List Int) : List Int)).bind fun d1 => ((spec_l3Phases.f k a0 l1).bind fun h5 => (if h5 = true then (spec_Climbs.l0 k a0 l1 d1 0) else (some (d1, false))))) = some (r1, r2) := h
 clear h
 obtain ⟨d1, h7⟩ : ∃ y_ : List Int, y_ = (([] : List Int)) := ⟨_, rfl⟩
 replace H : ((spec_l3Phases.f k a0 l1).bind fun h5 => (if h5 = true then (spec_Climbs.l0 k a0 l1 d1 0) else (some (d1, false)))) = some (r1, r2) := by first | (rw [h7]; with_reducible exact H) | (have H2_ := (Option.bind_some _ _).symm.trans H; rw [h7]; with_reducible exact H2_) | (have H2_ := (Option.bind_some _ _).symm.trans H; with_reducible exact H2_) | with_reducible exact H | (rw [h7]; exact H) | exact H
 have b8 := mk_ h7; clear h7; replace H := Option.bind_eq_some_iff.mp H; obtain ⟨h5, D1, H⟩ := H
 replace H : (if h5 = true then (spec_Climbs.l0 k a0 l1 d1 0) else (some (d1, false))) = some (r1, r2) := H
 have A3 := mk_ D1; clear D1; by_cases c4 : h5 = true
 ·subst c4
  have H1 : (spec_Climbs.l0 k a0 l1 d1 0) = some (r1, r2) := by rw [if_pos rfl] at H; exact H
  clear H
  have H := H1
  clear H1
  have H' := mk_ H
  clear H
  go_enter Try.func61, Try.ntmps61
  go_wp2_with (first | ((with_reducible refine gd_ 8 rfl ?_); refine Kd.R_lit (Kd.int .i64) _ 3 ?hg (N := 8) ?hd (xs := ([] : List Int)) (inner := []) (ok := fun _ => True) (okp := fun _ => True) ?hr ?hp (fun _ hk => hk) trivial (Below.refl _ _) (Nat.le_refl _) (by simp) ?_; (case hd => rfl); (case hg => rfl); (case hr => exact hr_); (case hp => exact (Reps.none _ _)); intro v278 w5 h8 hb hg_ hnew_; clear hg_ hnew_; (first | rw [← b8.out] at h8 | (simp only [Int.reduceToNat] at h8; rw [← b8.out] at h8)); have d8 := mk_ (Kd.R_lower h8 (below_size (hw_ HB))); replace HB := hk_ HB hb; clear hb h8) | (go_at_call 106; (with_reducible refine (spec_l3Phases.calls k a0 _ _ l1 true _ ?a3 ?a4 A3.out).mono ?_); (case a3 => exact cw_ (Kd.C_below n5.out HB.out)); (case a4 => exact p5.out); rintro e w' ⟨rfl, ⟨nd, rfl⟩⟩; (try first | exact ⟨rfl, _, World.drewN_drewN _ _ _⟩ | exact ⟨rfl, _, Eq.trans (World.drewN_drewN _ _ _) (congrArg (World.drewN _) (Nat.add_assoc _ _ _))⟩)))
  repeat (go_quiet (first | ((with_reducible refine gd_ 8 rfl ?_); refine Kd.R_lit (Kd.int .i64) _ 3 ?hg (N := 8) ?hd (xs := ([] : List Int)) (inner := []) (ok := fun _ => True) (okp := fun _ => True) ?hr ?hp (fun _ hk => hk) trivial (Below.refl _ _) (Nat.le_refl _) (by simp) ?_; (case hd => rfl); (case hg => rfl); (case hr => exact hr_); (case hp => exact (Reps.none _ _)); intro v278 w5 h8 hb hg_ hnew_; clear hg_ hnew_; (first | rw [← b8.out] at h8 | (simp only [Int.reduceToNat] at h8; rw [← b8.out] at h8)); have d8 := mk_ (Kd.R_lower h8 (below_size (hw_ HB))); replace HB := hk_ HB hb; clear hb h8) | (go_at_call 106; (with_reducible refine (spec_l3Phases.calls k a0 _ _ l1 true _ ?a3 ?a4 A3.out).mono ?_); (case a3 => exact cw_ (Kd.C_below n5.out HB.out)); (case a4 => exact p5.out); rintro e w' ⟨rfl, ⟨nd, rfl⟩⟩; (try first | exact ⟨rfl, _, World.drewN_drewN _ _ _⟩ | exact ⟨rfl, _, Eq.trans (World.drewN_drewN _ _ _) (congrArg (World.drewN _) (Nat.add_assoc _ _ _))⟩))); try go_wp2_with (first | ((with_reducible refine gd_ 8 rfl ?_); refine Kd.R_lit (Kd.int .i64) _ 3 ?hg (N := 8) ?hd (xs := ([] : List Int)) (inner := []) (ok := fun _ => True) (okp := fun _ => True) ?hr ?hp (fun _ hk => hk) trivial (Below.refl _ _) (Nat.le_refl _) (by simp) ?_; (case hd => rfl); (case hg => rfl); (case hr => exact hr_); (case hp => exact (Reps.none _ _)); intro v278 w5 h8 hb hg_ hnew_; clear hg_ hnew_; (first | rw [← b8.out] at h8 | (simp only [Int.reduceToNat] at h8; rw [← b8.out] at h8)); have d8 := mk_ (Kd.R_lower h8 (below_size (hw_ HB))); replace HB := hk_ HB hb; clear hb h8) | (go_at_call 106; (with_reducible refine (spec_l3Phases.calls k a0 _ _ l1 true _ ?a3 ?a4 A3.out).mono ?_); (case a3 => exact cw_ (Kd.C_below n5.out HB.out)); (case a4 => exact p5.out); rintro e w' ⟨rfl, ⟨nd, rfl⟩⟩; (try first | exact ⟨rfl, _, World.drewN_drewN _ _ _⟩ | exact ⟨rfl, _, Eq.trans (World.drewN_drewN _ _ _) (congrArg (World.drewN _) (Nat.add_assoc _ _ _))⟩))))
  go_loopg [0, 6, 7] k (fun kq v0 v6 v7 w' => ∃ (d5 : Int) (h9 : List Int) (a9 : Int), v0 = .int .i64 d5 ∧ v7 = .int .i64 a9 ∧ Aside0 (spec_Climbs.l0 kq d5 l1 h9 a9 = some (r1, r2)) ∧ Aside0 (kq ≤ k) ∧ Aside0 (Kd.R (Kd.int .i64) 3 w' w.heap.size (fun _ => True) v6 h9) ∧ Aside0 (Below w.heap.size w w'))
  case atStart => exact ⟨(a0), (d1), (0), rf_, rf_, H', ⟨Nat.le_refl _⟩, kw_ d8, ⟨hw_ HB⟩⟩
  case round =>
   clear H'; (try clear c1); (try clear c4)
   obtain ⟨d5, h9, a9, rfl, rfl, HA, D2, l5, HB⟩ := hrel
   cases gk with
   | zero => exact absurd HA.out (by simp [spec_Climbs.l0])
   | succ k1 =>
    have H := HA.out; clear HA
    simp only [spec_Climbs.l0] at H
    by_cases c7 : a9 < (l1.length : Int)
    ·rw [if_pos c7] at H; have o0 : decide (a9 < (l1.length : Int)) = true := decide_eq_true c7; clear c7; by_cases c8 : 0 ≤ a9
     ·rw [if_pos c8] at H; have E8 : decide (0 ≤ a9) = true := decide_eq_true c8; clear c8; by_cases c9 : h9.length < 17592186044416
      ·rw [if_pos c9] at H; have LMc9 := mk_ c9; clear c9
       obtain ⟨q1, j4⟩ : ∃ y_ : List Int, y_ = (h9 ++ [wrap64 (d5 + (wrap64 (((rd_T137 l1 a9).f0) * ((rd_T137 l1 a9).f1))))]) := ⟨_, rfl⟩
       replace H : (spec_Climbs.l0 k1 (wrap64 (d5 + (wrap64 (((rd_T137 l1 a9).f0) * ((rd_T137 l1 a9).f1))))) l1 q1 (wrap64 (a9 + 1))) = some (r1, r2) := by first | (rw [j4]; with_reducible exact H) | (have H2_ := (Option.bind_some _ _).symm.trans H; rw [j4]; with_reducible exact H2_) | (have H2_ := (Option.bind_some _ _).symm.trans H; with_reducible exact H2_) | with_reducible exact H | (rw [j4]; exact H) | exact H
       have l9 := mk_ j4; clear j4
       have H' := mk_ H
       clear H
       have o1 : 0 ≤ (a9 : Int) := od_
       have o2 : a9 < (l1.length : Int) := od_
       obtain ⟨q2, B5, g5, g6⟩ := at_T137 n5.out a9 o1 o2; cases B5
       replace g5 := (HB.out.cell (World.block_lt_of_cell? w _ g5)).trans g5
       replace g6 := (HB.out.cell (World.block_lt_of_cell? w _ g6)).trans g6
       replace o1 := eq_true o1; replace o2 := eq_true o2
       have o3 : 0 ≤ (a9 : Int) := od_
       have o4 : a9 < (l1.length : Int) := od_
       obtain ⟨q3, B6, g7, g8⟩ := at_T137 n5.out a9 o3 o4; obtain rfl : q2 = q3 := (by injection B6)
       replace g7 := (HB.out.cell (World.block_lt_of_cell? w _ g7)).trans g7
       replace g8 := (HB.out.cell (World.block_lt_of_cell? w _ g8)).trans g8
       replace o3 := eq_true o3; replace o4 := eq_true o4
       go_wp2_with (first | ((with_reducible refine gate_builtin (b := .append) (xs := #[.tmp 33, .tmp 35]) rfl ?_); at_builtin; refine Kd.R_append (Kd.int .i64) (w0 := w) w.heap.size rfl (.tmp 33) (.tmp 35) 22 3 (.int .i64 0) 8 rfl Try.underlying22 info3 rfl (by decide) (by omega) u6 h9 (wrap64 (d5 + (wrap64 (((rd_T137 l1 a9).f0) * ((rd_T137 l1 a9).f1))))) [.int .i64 (wrap64 (d5 + (wrap64 (((rd_T137 l1 a9).f0) * ((rd_T137 l1 a9).f1)))))] (fun _ => True) (fun _ => False) rfl rfl ?aP (fun _ hk => hk.elim) ?aF ?aO ?aB ?aS ?aL ?_; (case aP => exact rfl); (case aB => exact (hw_ HB)); (case aF => exact (fun _ _ => trivial)); (case aO => exact (kx_ l5)); (case aS => exact (below_size (hw_ HB))); (case aL => have := LMc9.out; omega); intro v284 D3 ho hb hg hat; rw [← l9.out] at ho; replace HB := mk_ (hb); have m0 := mk_ (ho); clear l5; clear ho hb hg hat))
       repeat (go_quiet (first | ((with_reducible refine gate_builtin (b := .append) (xs := #[.tmp 33, .tmp 35]) rfl ?_); at_builtin; refine Kd.R_append (Kd.int .i64) (w0 := w) w.heap.size rfl (.tmp 33) (.tmp 35) 22 3 (.int .i64 0) 8 rfl Try.underlying22 info3 rfl (by decide) (by omega) u6 h9 (wrap64 (d5 + (wrap64 (((rd_T137 l1 a9).f0) * ((rd_T137 l1 a9).f1))))) [.int .i64 (wrap64 (d5 + (wrap64 (((rd_T137 l1 a9).f0) * ((rd_T137 l1 a9).f1)))))] (fun _ => True) (fun _ => False) rfl rfl ?aP (fun _ hk => hk.elim) ?aF ?aO ?aB ?aS ?aL ?_; (case aP => exact rfl); (case aB => exact (hw_ HB)); (case aF => exact (fun _ _ => trivial)); (case aO => exact (kx_ l5)); (case aS => exact (below_size (hw_ HB))); (case aL => have := LMc9.out; omega); intro v284 D3 ho hb hg hat; rw [← l9.out] at ho; replace HB := mk_ (hb); have m0 := mk_ (ho); clear l5; clear ho hb hg hat)); try go_wp2_with (first | ((with_reducible refine gate_builtin (b := .append) (xs := #[.tmp 33, .tmp 35]) rfl ?_); at_builtin; refine Kd.R_append (Kd.int .i64) (w0 := w) w.heap.size rfl (.tmp 33) (.tmp 35) 22 3 (.int .i64 0) 8 rfl Try.underlying22 info3 rfl (by decide) (by omega) u6 h9 (wrap64 (d5 + (wrap64 (((rd_T137 l1 a9).f0) * ((rd_T137 l1 a9).f1))))) [.int .i64 (wrap64 (d5 + (wrap64 (((rd_T137 l1 a9).f0) * ((rd_T137 l1 a9).f1)))))] (fun _ => True) (fun _ => False) rfl rfl ?aP (fun _ hk => hk.elim) ?aF ?aO ?aB ?aS ?aL ?_; (case aP => exact rfl); (case aB => exact (hw_ HB)); (case aF => exact (fun _ _ => trivial)); (case aO => exact (kx_ l5)); (case aS => exact (below_size (hw_ HB))); (case aL => have := LMc9.out; omega); intro v284 D3 ho hb hg hat; rw [← l9.out] at ho; replace HB := mk_ (hb); have m0 := mk_ (ho); clear l5; clear ho hb hg hat)))
       go_roundg k1
       case measure => have := D2.out; omega
       case rel => exact ⟨(wrap64 (d5 + (wrap64 (((rd_T137 l1 a9).f0) * ((rd_T137 l1 a9).f1))))), (q1), (wrap64 (a9 + 1)), rf_, rf_, H', ⟨by have := D2.out; omega⟩, kw_ m0, ⟨hw_ HB⟩⟩
      ·rw [if_neg c9] at H
       exact absurd H (by simp)
     ·rw [if_neg c8] at H
      exact absurd H (by simp)
    ·rw [if_neg c7] at H; have o0 : decide (a9 < (l1.length : Int)) = false := decide_eq_false c7; clear c7
     simp only [Option.some.injEq, Prod.mk.injEq] at H
     obtain ⟨rfl, rfl⟩ := H; go_wp2
     repeat (go_quiet (fail); try go_wp2)
     go_ret2
     exact ⟨_, re_, by (with_reducible repeat (first | apply Kd.R_alloc | apply Kd.R_drewN | apply Kd.R_drew)); exact l5.out, hw_ HB⟩
 ·replace c4 := Bool.eq_false_iff.mpr c4; subst c4
  have H1 : (some (d1, false)) = some (r1, r2) := by rw [if_neg (show ¬ (false = true) by decide)] at H; exact H
  clear H
  have H := H1
  clear H1
  simp only [Option.some.injEq, Prod.mk.injEq] at H
  obtain ⟨rfl, rfl⟩ := H
  go_enter Try.func61, Try.ntmps61
  go_wp2_with (first | ((with_reducible refine gd_ 8 rfl ?_); refine Kd.R_lit (Kd.int .i64) _ 3 ?hg (N := 8) ?hd (xs := ([] : List Int)) (inner := []) (ok := fun _ => True) (okp := fun _ => True) ?hr ?hp (fun _ hk => hk) trivial (Below.refl _ _) (Nat.le_refl _) (by simp) ?_; (case hd => rfl); (case hg => rfl); (case hr => exact hr_); (case hp => exact (Reps.none _ _)); intro v278 B7 b9 hb hg_ hnew_; clear hg_ hnew_; (first | rw [← b8.out] at b9 | (simp only [Int.reduceToNat] at b9; rw [← b8.out] at b9)); have d8 := mk_ (Kd.R_lower b9 (below_size (hw_ HB))); replace HB := hk_ HB hb; clear hb b9) | (go_at_call 106; (with_reducible refine (spec_l3Phases.calls k a0 _ _ l1 false _ ?a3 ?a4 A3.out).mono ?_); (case a3 => exact cw_ (Kd.C_below n5.out HB.out)); (case a4 => exact p5.out); rintro e w' ⟨rfl, ⟨nd, rfl⟩⟩; (try first | exact ⟨rfl, _, World.drewN_drewN _ _ _⟩ | exact ⟨rfl, _, Eq.trans (World.drewN_drewN _ _ _) (congrArg (World.drewN _) (Nat.add_assoc _ _ _))⟩)))
  repeat (go_quiet (first | ((with_reducible refine gd_ 8 rfl ?_); refine Kd.R_lit (Kd.int .i64) _ 3 ?hg (N := 8) ?hd (xs := ([] : List Int)) (inner := []) (ok := fun _ => True) (okp := fun _ => True) ?hr ?hp (fun _ hk => hk) trivial (Below.refl _ _) (Nat.le_refl _) (by simp) ?_; (case hd => rfl); (case hg => rfl); (case hr => exact hr_); (case hp => exact (Reps.none _ _)); intro v278 B7 b9 hb hg_ hnew_; clear hg_ hnew_; (first | rw [← b8.out] at b9 | (simp only [Int.reduceToNat] at b9; rw [← b8.out] at b9)); have d8 := mk_ (Kd.R_lower b9 (below_size (hw_ HB))); replace HB := hk_ HB hb; clear hb b9) | (go_at_call 106; (with_reducible refine (spec_l3Phases.calls k a0 _ _ l1 false _ ?a3 ?a4 A3.out).mono ?_); (case a3 => exact cw_ (Kd.C_below n5.out HB.out)); (case a4 => exact p5.out); rintro e w' ⟨rfl, ⟨nd, rfl⟩⟩; (try first | exact ⟨rfl, _, World.drewN_drewN _ _ _⟩ | exact ⟨rfl, _, Eq.trans (World.drewN_drewN _ _ _) (congrArg (World.drewN _) (Nat.add_assoc _ _ _))⟩))); try go_wp2_with (first | ((with_reducible refine gd_ 8 rfl ?_); refine Kd.R_lit (Kd.int .i64) _ 3 ?hg (N := 8) ?hd (xs := ([] : List Int)) (inner := []) (ok := fun _ => True) (okp := fun _ => True) ?hr ?hp (fun _ hk => hk) trivial (Below.refl _ _) (Nat.le_refl _) (by simp) ?_; (case hd => rfl); (case hg => rfl); (case hr => exact hr_); (case hp => exact (Reps.none _ _)); intro v278 B7 b9 hb hg_ hnew_; clear hg_ hnew_; (first | rw [← b8.out] at b9 | (simp only [Int.reduceToNat] at b9; rw [← b8.out] at b9)); have d8 := mk_ (Kd.R_lower b9 (below_size (hw_ HB))); replace HB := hk_ HB hb; clear hb b9) | (go_at_call 106; (with_reducible refine (spec_l3Phases.calls k a0 _ _ l1 false _ ?a3 ?a4 A3.out).mono ?_); (case a3 => exact cw_ (Kd.C_below n5.out HB.out)); (case a4 => exact p5.out); rintro e w' ⟨rfl, ⟨nd, rfl⟩⟩; (try first | exact ⟨rfl, _, World.drewN_drewN _ _ _⟩ | exact ⟨rfl, _, Eq.trans (World.drewN_drewN _ _ _) (congrArg (World.drewN _) (Nat.add_assoc _ _ _))⟩))))
  go_ret2
  exact ⟨_, re_, by (with_reducible repeat (first | apply Kd.R_alloc | apply Kd.R_drewN | apply Kd.R_drew)); exact d8.out, hw_ HB⟩

/-! ### laws_FnClears: function 12 -/
mutual
def laws_FnClears.j0 : Nat → Int → List (S137) → List (S134) → Int → Int → Bool → Int → Bool → Option (Bool)
 | 0, _, _, _, _, _, _, _, _ => none
 | k + 1, x3, x4, x5, x6, x7, x8, x9, E9 => if E9 = true then (some false) else (if x8 = true then (laws_FnClears.j1 k x3 x4 x5 x6 x7 x9 (x6 == 0)) else (laws_FnClears.j1 k x3 x4 x5 x6 x7 x9 true))
def laws_FnClears.j1 : Nat → Int → List (S137) → List (S134) → Int → Int → Int → Bool → Option (Bool)
 | 0, _, _, _, _, _, _, _ => none
 | k + 1, x3, x4, x5, x6, x7, x9, F0 => if F0 = true then (some (x7 == x9)) else ((impl_Clears.f k x3 x4 x5 (wrap64 (x6 - 1))).bind fun m1 => (if x7 = (-1) then (some (m1.1 == (-1))) else (if x7 < 0 then (laws_FnClears.j2 k x3 x4 x5 x6 x7 m1.1 true) else (laws_FnClears.j2 k x3 x4 x5 x6 x7 m1.1 (decide (x7 ≥ (x5.length : Int)))))))
def laws_FnClears.j2 : Nat → Int → List (S137) → List (S134) → Int → Int → Int → Bool → Option (Bool)
 | 0, _, _, _, _, _, _, _ => none
 | k + 1, x3, x4, x5, x6, x7, D4, B8 => if B8 = true then (some false) else (if 0 ≤ x7 then (if x7 ≤ (x5.length : Int) then ((impl_Clears.f k x3 x4 (x5.take (x7 : Int).toNat) x6).bind fun j5 => (if x7 ≤ (wrap64 (x7 + 1)) then (if (wrap64 (x7 + 1)) ≤ (x5.length : Int) then ((impl_Clears.f k x3 x4 ((x5.take ((wrap64 (x7 + 1)) : Int).toNat).drop (x7 : Int).toNat) x6).bind fun d3 => (if D4 = (-1) then (if j5.1 = (-1) then (laws_FnClears.j3 k (d3.1 == 0)) else (laws_FnClears.j3 k false)) else (if D4 ≥ x7 then (if j5.1 = (-1) then (laws_FnClears.j3 k (d3.1 == 0)) else (laws_FnClears.j3 k false)) else (laws_FnClears.j3 k false)))) else (none)) else (none))) else (none)) else (none))
def laws_FnClears.j3 : Nat → Bool → Option (Bool)
 | 0, _ => none
 | k + 1, x2 => some x2
end
def laws_FnClears.f (k : Nat) (l0 : List Int) : Option (Bool) := (laws_big.f l0).bind fun m2 => (if m2 = true then (some true) else ((spec_DrawClears.f k l0).bind fun a2 => ((impl_Clears.f k a2.1 a2.2.1 a2.2.2.1 a2.2.2.2).bind fun b3 => ((spec_Clears.f k a2.1 a2.2.1 a2.2.2.1 a2.2.2.2).bind fun c6 => (if (b3.2 != c6.2) = true then (some false) else ((impl_Climbs.f k a2.1 a2.2.1).bind fun d9 => ((spec_Climbs.f k a2.1 a2.2.1).bind fun m3 => (if (d9.2 != m3.2) = true then (laws_FnClears.j0 k a2.1 a2.2.1 a2.2.2.1 a2.2.2.2 b3.1 b3.2 c6.1 true) else (if d9.2 = true then (laws_FnClears.j0 k a2.1 a2.2.1 a2.2.2.1 a2.2.2.2 b3.1 b3.2 c6.1 ((d9.1.length : Int) != (a2.2.1.length : Int))) else (laws_FnClears.j0 k a2.1 a2.2.1 a2.2.2.1 a2.2.2.2 b3.1 b3.2 c6.1 false))))))))))
theorem laws_FnClears.mono_l : ∀ k, (∀ y0 y1 y2 y3 y4 y5 y6 y7, LeO (laws_FnClears.j0 k y0 y1 y2 y3 y4 y5 y6 y7) (laws_FnClears.j0 (k + 1) y0 y1 y2 y3 y4 y5 y6 y7)) ∧ (∀ y0 y1 y2 y3 y4 y5 y6, LeO (laws_FnClears.j1 k y0 y1 y2 y3 y4 y5 y6) (laws_FnClears.j1 (k + 1) y0 y1 y2 y3 y4 y5 y6)) ∧ (∀ y0 y1 y2 y3 y4 y5 y6, LeO (laws_FnClears.j2 k y0 y1 y2 y3 y4 y5 y6) (laws_FnClears.j2 (k + 1) y0 y1 y2 y3 y4 y5 y6)) ∧ (∀ y0, LeO (laws_FnClears.j3 k y0) (laws_FnClears.j3 (k + 1) y0))
 | 0 => ⟨fun _ _ _ _ _ _ _ _ r h => by simp [laws_FnClears.j0] at h, fun _ _ _ _ _ _ _ r h => by simp [laws_FnClears.j1] at h, fun _ _ _ _ _ _ _ r h => by simp [laws_FnClears.j2] at h, fun _ r h => by simp [laws_FnClears.j3] at h⟩
 | k + 1 => by
  obtain ⟨h6, m4, m5, m6⟩ := laws_FnClears.mono_l k
  refine ⟨?_, ?_, ?_, ?_⟩
  ·intro y0 y1 y2 y3 y4 y5 y6 y7
   unfold laws_FnClears.j0
   repeat' first
   | (with_reducible exact h6 _ _ _ _ _ _ _ _)
   | (with_reducible exact m4 _ _ _ _ _ _ _)
   | (with_reducible exact m5 _ _ _ _ _ _ _)
   | (with_reducible exact m6 _)
   | (with_reducible exact impl_Clears.mono _ _ _ _ _)
   | (with_reducible exact impl_Climbs.mono _ _ _)
   | (with_reducible exact spec_Clears.mono _ _ _ _ _)
   | (with_reducible exact spec_Climbs.mono _ _ _)
   | (with_reducible exact spec_DrawClears.mono _ _)
   | (with_reducible exact LeO.refl _)
   | (with_reducible exact LeO.none _)
   | (with_reducible refine LeO.ite ?_ ?_)
   | (with_reducible refine LeO.bind ?_ (fun _ => ?_))
   | exact h6 _ _ _ _ _ _ _ _
   | exact m4 _ _ _ _ _ _ _
   | exact m5 _ _ _ _ _ _ _
   | exact m6 _
   | exact impl_Clears.mono _ _ _ _ _
   | exact impl_Climbs.mono _ _ _
   | exact spec_Clears.mono _ _ _ _ _
   | exact spec_Climbs.mono _ _ _
   | exact spec_DrawClears.mono _ _
   | exact LeO.none _
   | refine LeO.ite ?_ ?_
   | refine LeO.bind ?_ (fun _ => ?_)
  ·intro y0 y1 y2 y3 y4 y5 y6
   unfold laws_FnClears.j1
   repeat' first
   | (with_reducible exact h6 _ _ _ _ _ _ _ _)
   | (with_reducible exact m4 _ _ _ _ _ _ _)
   | (with_reducible exact m5 _ _ _ _ _ _ _)
   | (with_reducible exact m6 _)
   | (with_reducible exact impl_Clears.mono _ _ _ _ _)
   | (with_reducible exact impl_Climbs.mono _ _ _)
   | (with_reducible exact spec_Clears.mono _ _ _ _ _)
   | (with_reducible exact spec_Climbs.mono _ _ _)
   | (with_reducible exact spec_DrawClears.mono _ _)
   | (with_reducible exact LeO.refl _)
   | (with_reducible exact LeO.none _)
   | (with_reducible refine LeO.ite ?_ ?_)
   | (with_reducible refine LeO.bind ?_ (fun _ => ?_))
   | exact h6 _ _ _ _ _ _ _ _
   | exact m4 _ _ _ _ _ _ _
   | exact m5 _ _ _ _ _ _ _
   | exact m6 _
   | exact impl_Clears.mono _ _ _ _ _
   | exact impl_Climbs.mono _ _ _
   | exact spec_Clears.mono _ _ _ _ _
   | exact spec_Climbs.mono _ _ _
   | exact spec_DrawClears.mono _ _
   | exact LeO.none _
   | refine LeO.ite ?_ ?_
   | refine LeO.bind ?_ (fun _ => ?_)
  ·intro y0 y1 y2 y3 y4 y5 y6
   unfold laws_FnClears.j2
   repeat' first
   | (with_reducible exact h6 _ _ _ _ _ _ _ _)
   | (with_reducible exact m4 _ _ _ _ _ _ _)
   | (with_reducible exact m5 _ _ _ _ _ _ _)
   | (with_reducible exact m6 _)
   | (with_reducible exact impl_Clears.mono _ _ _ _ _)
   | (with_reducible exact impl_Climbs.mono _ _ _)
   | (with_reducible exact spec_Clears.mono _ _ _ _ _)
   | (with_reducible exact spec_Climbs.mono _ _ _)
   | (with_reducible exact spec_DrawClears.mono _ _)
   | (with_reducible exact LeO.refl _)
   | (with_reducible exact LeO.none _)
   | (with_reducible refine LeO.ite ?_ ?_)
   | (with_reducible refine LeO.bind ?_ (fun _ => ?_))
   | exact h6 _ _ _ _ _ _ _ _
   | exact m4 _ _ _ _ _ _ _
   | exact m5 _ _ _ _ _ _ _
   | exact m6 _
   | exact impl_Clears.mono _ _ _ _ _
   | exact impl_Climbs.mono _ _ _
   | exact spec_Clears.mono _ _ _ _ _
   | exact spec_Climbs.mono _ _ _
   | exact spec_DrawClears.mono _ _
   | exact LeO.none _
   | refine LeO.ite ?_ ?_
   | refine LeO.bind ?_ (fun _ => ?_)
  ·intro y0
   unfold laws_FnClears.j3
   repeat' first
   | (with_reducible exact h6 _ _ _ _ _ _ _ _)
   | (with_reducible exact m4 _ _ _ _ _ _ _)
   | (with_reducible exact m5 _ _ _ _ _ _ _)
   | (with_reducible exact m6 _)
   | (with_reducible exact impl_Clears.mono _ _ _ _ _)
   | (with_reducible exact impl_Climbs.mono _ _ _)
   | (with_reducible exact spec_Clears.mono _ _ _ _ _)
   | (with_reducible exact spec_Climbs.mono _ _ _)
   | (with_reducible exact spec_DrawClears.mono _ _)
   | (with_reducible exact LeO.refl _)
   | (with_reducible exact LeO.none _)
   | (with_reducible refine LeO.ite ?_ ?_)
   | (with_reducible refine LeO.bind ?_ (fun _ => ?_))
   | exact h6 _ _ _ _ _ _ _ _
   | exact m4 _ _ _ _ _ _ _
   | exact m5 _ _ _ _ _ _ _
   | exact m6 _
   | exact impl_Clears.mono _ _ _ _ _
   | exact impl_Climbs.mono _ _ _
   | exact spec_Clears.mono _ _ _ _ _
   | exact spec_Climbs.mono _ _ _
   | exact spec_DrawClears.mono _ _
   | exact LeO.none _
   | refine LeO.ite ?_ ?_
   | refine LeO.bind ?_ (fun _ => ?_)
theorem laws_FnClears.mono : ∀ a0 k, LeO (laws_FnClears.f k a0) (laws_FnClears.f (k + 1) a0) := by
 intro a0 k
 obtain ⟨h6, m4, m5, m6⟩ := laws_FnClears.mono_l k
 unfold laws_FnClears.f
 repeat' first
   | (with_reducible exact h6 _ _ _ _ _ _ _ _)
   | (with_reducible exact m4 _ _ _ _ _ _ _)
   | (with_reducible exact m5 _ _ _ _ _ _ _)
   | (with_reducible exact m6 _)
   | (with_reducible exact impl_Clears.mono _ _ _ _ _)
   | (with_reducible exact impl_Climbs.mono _ _ _)
   | (with_reducible exact spec_Clears.mono _ _ _ _ _)
   | (with_reducible exact spec_Climbs.mono _ _ _)
   | (with_reducible exact spec_DrawClears.mono _ _)
   | (with_reducible exact LeO.refl _)
   | (with_reducible exact LeO.none _)
   | (with_reducible refine LeO.ite ?_ ?_)
   | (with_reducible refine LeO.bind ?_ (fun _ => ?_))
   | exact h6 _ _ _ _ _ _ _ _
   | exact m4 _ _ _ _ _ _ _
   | exact m5 _ _ _ _ _ _ _
   | exact m6 _
   | exact impl_Clears.mono _ _ _ _ _
   | exact impl_Climbs.mono _ _ _
   | exact spec_Clears.mono _ _ _ _ _
   | exact spec_Climbs.mono _ _ _
   | exact spec_DrawClears.mono _ _
   | exact LeO.none _
   | refine LeO.ite ?_ ?_
   | refine LeO.bind ?_ (fun _ => ?_)
set_option maxHeartbeats 8000000 in
set_option maxRecDepth 100000 in
theorem laws_FnClears.calls (k : Nat) (A0 : Option Addr) (c0 : Nat) (l0 : List Int) (r : Bool) (w : World) (hr0 : Kd.C (Kd.int .u8) w A0 l0.length l0) (hc0 : l0.length ≤ c0) (h : laws_FnClears.f k l0 = some r) :
  Calls Try.prog 12 #[.slice A0 l0.length c0] w fun e w' => e = .returned (.bool r) ∧ Below w.heap.size w w' := by
 have q4 := mk_ hr0; have q5 := mk_ hc0; clear hr0 hc0; have HB := mk_ (Below.refl w.heap.size w)
 have H : ((laws_big.f l0).bind fun m2 => (if m2 = true then (some true) else ((spec_DrawClears.f k l0).bind fun a2 => ((impl_Clears.f k a2.1 a2.2.1 a2.2.2.1 a2.2.2.2).bind fun b3 => ((spec_Clears.f k a2.1 a2.2.1 a2.2.2.1 a2.2.2.2).bind fun c6 => (if (b3.2 != c6.2) = true then (some false) else ((impl_Climbs.f k a2.1 a2.2.1).bind fun d9 => ((spec_Climbs.f k a2.1 a2.2.1).bind fun m3 => (if (d9.2 != m3.2) = true then (laws_FnClears.j0 k a2.1 a2.2.1 a2.2.2.1 a2.2.2.2 b3.1 b3.2 c6.1 true) else (if d9.2 = true then (laws_FnClears.j0 k a2.1 a2.2.1 a2.2.2.1 a2.2.2.2 b3.1 b3.2 c6.1 ((d9.1.length : Int) != (a2.2.1.length : Int))) else (laws_FnClears.j0 k a2.1 a2.2.1 a2.2.2.1 a2.2.2.2 b3.1 b3.2 c6.1 false))))))))))) = some r := h
 clear h; replace H := Option.bind_eq_some_iff.mp H; obtain ⟨m2, D5, H⟩ := H; (try dsimp only at H); have A2 := mk_ D5; clear D5; by_cases c3 : m2 = true
 ·subst c3; rw [if_pos rfl] at H
  obtain rfl := Option.some.inj H
  go_enter Try.func12, Try.ntmps12
  go_wp2_with (first | ((with_reducible refine gc_ 30 rfl ?_); refine gl_ (some 22) rfl Try.func30 #[.slice A0 l0.length c0] ?_; (with_reducible refine (laws_big.calls _ _ l0 true _ ?a3 ?a4 A2.out).mono ?_); (case a3 => exact cw_ q4.out); (case a4 => exact q5.out); rintro e w' ⟨rfl, ⟨nd, rfl⟩⟩; refine ⟨_, rfl, ?_⟩))
  go_ret
  exact ⟨re_, hw_ HB⟩
 ·replace c3 := Bool.eq_false_iff.mpr c3; subst c3; rw [if_neg (show ¬ (false = true) by decide)] at H; replace H := Option.bind_eq_some_iff.mp H; obtain ⟨⟨b1, a8, a6, b2⟩, D6, H⟩ := H; (try dsimp only at H); have A4 := mk_ D6; clear D6; replace H := Option.bind_eq_some_iff.mp H; obtain ⟨⟨a5, d6⟩, D7, H⟩ := H; (try dsimp only at H); have A5 := mk_ D7; clear D7; replace H := Option.bind_eq_some_iff.mp H; obtain ⟨⟨n1, g3⟩, D8, H⟩ := H; (try dsimp only at H); have A6 := mk_ D8; clear D8; by_cases c7 : (d6 != g3) = true
  ·rw [if_pos c7] at H
   have o0 : (d6 != g3) = true := c7
   (try (have B9 : decide (d6 = g3) = false := by simpa using c7))
   (try (have C0 : (d6 == g3) = false := by simpa using c7))
   (try (have F1 : ¬ (d6 = g3) := by simpa using c7))
   clear c7; obtain rfl := Option.some.inj H
   go_enter Try.func12, Try.ntmps12
   go_wp2_with (first | ((with_reducible refine gc_ 30 rfl ?_); refine gl_ (some 22) rfl Try.func30 #[.slice A0 l0.length c0] ?_; (with_reducible refine (laws_big.calls _ _ l0 false _ ?a3 ?a4 A2.out).mono ?_); (case a3 => exact cw_ q4.out); (case a4 => exact q5.out); rintro e w' ⟨rfl, ⟨nd, rfl⟩⟩; refine ⟨_, rfl, ?_⟩) | ((with_reducible refine gc_ 59 rfl ?_); refine gl_ (some 25) rfl Try.func59 #[.slice A0 l0.length c0] ?_; (with_reducible refine (spec_DrawClears.calls k _ _ l0 b1 a8 a6 b2 _ ?a3 ?a4 A4.out).mono ?_); (case a3 => exact cw_ q4.out); (case a4 => exact q5.out); rintro e w8 ⟨v291, v293, rfl, l8, q6, hb⟩; refine ⟨_, rfl, ?_⟩; have a7 := mk_ (Kd.R_lower l8 (below_size (hw_ HB))); have b0 := mk_ (Kd.R_lower q6 (below_size (hw_ HB))); replace HB := hk_ HB hb; (try clear hb); (try clear n2); (try clear hk); (try clear hi); (try clear l8); (try clear q6); obtain ⟨D9, E0, F2⟩ := Kd.R_slice a7.out; subst F2; obtain ⟨q7, q8, C1⟩ := Kd.R_slice b0.out; subst C1) | ((with_reducible refine gc_ 56 rfl ?_); refine gl_ (some 35) rfl Try.func56 #[.int .i64 b1, .slice D9 a8.length E0, .slice q7 a6.length q8, .int .i64 b2] ?_; (with_reducible refine (impl_Clears.calls k b1 _ _ a8 _ _ a6 b2 a5 d6 _ ?a3 ?a4 ?b4 ?b5 A5.out).mono ?_); (case a3 => exact cw_ (rr_ a7)); (case a4 => exact (Kd.R_reads' a7.out).2.1); (case b4 => exact cw_ (rr_ b0)); (case b5 => exact (Kd.R_reads' b0.out).2.1); rintro e B7 ⟨rfl, hb⟩; refine ⟨_, rfl, ?_⟩; replace a7 := rb_ a7 hb; replace b0 := rb_ b0 hb; replace HB := bp_ HB hb; (try clear hb); (try clear n2); (try clear hk); (try clear hi)) | ((with_reducible refine gc_ 53 rfl ?_); refine gl_ (some 43) rfl Try.func53 #[.int .i64 b1, .slice D9 a8.length E0, .slice q7 a6.length q8, .int .i64 b2] ?_; (with_reducible refine (spec_Clears.calls k b1 _ _ a8 _ _ a6 b2 n1 g3 _ ?a3 ?a4 ?b4 ?b5 A6.out).mono ?_); (case a3 => exact cw_ (rr_ a7)); (case a4 => exact (Kd.R_reads' a7.out).2.1); (case b4 => exact cw_ (rr_ b0)); (case b5 => exact (Kd.R_reads' b0.out).2.1); rintro e w' ⟨rfl, ⟨nd, rfl⟩⟩; refine ⟨_, rfl, ?_⟩))
   go_ret
   exact ⟨re_, hw_ HB⟩
  ·rw [if_neg c7] at H
   have o0 : (d6 != g3) = false := by simpa using c7
   (try (have B9 : decide (d6 = g3) = true := by simpa using c7))
   (try (have C0 : (d6 == g3) = true := by simpa using c7))
   clear c7; replace H := Option.bind_eq_some_iff.mp H; obtain ⟨⟨q9, g4⟩, s0, H⟩ := H; (try dsimp only at H); have F3 := mk_ s0; clear s0; replace H := Option.bind_eq_some_iff.mp H; obtain ⟨⟨C2, g9⟩, s1, H⟩ := H; (try dsimp only at H); have F4 := mk_ s1; clear s1; have o5 := mk_ H; clear H
   go_enter Try.func12, Try.ntmps12
   go_upto_region 10 with (first | ((with_reducible refine gc_ 30 rfl ?_); refine gl_ (some 22) rfl Try.func30 #[.slice A0 l0.length c0] ?_; (with_reducible refine (laws_big.calls _ _ l0 false _ ?a3 ?a4 A2.out).mono ?_); (case a3 => exact cw_ q4.out); (case a4 => exact q5.out); rintro e w' ⟨rfl, ⟨nd, rfl⟩⟩; refine ⟨_, rfl, ?_⟩) | ((with_reducible refine gc_ 59 rfl ?_); refine gl_ (some 25) rfl Try.func59 #[.slice A0 l0.length c0] ?_; (with_reducible refine (spec_DrawClears.calls k _ _ l0 b1 a8 a6 b2 _ ?a3 ?a4 A4.out).mono ?_); (case a3 => exact cw_ q4.out); (case a4 => exact q5.out); rintro e G0 ⟨v291, v293, rfl, l8, q6, hb⟩; refine ⟨_, rfl, ?_⟩; have a7 := mk_ (Kd.R_lower l8 (below_size (hw_ HB))); have b0 := mk_ (Kd.R_lower q6 (below_size (hw_ HB))); replace HB := hk_ HB hb; (try clear hb); (try clear n2); (try clear hk); (try clear hi); (try clear l8); (try clear q6); obtain ⟨g1, g2, C3⟩ := Kd.R_slice a7.out; subst C3; obtain ⟨d0, c2, C4⟩ := Kd.R_slice b0.out; subst C4) | ((with_reducible refine gc_ 56 rfl ?_); refine gl_ (some 35) rfl Try.func56 #[.int .i64 b1, .slice g1 a8.length g2, .slice d0 a6.length c2, .int .i64 b2] ?_; (with_reducible refine (impl_Clears.calls k b1 _ _ a8 _ _ a6 b2 a5 d6 _ ?a3 ?a4 ?b4 ?b5 A5.out).mono ?_); (case a3 => exact cw_ (rr_ a7)); (case a4 => exact (Kd.R_reads' a7.out).2.1); (case b4 => exact cw_ (rr_ b0)); (case b5 => exact (Kd.R_reads' b0.out).2.1); rintro e G1 ⟨rfl, hb⟩; refine ⟨_, rfl, ?_⟩; replace a7 := rb_ a7 hb; replace b0 := rb_ b0 hb; replace HB := bp_ HB hb; (try clear hb); (try clear n2); (try clear hk); (try clear hi)) | ((with_reducible refine gc_ 53 rfl ?_); refine gl_ (some 43) rfl Try.func53 #[.int .i64 b1, .slice g1 a8.length g2, .slice d0 a6.length c2, .int .i64 b2] ?_; (with_reducible refine (spec_Clears.calls k b1 _ _ a8 _ _ a6 b2 n1 g3 _ ?a3 ?a4 ?b4 ?b5 A6.out).mono ?_); (case a3 => exact cw_ (rr_ a7)); (case a4 => exact (Kd.R_reads' a7.out).2.1); (case b4 => exact cw_ (rr_ b0)); (case b5 => exact (Kd.R_reads' b0.out).2.1); rintro e w' ⟨rfl, ⟨nd, rfl⟩⟩; refine ⟨_, rfl, ?_⟩) | ((with_reducible refine gc_ 60 rfl ?_); refine gl_ (some 52) rfl Try.func60 #[.int .i64 b1, .slice g1 a8.length g2] ?_; (with_reducible refine (impl_Climbs.calls k b1 _ _ a8 q9 g4 _ ?a3 ?a4 F3.out).mono ?_); (case a3 => exact cw_ (rr_ a7)); (case a4 => exact (Kd.R_reads' a7.out).2.1); rintro e G2 ⟨v301, rfl, l8, hb⟩; refine ⟨_, rfl, ?_⟩; replace a7 := rk_ a7 hb; replace b0 := rk_ b0 hb; have l7 := mk_ (Kd.R_lower l8 (below_size (hw_ HB))); replace HB := hk_ HB hb; (try clear hb); (try clear n2); (try clear hk); (try clear hi); (try clear l8)) | ((with_reducible refine gc_ 61 rfl ?_); refine gl_ (some 58) rfl Try.func61 #[.int .i64 b1, .slice g1 a8.length g2] ?_; (with_reducible refine (spec_Climbs.calls k b1 _ _ a8 C2 g9 _ ?a3 ?a4 F4.out).mono ?_); (case a3 => exact cw_ (rr_ a7)); (case a4 => exact (Kd.R_reads' a7.out).2.1); rintro e G3 ⟨v305, rfl, l8, hb⟩; refine ⟨_, rfl, ?_⟩; replace a7 := rb_ a7 hb; replace b0 := rb_ b0 hb; have E1 := mk_ (Kd.R_lower (Kd.R_new' l8 (Kd.R_lt (by exact l7.out))) (below_size (by exact HB.out))); replace l7 := mk_ (Kd.R_elder' (by exact l7.out) (Kd.R_base l8) hb); replace HB := bp_ HB hb; (try clear hb); (try clear n2); (try clear hk); (try clear hi); (try clear l8)))
   (try simp only [Act.put, List.setIfInBounds_toArray, List.set_cons_zero, List.set_cons_succ])
   go_cut [73] (fun v73 wc => ∃ (kq : Nat) (h2 : Bool), v73 = .bool h2 ∧ Aside0 (laws_FnClears.j0 kq b1 a8 a6 b2 a5 d6 n1 h2 = some r) ∧ Aside0 (kq ≤ k) ∧ Aside0 (Kd.R k137 137 wc w.heap.size (fun _ => True) (.slice g1 a8.length g2) a8) ∧ Aside0 (Kd.R k134 134 wc w.heap.size (fun _ => True) (.slice d0 a6.length c2) a6) ∧ Aside0 (Below w.heap.size w wc))
   case first =>
    have H := o5.out; clear o5; by_cases m7 : (g4 != g9) = true
    ·rw [if_pos m7] at H
     have j6 : (g4 != g9) = true := m7
     (try (have s2 : decide (g4 = g9) = false := by simpa using m7))
     (try (have s3 : (g4 == g9) = false := by simpa using m7))
     (try (have E2 : ¬ (g4 = g9) := by simpa using m7))
     clear m7
     (first | rw [j6] | (simp only [i64_w, i32_w]; rw [j6]) | skip)
     have H' := mk_ H
     clear H; go_wp2; go_meet
     case rel => exact ⟨_, (true), rf_, H', ⟨by first | omega | exact Nat.le_refl _⟩, kw_ a7, kw_ b0, ⟨hw_ HB⟩⟩
    ·rw [if_neg m7] at H
     have j6 : (g4 != g9) = false := by simpa using m7
     (try (have s2 : decide (g4 = g9) = true := by simpa using m7))
     (try (have s3 : (g4 == g9) = true := by simpa using m7))
     clear m7
     (first | rw [j6] | (simp only [i64_w, i32_w]; rw [j6]) | skip)
     by_cases B3 : g4 = true
     ·subst B3; rw [if_pos rfl] at H
      have H' := mk_ H
      clear H; obtain ⟨F5, F6, C5⟩ := Kd.R_slice l7.out; subst C5; go_wp2; go_meet
      case rel => exact ⟨_, (((q9.length : Int) != (a8.length : Int))), rf_, H', ⟨by first | omega | exact Nat.le_refl _⟩, kw_ a7, kw_ b0, ⟨hw_ HB⟩⟩
     ·replace B3 := Bool.eq_false_iff.mpr B3; subst B3; rw [if_neg (show ¬ (false = true) by decide)] at H
      have H' := mk_ H
      clear H; go_wp2; go_meet
      case rel => exact ⟨_, (false), rf_, H', ⟨by first | omega | exact Nat.le_refl _⟩, kw_ a7, kw_ b0, ⟨hw_ HB⟩⟩
   case rest =>
    clear o5; (try clear c3); (try clear c7)
    obtain ⟨kq, h2, rfl, HA, h3, b6, b7, HB⟩ := hcut
    cases kq with
    | zero => exact absurd HA.out (by simp [laws_FnClears.j0])
    | succ kj13 =>
     have H := HA.out; clear HA
     simp only [laws_FnClears.j0] at H
     by_cases o6 : h2 = true
     ·subst o6; rw [if_pos rfl] at H
      obtain rfl := Option.some.inj H; go_wp2
      go_ret
      exact ⟨re_, hw_ HB⟩
     ·replace o6 := Bool.eq_false_iff.mpr o6; subst o6; rw [if_neg (show ¬ (false = true) by decide)] at H; have o7 := mk_ H; clear H
      go_upto_region 12 with (fail)
      go_cut [79] (fun v79 wc => ∃ (kq : Nat) (h4 : Bool), v79 = .bool h4 ∧ Aside0 (laws_FnClears.j1 kq b1 a8 a6 b2 a5 n1 h4 = some r) ∧ Aside0 (kq ≤ kj13) ∧ Aside0 (Kd.R k137 137 wc w.heap.size (fun _ => True) (.slice g1 a8.length g2) a8) ∧ Aside0 (Kd.R k134 134 wc w.heap.size (fun _ => True) (.slice d0 a6.length c2) a6) ∧ Aside0 (Below w.heap.size w wc))
      case first =>
       have H := o7.out; clear o7; by_cases B4 : d6 = true
       ·subst B4; rw [if_pos rfl] at H
        have H' := mk_ H
        clear H; go_wp2; go_meet
        case rel => exact ⟨_, ((b2 == 0)), rf_, H', ⟨by have := h3.out; first | omega | exact Nat.le_refl _⟩, kw_ b6, kw_ b7, ⟨hw_ HB⟩⟩
       ·replace B4 := Bool.eq_false_iff.mpr B4; subst B4; rw [if_neg (show ¬ (false = true) by decide)] at H
        have H' := mk_ H
        clear H; go_wp2; go_meet
        case rel => exact ⟨_, (true), rf_, H', ⟨by have := h3.out; first | omega | exact Nat.le_refl _⟩, kw_ b6, kw_ b7, ⟨hw_ HB⟩⟩
      case rest =>
       clear o7; (try clear c3); (try clear c7); (try clear o6)
       obtain ⟨kq, h4, rfl, HA, l6, b6, b7, HB⟩ := hcut
       cases kq with
       | zero => exact absurd HA.out (by simp [laws_FnClears.j1])
       | succ kj24 =>
        have H := HA.out; clear HA
        simp only [laws_FnClears.j1] at H
        by_cases p6 : h4 = true
        ·subst p6; rw [if_pos rfl] at H
         obtain rfl := Option.some.inj H; go_wp2
         go_ret
         exact ⟨re_, hw_ HB⟩
        ·replace p6 := Bool.eq_false_iff.mpr p6; subst p6; rw [if_neg (show ¬ (false = true) by decide)] at H; replace H := Option.bind_eq_some_iff.mp H; obtain ⟨⟨c5, s4⟩, s5, H⟩ := H; (try dsimp only at H); have E3 := mk_ s5; clear s5; by_cases n3 : a5 = (-1)
         ·rw [if_pos n3] at H; have s6 : (a5 == (-1)) = true := beq_iff_eq.mpr n3; have s7 : (a5 != (-1)) = false := bne_eq_false_iff_eq.mpr n3; clear n3; obtain rfl := Option.some.inj H
          go_wp2_with (first | ((with_reducible refine gc_ 56 rfl ?_); refine gl_ (some 89) rfl Try.func56 #[.int .i64 b1, .slice g1 a8.length g2, .slice d0 a6.length c2, .int .i64 (wrap64 (b2 - 1))] ?_; (with_reducible refine (impl_Clears.calls kj24 b1 _ _ a8 _ _ a6 (wrap64 (b2 - 1)) c5 s4 _ ?a3 ?a4 ?b4 ?b5 E3.out).mono ?_); (case a3 => exact cw_ (rr_ b6)); (case a4 => exact (Kd.R_reads' b6.out).2.1); (case b4 => exact cw_ (rr_ b7)); (case b5 => exact (Kd.R_reads' b7.out).2.1); rintro e G4 ⟨rfl, hb⟩; refine ⟨_, rfl, ?_⟩; replace b6 := rb_ b6 hb; replace b7 := rb_ b7 hb; replace HB := bp_ HB hb; (try clear hb); (try clear n2); (try clear hk); (try clear hi)))
          go_ret
          exact ⟨re_, hw_ HB⟩
         ·rw [if_neg n3] at H; have s6 : (a5 == (-1)) = false := beq_eq_false_iff_ne.mpr n3; have s7 : (a5 != (-1)) = true := bne_iff_ne.mpr n3; have o8 := mk_ H; clear H
          go_upto_region 17 with (first | ((with_reducible refine gc_ 56 rfl ?_); refine gl_ (some 89) rfl Try.func56 #[.int .i64 b1, .slice g1 a8.length g2, .slice d0 a6.length c2, .int .i64 (wrap64 (b2 - 1))] ?_; (with_reducible refine (impl_Clears.calls kj24 b1 _ _ a8 _ _ a6 (wrap64 (b2 - 1)) c5 s4 _ ?a3 ?a4 ?b4 ?b5 E3.out).mono ?_); (case a3 => exact cw_ (rr_ b6)); (case a4 => exact (Kd.R_reads' b6.out).2.1); (case b4 => exact cw_ (rr_ b7)); (case b5 => exact (Kd.R_reads' b7.out).2.1); rintro e G5 ⟨rfl, hb⟩; refine ⟨_, rfl, ?_⟩; replace b6 := rb_ b6 hb; replace b7 := rb_ b7 hb; replace HB := bp_ HB hb; (try clear hb); (try clear n2); (try clear hk); (try clear hi)))
          (try simp only [Act.put, List.setIfInBounds_toArray, List.set_cons_zero, List.set_cons_succ])
          go_cut [103] (fun v103 wc => ∃ (kq : Nat) (d7 : Bool), v103 = .bool d7 ∧ Aside0 (laws_FnClears.j2 kq b1 a8 a6 b2 a5 c5 d7 = some r) ∧ Aside0 (kq ≤ kj24) ∧ Aside0 (Kd.R k137 137 wc w.heap.size (fun _ => True) (.slice g1 a8.length g2) a8) ∧ Aside0 (Kd.R k134 134 wc w.heap.size (fun _ => True) (.slice d0 a6.length c2) a6) ∧ Aside0 (Below w.heap.size w wc))
          case first =>
           have H := o8.out; clear o8; by_cases p7 : a5 < 0
           ·rw [if_pos p7] at H; have j7 : decide (a5 < 0) = true := decide_eq_true p7; clear p7
            (first | rw [j7] | (simp only [i64_w, i32_w]; rw [j7]) | skip)
            have H' := mk_ H
            clear H; go_wp2; go_meet
            case rel => exact ⟨_, (true), rf_, H', ⟨by have := h3.out; have := l6.out; first | omega | exact Nat.le_refl _⟩, kw_ b6, kw_ b7, ⟨hw_ HB⟩⟩
           ·rw [if_neg p7] at H; have j7 : decide (a5 < 0) = false := decide_eq_false p7; clear p7
            (first | rw [j7] | (simp only [i64_w, i32_w]; rw [j7]) | skip)
            have H' := mk_ H
            clear H; go_wp2; go_meet
            case rel => exact ⟨_, (decide (a5 ≥ (a6.length : Int))), rf_, H', ⟨by have := h3.out; have := l6.out; first | omega | exact Nat.le_refl _⟩, kw_ b6, kw_ b7, ⟨hw_ HB⟩⟩
          case rest =>
           clear o8; (try clear c3); (try clear c7); (try clear o6); (try clear p6); (try clear n3)
           obtain ⟨kq, d7, rfl, HA, m8, b6, b7, HB⟩ := hcut
           cases kq with
           | zero => exact absurd HA.out (by simp [laws_FnClears.j2])
           | succ kj30 =>
            have H := HA.out; clear HA
            simp only [laws_FnClears.j2] at H
            by_cases s8 : d7 = true
            ·subst s8; rw [if_pos rfl] at H
             obtain rfl := Option.some.inj H; go_wp2
             go_ret
             exact ⟨re_, hw_ HB⟩
            ·replace s8 := Bool.eq_false_iff.mpr s8; subst s8; rw [if_neg (show ¬ (false = true) by decide)] at H; by_cases p8 : 0 ≤ a5
             ·rw [if_pos p8] at H
              have s9 := eq_true p8
              have t0 : decide (0 ≤ a5) = true := decide_eq_true p8; clear p8; by_cases p9 : a5 ≤ (a6.length : Int)
              ·rw [if_pos p9] at H
               have t1 := eq_true p9
               have t2 : decide (a5 ≤ (a6.length : Int)) = true := decide_eq_true p9; clear p9
               obtain ⟨m9, j8⟩ : ∃ y_ : List (S134), y_ = (a6.take (a5 : Int).toNat) := ⟨_, rfl⟩
               replace H : ((impl_Clears.f kj30 b1 a8 m9 b2).bind fun j5 => (if a5 ≤ (wrap64 (a5 + 1)) then (if (wrap64 (a5 + 1)) ≤ (a6.length : Int) then ((impl_Clears.f kj30 b1 a8 ((a6.take ((wrap64 (a5 + 1)) : Int).toNat).drop (a5 : Int).toNat) b2).bind fun d3 => (if c5 = (-1) then (if j5.1 = (-1) then (laws_FnClears.j3 kj30 (d3.1 == 0)) else (laws_FnClears.j3 kj30 false)) else (if c5 ≥ a5 then (if j5.1 = (-1) then (laws_FnClears.j3 kj30 (d3.1 == 0)) else (laws_FnClears.j3 kj30 false)) else (laws_FnClears.j3 kj30 false)))) else (none)) else (none))) = some r := by first | (rw [j8]; with_reducible exact H) | (have H2_ := (Option.bind_some _ _).symm.trans H; rw [j8]; with_reducible exact H2_) | (have H2_ := (Option.bind_some _ _).symm.trans H; with_reducible exact H2_) | with_reducible exact H | (rw [j8]; exact H) | exact H
               have n6 := mk_ j8; clear j8; replace H := Option.bind_eq_some_iff.mp H; obtain ⟨⟨d2, C6⟩, t3, H⟩ := H; (try dsimp only at H); have F7 := mk_ t3; clear t3
               have t4 := eq_true (od_ : 0 ≤ a5)
               by_cases t5 : a5 ≤ (wrap64 (a5 + 1))
               ·rw [if_pos t5] at H
                have t6 := eq_true t5
                have t7 : decide (a5 ≤ (wrap64 (a5 + 1))) = true := decide_eq_true t5; by_cases t8 : (wrap64 (a5 + 1)) ≤ (a6.length : Int)
                ·rw [if_pos t8] at H
                 have E4 := eq_true t8
                 have E5 : decide ((wrap64 (a5 + 1)) ≤ (a6.length : Int)) = true := decide_eq_true t8
                 obtain ⟨j9, l2⟩ : ∃ y_ : List (S134), y_ = ((a6.take ((wrap64 (a5 + 1)) : Int).toNat).drop (a5 : Int).toNat) := ⟨_, rfl⟩
                 replace H : ((impl_Clears.f kj30 b1 a8 j9 b2).bind fun d3 => (if c5 = (-1) then (if d2 = (-1) then (laws_FnClears.j3 kj30 (d3.1 == 0)) else (laws_FnClears.j3 kj30 false)) else (if c5 ≥ a5 then (if d2 = (-1) then (laws_FnClears.j3 kj30 (d3.1 == 0)) else (laws_FnClears.j3 kj30 false)) else (laws_FnClears.j3 kj30 false)))) = some r := by first | (rw [l2]; with_reducible exact H) | (have H2_ := (Option.bind_some _ _).symm.trans H; rw [l2]; with_reducible exact H2_) | (have H2_ := (Option.bind_some _ _).symm.trans H; with_reducible exact H2_) | with_reducible exact H | (rw [l2]; exact H) | exact H
                 have n7 := mk_ l2; clear l2; replace H := Option.bind_eq_some_iff.mp H; obtain ⟨⟨o9, C7⟩, t9, H⟩ := H; (try dsimp only at H); have F8 := mk_ t9; clear t9; have p0 := mk_ H; clear H
                 have C8 : (a5 : Int) ≤ ((a6.length : Int) : Int) := od_
                 obtain ⟨i043, n8, _, hsz43, _⟩ := info_parts info134
                 have hroom43 : a6.length ≤ c2 := (Kd.R_reads' b7.out).2.1
                 have hC43 : Kd.C k134 _ d0 a6.length a6 := (rr_ b7)
                 have hcut43 := cut_to (P := Try.prog) 93 134 .i64 Try.underlying93 n8 d0 a6.length c2 a5 (od_) C8 hroom43
                 have hr43 := Kd.C_take (m := (a5 : Int).toNat) hC43 (by omega)
                 have p1 : m9.length = (a5 : Int).toNat := (by rw [n6.out, List.length_take]; omega)
                 rw [← n6.out] at hr43
                 rw [← p1] at hcut43
                 have d4 := mk_ hr43; have y8 := mk_ (show m9.length ≤ c2 from by omega); clear hr43 hC43 hroom43 n8 hsz43; have KY43 := mk_ p1; clear p1; have KL43 := mk_ (show (a5 : Int).toNat ≤ a6.length from by omega); replace C8 := eq_true C8
                 go_upto_region 21 with (first | ((with_reducible refine gc_ 56 rfl ?_); refine gl_ (some 111) rfl Try.func56 #[.int .i64 b1, .slice g1 a8.length g2, .slice d0 m9.length c2, .int .i64 b2] ?_; (with_reducible refine (impl_Clears.calls kj30 b1 _ _ a8 _ _ m9 b2 d2 C6 _ ?a3 ?a4 ?b4 ?b5 F7.out).mono ?_); (case a3 => exact cw_ (rr_ b6)); (case a4 => exact (Kd.R_reads' b6.out).2.1); (case b4 => repeat (first | exact (by repeat (first | (with_reducible exact d4.out) | (with_reducible refine Kd.C_alloc ?_ _) | (with_reducible refine Kd.C_drewN ?_ _) | (with_reducible refine Kd.C_drew ?_) | exact d4.out)) | (with_reducible refine Kd.C_alloc ?_ _) | (with_reducible refine Kd.C_drewN ?_ _) | (with_reducible refine Kd.C_drew ?_))); (case b5 => exact y8.out); rintro e G6 ⟨rfl, hb⟩; refine ⟨_, rfl, ?_⟩; replace b6 := rb_ b6 hb; replace b7 := rb_ b7 hb; replace d4 := mk_ (Kd.C_below (by repeat (first | (with_reducible exact d4.out) | (with_reducible refine Kd.C_alloc ?_ _) | (with_reducible refine Kd.C_drewN ?_ _) | (with_reducible refine Kd.C_drew ?_) | exact d4.out)) hb); replace HB := bp_ HB hb; (try clear hb); (try clear n2); (try clear hk); (try clear hi); have C9 : ((wrap64 (a5 + 1)) : Int) ≤ ((a6.length : Int) : Int) := od_; obtain ⟨i045, n9, _, hsz45, _⟩ := info_parts info134; have hroom45 : a6.length ≤ c2 := (Kd.R_reads' b7.out).2.1; have hC45 : Kd.C k134 _ d0 a6.length a6 := (rr_ b7); have ql45 : (a5 : Int) ≤ ((wrap64 (a5 + 1)) : Int) := od_; have D0 : (0 : Int) ≤ (a5 : Int) := od_; have hcut45 := cut_mid (P := Try.prog) 93 134 .i64 .i64 Try.underlying93 n9 2 hsz45 d0 a6.length c2 a5 (wrap64 (a5 + 1)) D0 ql45 C9 hroom45; have hr45 := Kd.C_mid (lo := (a5 : Int).toNat) (hi := ((wrap64 (a5 + 1)) : Int).toNat) (c := c2) hC45 (by omega) (by omega) hroom45; obtain ⟨E6, hA45⟩ : ∃ A1, A1 = (if c2 = (a5 : Int).toNat then d0 else (d0 : Option Addr).map (·.add ((a5 : Int).toNat * 2))) := ⟨_, rfl⟩; obtain ⟨E7, hc45⟩ : ∃ c1, c1 = c2 - (a5 : Int).toNat := ⟨_, rfl⟩; have n4 : j9.length = ((wrap64 (a5 + 1)) : Int).toNat - (a5 : Int).toNat := (by rw [n7.out, List.length_drop, List.length_take] <;> omega); rw [show ((a6).take ((wrap64 (a5 + 1)) : Int).toNat).drop (a5 : Int).toNat = j9 from n7.out.symm] at hr45; replace hr45 : Kd.C k134 _ E6 j9.length j9 := (by rw [hA45]; exact hr45); rw [← n4, ← hA45, ← hc45] at hcut45; have l3 := mk_ hr45; have y9 := mk_ (show j9.length ≤ E7 from by rw [n4, hc45]; exact Nat.sub_le_sub_right (Nat.le_trans (by omega) hroom45) _); clear hr45 hC45 hroom45 n9 hsz45 hc45; have KY45 := mk_ n4; have KA45 := mk_ hA45; clear n4 hA45; have KL45 := mk_ (show ((wrap64 (a5 + 1)) : Int).toNat ≤ a6.length from by omega); have KM45 := mk_ (show (a5 : Int).toNat ≤ ((wrap64 (a5 + 1)) : Int).toNat from by omega); replace C9 := eq_true C9) | ((with_reducible refine gc_ 56 rfl ?_); refine gl_ (some 123) rfl Try.func56 #[.int .i64 b1, .slice g1 a8.length g2, .slice E6 j9.length E7, .int .i64 b2] ?_; (with_reducible refine (impl_Clears.calls kj30 b1 _ _ a8 _ _ j9 b2 o9 C7 _ ?a3 ?a4 ?b4 ?b5 F8.out).mono ?_); (case a3 => exact cw_ (rr_ b6)); (case a4 => exact (Kd.R_reads' b6.out).2.1); (case b4 => repeat (first | exact (by repeat (first | (with_reducible exact l3.out) | (with_reducible refine Kd.C_alloc ?_ _) | (with_reducible refine Kd.C_drewN ?_ _) | (with_reducible refine Kd.C_drew ?_) | exact l3.out)) | (with_reducible refine Kd.C_alloc ?_ _) | (with_reducible refine Kd.C_drewN ?_ _) | (with_reducible refine Kd.C_drew ?_))); (case b5 => exact y9.out); rintro e G7 ⟨rfl, hb⟩; refine ⟨_, rfl, ?_⟩; replace b6 := rb_ b6 hb; replace b7 := rb_ b7 hb; replace d4 := mk_ (Kd.C_below (by repeat (first | (with_reducible exact d4.out) | (with_reducible refine Kd.C_alloc ?_ _) | (with_reducible refine Kd.C_drewN ?_ _) | (with_reducible refine Kd.C_drew ?_) | exact d4.out)) hb); replace l3 := mk_ (Kd.C_below (by repeat (first | (with_reducible exact l3.out) | (with_reducible refine Kd.C_alloc ?_ _) | (with_reducible refine Kd.C_drewN ?_ _) | (with_reducible refine Kd.C_drew ?_) | exact l3.out)) hb); replace HB := bp_ HB hb; (try clear hb); (try clear n2); (try clear hk); (try clear hi)))
                 (try simp only [Act.put, List.setIfInBounds_toArray, List.set_cons_zero, List.set_cons_succ])
                 go_cut [2] (fun v2 wc => ∃ (kq : Nat) (n0 : Bool), v2 = .bool n0 ∧ Aside0 (laws_FnClears.j3 kq n0 = some r) ∧ Aside0 (kq ≤ kj30) ∧ Aside0 (Below w.heap.size w wc))
                 case first =>
                  have H := p0.out; clear p0; by_cases p2 : c5 = (-1)
                  ·rw [if_pos p2] at H; have l4 : (c5 == (-1)) = true := beq_iff_eq.mpr p2; have A7 : (c5 != (-1)) = false := bne_eq_false_iff_eq.mpr p2; clear p2
                   (first | rw [l4] | (simp only [i64_w, i32_w]; rw [l4]) | skip)
                   by_cases p3 : d2 = (-1)
                   ·rw [if_pos p3] at H; have A8 : (d2 == (-1)) = true := beq_iff_eq.mpr p3; have A9 : (d2 != (-1)) = false := bne_eq_false_iff_eq.mpr p3; clear p3
                    have H' := mk_ H
                    clear H; go_wp2; go_meet
                    case rel => exact ⟨_, ((o9 == 0)), rf_, H', ⟨by have := h3.out; have := l6.out; have := m8.out; first | omega | exact Nat.le_refl _⟩, ⟨hw_ HB⟩⟩
                   ·rw [if_neg p3] at H; have A8 : (d2 == (-1)) = false := beq_eq_false_iff_ne.mpr p3; have A9 : (d2 != (-1)) = true := bne_iff_ne.mpr p3
                    have H' := mk_ H
                    clear H; go_wp2; go_meet
                    case rel => exact ⟨_, (false), rf_, H', ⟨by have := h3.out; have := l6.out; have := m8.out; first | omega | exact Nat.le_refl _⟩, ⟨hw_ HB⟩⟩
                  ·rw [if_neg p2] at H; have l4 : (c5 == (-1)) = false := beq_eq_false_iff_ne.mpr p2; have A7 : (c5 != (-1)) = true := bne_iff_ne.mpr p2
                   (first | rw [l4] | (simp only [i64_w, i32_w]; rw [l4]) | skip)
                   by_cases q0 : c5 ≥ a5
                   ·rw [if_pos q0] at H; have B0 : decide (a5 ≤ c5) = true := decide_eq_true q0; clear q0; by_cases p4 : d2 = (-1)
                    ·rw [if_pos p4] at H; have B1 : (d2 == (-1)) = true := beq_iff_eq.mpr p4; have B2 : (d2 != (-1)) = false := bne_eq_false_iff_eq.mpr p4; clear p4
                     have H' := mk_ H
                     clear H; go_wp2; go_meet
                     case rel => exact ⟨_, ((o9 == 0)), rf_, H', ⟨by have := h3.out; have := l6.out; have := m8.out; first | omega | exact Nat.le_refl _⟩, ⟨hw_ HB⟩⟩
                    ·rw [if_neg p4] at H; have B1 : (d2 == (-1)) = false := beq_eq_false_iff_ne.mpr p4; have B2 : (d2 != (-1)) = true := bne_iff_ne.mpr p4
                     have H' := mk_ H
                     clear H; go_wp2; go_meet
                     case rel => exact ⟨_, (false), rf_, H', ⟨by have := h3.out; have := l6.out; have := m8.out; first | omega | exact Nat.le_refl _⟩, ⟨hw_ HB⟩⟩
                   ·rw [if_neg q0] at H; have B0 : decide (a5 ≤ c5) = false := decide_eq_false q0; clear q0
                    have H' := mk_ H
                    clear H; go_wp2; go_meet
                    case rel => exact ⟨_, (false), rf_, H', ⟨by have := h3.out; have := l6.out; have := m8.out; first | omega | exact Nat.le_refl _⟩, ⟨hw_ HB⟩⟩
                 case rest =>
                  clear p0; (try clear c3); (try clear c7); (try clear o6); (try clear p6); (try clear n3); (try clear s8); (try clear p8); (try clear s9); (try clear t0); (try clear p9); (try clear t1); (try clear t2); (try clear t4); (try clear t5); (try clear t6); (try clear t7); (try clear t8)
                  obtain ⟨kq, n0, rfl, HA, F9, HB⟩ := hcut
                  cases kq with
                  | zero => exact absurd HA.out (by simp [laws_FnClears.j3])
                  | succ kj41 =>
                   have H := HA.out; clear HA
                   simp only [laws_FnClears.j3] at H
                   obtain rfl := Option.some.inj H; go_wp2
                   go_ret
                   exact ⟨re_, hw_ HB⟩
                ·rw [if_neg t8] at H
                 exact absurd H (by simp)
               ·rw [if_neg t5] at H
                exact absurd H (by simp)
              ·rw [if_neg p9] at H
               exact absurd H (by simp)
             ·rw [if_neg p8] at H
              exact absurd H (by simp)

/-- THE ONE PURE STATEMENT of laws_FnClears: yours. -/
def laws_FnClears.Pure : Prop := ∀ (l0 : List Int), l0.length ≤ maxLen → l0.length * 1 ≤ 140737488351232 → (∀ x ∈ l0, (Lit.int .u8 x).wf = true) → ∃ k, laws_FnClears.f k l0 = some true
theorem laws_FnClears.walk (P : laws_FnClears.Pure) (a0 : Option Addr) (len0 cap0 : Nat) (z0 : List Int) (w : World) (w0 : (a0 = none ∧ len0 = 0 ∧ cap0 = 0 ∧ z0 = []) ∨ ∃ x, a0 = some x ∧ len0 ≤ cap0 ∧ cap0 ≤ maxLen ∧ z0.length = cap0 ∧ (∀ i, i < z0.length → w.cell? (x.add i) = some (.int .u8 (z0.getD i 0))) ∧ ∀ n ∈ z0, (Lit.int .u8 n).wf = true) (y0 : len0 * 1 ≤ 140737488351232) :
  Calls Try.prog 12 #[.slice a0 len0 cap0] w fun e w' => e = .returned (.bool true) ∧ Below w.heap.size w w' := by
 obtain ⟨l0, rfl, hr0, hm0, hw0, hc0⟩ := ReadsInt.ofRowC w0
 obtain ⟨k, h⟩ := P l0 hm0 y0 hw0
 refine (laws_FnClears.calls k _ _ l0 true w (Kd.C_of_reads (d := (0 : Int)) (h1 := fun _ => rfl) hr0) hc0 h).mono ?_
 rintro e w' ⟨rfl, hd⟩
 exact ⟨rfl, hd⟩

end Go.Proofs.Ytnphbpkpjinddaa.QFnClears
-- squeezed
