/- Lean functions that tell what the Go functions used by one law answer, and for each a proof that the Go code comes to just these answers; no condition. Printed by this session's own program over the kit's printer. -/
import Derived.Test.YtnphbpkpjinddaaWSq
import Derived.Test.YtnphbpkpjinddaaQFnClearsx0
import Derived.Test.YtnphbpkpjinddaaQFnClearsx1
namespace Go.Proofs.Ytnphbpkpjinddaa.QFnClears
open Go.RowKit Go.Proofs.YtnphbpkpjinddaaW.PrintWords Go.Proofs.YtnphbpkpjinddaaW.PrintLast Go.Proofs.YtnphbpkpjinddaaW.PrintMore
attribute [local go_sem] max2_int min2_int max_two min_two max_three min_three max_four min_four   -- for this text's walks alone
attribute [local go_sem high] go_eql go_neq go_lss go_leq go_gtr go_geq go_store   -- for this text's walks alone
set_option linter.unusedVariables false
set_option linter.unusedSimpArgs false

/-! ### impl_Climbs: function 60 -/
mutual
def impl_Climbs.j0 : Nat → Int → List (S137) → Bool → Option (List Int × Bool)
 | 0, _, _, _ => none
 | k + 1, x0, x1, t9 => if t9 = true then (some (([] : List Int), false)) else (impl_Climbs.l0 k x0 (([] : List Int)) x1 (x1.length : Int) 0)
def impl_Climbs.l0 : Nat → Int → List Int → List (S137) → Int → Int → Option (List Int × Bool)
 | 0, _, _, _, _, _ => none
 | k + 1, x0, x6, j7, s1, j2 => if j2 < s1 then (if 0 ≤ j2 then (if j2 < (j7.length : Int) then ((impl_in.f ((rd_T137 j7 j2).f0) (-100) 100).bind fun j3 => (if j3 = true then ((impl_in.f ((rd_T137 j7 j2).f1) 1 1000).bind fun d0 => (if d0 = true then (if x6.length < 17592186044416 then (impl_Climbs.l0 k (wrap64 (x0 + (wrap64 (((rd_T137 j7 j2).f0) * ((rd_T137 j7 j2).f1))))) (x6 ++ [wrap64 (x0 + (wrap64 (((rd_T137 j7 j2).f0) * ((rd_T137 j7 j2).f1))))]) j7 s1 (wrap64 (j2 + 1))) else (none)) else (some (([] : List Int), false)))) else (some (([] : List Int), false)))) else (none)) else (none)) else (some (x6, true))
end
def impl_Climbs.f (k : Nat) (a0 : Int) (l1 : List (S137)) : Option (List Int × Bool) := (impl_in.f a0 0 100000).bind fun g8 => (if g8 = true then (impl_Climbs.j0 k a0 l1 (decide ((l1.length : Int) > 12))) else (impl_Climbs.j0 k a0 l1 true))
theorem impl_Climbs.mono_l : ∀ k, (∀ y0 y1 y2, LeO (impl_Climbs.j0 k y0 y1 y2) (impl_Climbs.j0 (k + 1) y0 y1 y2)) ∧ (∀ y0 y1 y2 y3 y4, LeO (impl_Climbs.l0 k y0 y1 y2 y3 y4) (impl_Climbs.l0 (k + 1) y0 y1 y2 y3 y4))
 | 0 => ⟨fun _ _ _ r h => by simp [impl_Climbs.j0] at h, fun _ _ _ _ _ r h => by simp [impl_Climbs.l0] at h⟩
 | k + 1 => by
  obtain ⟨b3, l4⟩ := impl_Climbs.mono_l k
  refine ⟨?_, ?_⟩
  ·intro y0 y1 y2
   unfold impl_Climbs.j0
   repeat' first
   | (with_reducible exact b3 _ _ _)
   | (with_reducible exact l4 _ _ _ _ _)
   | (with_reducible exact LeO.refl _)
   | (with_reducible exact LeO.none _)
   | (with_reducible refine LeO.ite ?_ ?_)
   | (with_reducible refine LeO.bind ?_ (fun _ => ?_))
   | exact b3 _ _ _
   | exact l4 _ _ _ _ _
   | exact LeO.none _
   | refine LeO.ite ?_ ?_
   | refine LeO.bind ?_ (fun _ => ?_)
  ·intro y0 y1 y2 y3 y4
   unfold impl_Climbs.l0
   repeat' first
   | (with_reducible exact b3 _ _ _)
   | (with_reducible exact l4 _ _ _ _ _)
   | (with_reducible exact LeO.refl _)
   | (with_reducible exact LeO.none _)
   | (with_reducible refine LeO.ite ?_ ?_)
   | (with_reducible refine LeO.bind ?_ (fun _ => ?_))
   | exact b3 _ _ _
   | exact l4 _ _ _ _ _
   | exact LeO.none _
   | refine LeO.ite ?_ ?_
   | refine LeO.bind ?_ (fun _ => ?_)
theorem impl_Climbs.mono : ∀ a0 a1 k, LeO (impl_Climbs.f k a0 a1) (impl_Climbs.f (k + 1) a0 a1) := by
 intro a0 a1 k
 obtain ⟨b3, l4⟩ := impl_Climbs.mono_l k
 unfold impl_Climbs.f
 repeat' first
   | (with_reducible exact b3 _ _ _)
   | (with_reducible exact l4 _ _ _ _ _)
   | (with_reducible exact LeO.refl _)
   | (with_reducible exact LeO.none _)
   | (with_reducible refine LeO.ite ?_ ?_)
   | (with_reducible refine LeO.bind ?_ (fun _ => ?_))
   | exact b3 _ _ _
   | exact l4 _ _ _ _ _
   | exact LeO.none _
   | refine LeO.ite ?_ ?_
   | refine LeO.bind ?_ (fun _ => ?_)
set_option maxHeartbeats 8000000 in
set_option maxRecDepth 100000 in
theorem impl_Climbs.calls (k : Nat) (a0 : Int) (A1 : Option Addr) (c1 : Nat) (l1 : List (S137)) (r1 : List Int) (r2 : Bool) (w : World) (hr1 : Kd.C k137 w A1 l1.length l1) (hc1 : l1.length ≤ c1) (h : impl_Climbs.f k a0 l1 = some (r1, r2)) :
  Calls Try.prog 60 #[.int .i64 a0, .slice A1 l1.length c1] w fun e w' => ∃ v0_ : Value, e = .returned (.tuple #[v0_, .bool r2]) ∧ Kd.R (Kd.int .i64) 3 w' w.heap.size (fun _ => True) v0_ r1 ∧ Below w.heap.size w w' := by
 have j8 := Try.underlying137
 have b8 := mk_ hr1; have HC1 := mk_ hc1; clear hr1 hc1; have HB := mk_ (Below.refl w.heap.size w)
 have H : ((impl_in.f a0 0 100000).bind fun g8 => (if g8 = true then (impl_Climbs.j0 k a0 l1 (decide ((l1.length : Int) > 12))) else (impl_Climbs.j0 k a0 l1 true))) = some (r1, r2) := h
 clear h; have q0 := mk_ H; clear H
 go_enter Try.func60, Try.ntmps60
 go_upto_region 1 with (fail)
 go_cut [16] (fun v16 wc => ∃ (kq : Nat) (g5 : Bool), v16 = .bool g5 ∧ Aside0 (impl_Climbs.j0 kq a0 l1 g5 = some (r1, r2)) ∧ Aside0 (kq ≤ k) ∧ Aside0 (Below w.heap.size w wc))
 case first =>
  have H := q0.out; clear q0; replace H := Option.bind_eq_some_iff.mp H; obtain ⟨g8, s2, H⟩ := H
  replace H : (if g8 = true then (impl_Climbs.j0 k a0 l1 (decide ((l1.length : Int) > 12))) else (impl_Climbs.j0 k a0 l1 true)) = some (r1, r2) := H
  have A4 := mk_ s2; clear s2; by_cases c5 : g8 = true
  ·subst c5
   have H1 : (impl_Climbs.j0 k a0 l1 (decide ((l1.length : Int) > 12))) = some (r1, r2) := by rw [if_pos rfl] at H; exact H
   clear H
   have H := H1
   clear H1
   have H' := mk_ H
   clear H
   go_wp2_with (first | ((with_reducible refine gc_ 76 rfl ?_); refine gl_ (some 10) rfl Try.func76 #[.int .i64 a0, .int .i64 0, .int .i64 100000] ?_; (with_reducible refine (impl_in.calls a0 0 100000 true _ A4.out).mono ?_); rintro e w' ⟨rfl, ⟨nd, rfl⟩⟩; refine ⟨_, rfl, ?_⟩))
   go_meet
   case rel => exact ⟨_, (decide ((l1.length : Int) > 12)), rf_, H', ⟨by first | omega | exact Nat.le_refl _⟩, ⟨hw_ HB⟩⟩
  ·replace c5 := Bool.eq_false_iff.mpr c5; subst c5
   have H1 : (impl_Climbs.j0 k a0 l1 true) = some (r1, r2) := by rw [if_neg (show ¬ (false = true) by decide)] at H; exact H
   clear H
   have H := H1
   clear H1
   have H' := mk_ H
   clear H
   go_wp2_with (first | ((with_reducible refine gc_ 76 rfl ?_); refine gl_ (some 10) rfl Try.func76 #[.int .i64 a0, .int .i64 0, .int .i64 100000] ?_; (with_reducible refine (impl_in.calls a0 0 100000 false _ A4.out).mono ?_); rintro e w' ⟨rfl, ⟨nd, rfl⟩⟩; refine ⟨_, rfl, ?_⟩))
   go_meet
   case rel => exact ⟨_, (true), rf_, H', ⟨by first | omega | exact Nat.le_refl _⟩, ⟨hw_ HB⟩⟩
 case rest =>
  clear q0; (try clear c1)
  obtain ⟨kq, g5, rfl, HA, s3, HB⟩ := hcut
  cases kq with
  | zero => exact absurd HA.out (by simp [impl_Climbs.j0])
  | succ kj2 =>
   have H := HA.out; clear HA
   simp only [impl_Climbs.j0] at H
   by_cases c6 : g5 = true
   ·subst c6
    have H1 : (some (([] : List Int), false)) = some (r1, r2) := by rw [if_pos rfl] at H; exact H
    clear H
    have H := H1
    clear H1
    simp only [Option.some.injEq, Prod.mk.injEq] at H
    obtain ⟨rfl, rfl⟩ := H; go_wp2
    go_ret2
    exact ⟨_, re_, by first | exact Kd.R_nil _ _ _ _ _ | exact Kd.N_nil _ _ _ _ _ | exact Kd.V_nil _ _ _ _ _ | exact Kd.Q_nil _ _ _ _ _ | exact Kd.S_nil _ _ _ _ _, hw_ HB⟩
   ·replace c6 := Bool.eq_false_iff.mpr c6; subst c6
    have H1 : (impl_Climbs.l0 kj2 a0 (([] : List Int)) l1 (l1.length : Int) 0) = some (r1, r2) := by rw [if_neg (show ¬ (false = true) by decide)] at H; exact H
    clear H
    have H := H1
    clear H1
    obtain ⟨m3, d3⟩ : ∃ y_ : List Int, y_ = (([] : List Int)) := ⟨_, rfl⟩
    replace H : (impl_Climbs.l0 kj2 a0 m3 l1 (l1.length : Int) 0) = some (r1, r2) := by first | (rw [d3]; with_reducible exact H) | (have H2_ := (Option.bind_some _ _).symm.trans H; rw [d3]; with_reducible exact H2_) | (have H2_ := (Option.bind_some _ _).symm.trans H; with_reducible exact H2_) | with_reducible exact H | (rw [d3]; exact H) | exact H
    have j9 := mk_ d3; clear d3
    have H' := mk_ H
    clear H
    go_wp2_with (first | ((with_reducible refine gd_ 17 rfl ?_); (try (refine gate_guard (by rfl) ?_; dsimp only)); refine Kd.R_lit (Kd.int .i64) _ 3 ?hg (N := 17) ?hd (xs := ([] : List Int)) (inner := []) (ok := fun _ => True) (okp := fun _ => True) ?hr ?hp (fun _ hk => hk) trivial (Below.refl _ _) (Nat.le_refl _) (by simp) ?_; (case hd => rfl); (case hg => rfl); (case hr => exact hr_); (case hp => exact (Reps.none _ _)); intro v120 w7 m4 hb hg_ hnew_; clear hg_ hnew_; (first | rw [← j9.out] at m4 | (simp only [Int.reduceToNat] at m4; rw [← j9.out] at m4)); have m5 := mk_ (Kd.R_lower m4 (below_size (by exact HB.out))); replace HB := bp_ HB hb; clear hb m4))
    go_loopg [0, 6, 20] kj2 (fun kq v0 v6 v20 w' => ∃ (b0 : Int) (b2 : List Int) (a4 : Int), v0 = .int .i64 b0 ∧ v20 = .int .i64 a4 ∧ Aside0 (impl_Climbs.l0 kq b0 b2 l1 (l1.length : Int) a4 = some (r1, r2)) ∧ Aside0 (kq ≤ kj2) ∧ Aside0 (Kd.R (Kd.int .i64) 3 w' w.heap.size (fun _ => True) v6 b2) ∧ Aside0 (Below w.heap.size w w'))
    case atStart => exact ⟨(a0), (m3), (0), rf_, rf_, H', ⟨Nat.le_refl _⟩, kw_ m5, ⟨hw_ HB⟩⟩
    case round =>
     clear H'; (try clear c1); (try clear c6)
     obtain ⟨b0, b2, a4, rfl, rfl, HA, s4, b6, HB⟩ := hrel
     cases gk with
     | zero => exact absurd HA.out (by simp [impl_Climbs.l0])
     | succ k2 =>
      have H := HA.out; clear HA
      simp only [impl_Climbs.l0] at H
      by_cases c9 : a4 < (l1.length : Int)
      ·rw [if_pos c9] at H; have q1 : decide (a4 < (l1.length : Int)) = true := decide_eq_true c9; clear c9; by_cases o0 : 0 ≤ a4
       ·rw [if_pos o0] at H; have s5 : decide (0 ≤ a4) = true := decide_eq_true o0; clear o0; by_cases o1 : a4 < (l1.length : Int)
        ·rw [if_pos o1] at H; have s6 : decide (a4 < (l1.length : Int)) = true := decide_eq_true o1; clear o1; replace H := Option.bind_eq_some_iff.mp H; obtain ⟨j3, m6, H⟩ := H
         replace H : (if j3 = true then ((impl_in.f ((rd_T137 l1 a4).f1) 1 1000).bind fun d0 => (if d0 = true then (if b2.length < 17592186044416 then (impl_Climbs.l0 k2 (wrap64 (b0 + (wrap64 (((rd_T137 l1 a4).f0) * ((rd_T137 l1 a4).f1))))) (b2 ++ [wrap64 (b0 + (wrap64 (((rd_T137 l1 a4).f0) * ((rd_T137 l1 a4).f1))))]) l1 (l1.length : Int) (wrap64 (a4 + 1))) else (none)) else (some (([] : List Int), false)))) else (some (([] : List Int), false))) = some (r1, r2) := H
         have q2 := mk_ m6; clear m6; by_cases o2 : j3 = true
         ·subst o2
          have H1 : ((impl_in.f ((rd_T137 l1 a4).f1) 1 1000).bind fun d0 => (if d0 = true then (if b2.length < 17592186044416 then (impl_Climbs.l0 k2 (wrap64 (b0 + (wrap64 (((rd_T137 l1 a4).f0) * ((rd_T137 l1 a4).f1))))) (b2 ++ [wrap64 (b0 + (wrap64 (((rd_T137 l1 a4).f0) * ((rd_T137 l1 a4).f1))))]) l1 (l1.length : Int) (wrap64 (a4 + 1))) else (none)) else (some (([] : List Int), false)))) = some (r1, r2) := by rw [if_pos rfl] at H; exact H
          clear H
          have H := H1
          clear H1; replace H := Option.bind_eq_some_iff.mp H; obtain ⟨d0, m7, H⟩ := H
          replace H : (if d0 = true then (if b2.length < 17592186044416 then (impl_Climbs.l0 k2 (wrap64 (b0 + (wrap64 (((rd_T137 l1 a4).f0) * ((rd_T137 l1 a4).f1))))) (b2 ++ [wrap64 (b0 + (wrap64 (((rd_T137 l1 a4).f0) * ((rd_T137 l1 a4).f1))))]) l1 (l1.length : Int) (wrap64 (a4 + 1))) else (none)) else (some (([] : List Int), false))) = some (r1, r2) := H
          have s7 := mk_ m7; clear m7; by_cases o3 : d0 = true
          ·subst o3
           have H1 : (if b2.length < 17592186044416 then (impl_Climbs.l0 k2 (wrap64 (b0 + (wrap64 (((rd_T137 l1 a4).f0) * ((rd_T137 l1 a4).f1))))) (b2 ++ [wrap64 (b0 + (wrap64 (((rd_T137 l1 a4).f0) * ((rd_T137 l1 a4).f1))))]) l1 (l1.length : Int) (wrap64 (a4 + 1))) else (none)) = some (r1, r2) := by rw [if_pos rfl] at H; exact H
           clear H
           have H := H1
           clear H1; by_cases o4 : b2.length < 17592186044416
           ·rw [if_pos o4] at H; have LMc16 := mk_ o4; clear o4
            obtain ⟨m8, d4⟩ : ∃ y_ : List Int, y_ = (b2 ++ [wrap64 (b0 + (wrap64 (((rd_T137 l1 a4).f0) * ((rd_T137 l1 a4).f1))))]) := ⟨_, rfl⟩
            replace H : (impl_Climbs.l0 k2 (wrap64 (b0 + (wrap64 (((rd_T137 l1 a4).f0) * ((rd_T137 l1 a4).f1))))) m8 l1 (l1.length : Int) (wrap64 (a4 + 1))) = some (r1, r2) := by first | (rw [d4]; with_reducible exact H) | (have H2_ := (Option.bind_some _ _).symm.trans H; rw [d4]; with_reducible exact H2_) | (have H2_ := (Option.bind_some _ _).symm.trans H; with_reducible exact H2_) | with_reducible exact H | (rw [d4]; exact H) | exact H
            have m9 := mk_ d4; clear d4
            have H' := mk_ H
            clear H
            have b4 : 0 ≤ (a4 : Int) := od_
            have b5 : a4 < (l1.length : Int) := od_
            obtain ⟨l3, g9, a7, a8⟩ := at_T137 b8.out a4 b4 b5; cases g9
            replace a7 := (HB.out.cell (World.block_lt_of_cell? w _ a7)).trans a7
            replace a8 := (HB.out.cell (World.block_lt_of_cell? w _ a8)).trans a8
            replace b4 := eq_true b4; replace b5 := eq_true b5
            go_wp2_with (first | ((with_reducible refine gd_ 8 rfl ?_); (try (refine gate_guard (by rfl) ?_; dsimp only)); refine box_event ?hg (N := 8) ?hd (cs := #[.int .i64 0, .int .i64 0]) (t := 137) ?hr ?_; (case hd => rfl); (case hg => rfl); (case hr => exact hr_); intro d5 hg A5 hbox hb; replace b6 := rb_ b6 hb; have a9 := mk_ (hbox); have d6 := gb_ hg HB; replace HB := bp_ HB hb; have b7 := d6; clear hb hbox hg; have o5 := bc0_ a9; have o6 := bc1_ a9; have o7 := bf_ a9 0; have o8 := bf_ a9 1) | ((with_reducible refine gc_ 76 rfl ?_); refine gl_ (some 26) rfl Try.func76 #[.int .i64 ((rd_T137 l1 a4).f0), .int .i64 (-100), .int .i64 100] ?_; (with_reducible refine (impl_in.calls ((rd_T137 l1 a4).f0) (-100) 100 true _ q2.out).mono ?_); rintro e w' ⟨rfl, ⟨nd, rfl⟩⟩; refine ⟨_, rfl, ?_⟩) | (go_at_call 76; (with_reducible refine (impl_in.calls ((rd_T137 l1 a4).f1) 1 1000 true _ s7.out).mono ?_); rintro e w' ⟨rfl, ⟨nd, rfl⟩⟩) | ((with_reducible refine gate_builtin (b := .append) (xs := #[.tmp 41, .tmp 43]) rfl ?_); (try (refine gate_guard (by rfl) ?_; dsimp only)); at_builtin; refine Kd.R_append (Kd.int .i64) (w0 := w) w.heap.size rfl (.tmp 41) (.tmp 43) 22 3 (.int .i64 0) 8 rfl Try.underlying22 info3 rfl (by decide) (by omega) u6 b2 (wrap64 (b0 + (wrap64 (((rd_T137 l1 a4).f0) * ((rd_T137 l1 a4).f1))))) [.int .i64 (wrap64 (b0 + (wrap64 (((rd_T137 l1 a4).f0) * ((rd_T137 l1 a4).f1)))))] (fun _ => True) (fun _ => False) rfl (by first | (go_simp; done) | (go_simp; rfl)) ?aP (fun _ hk => hk.elim) ?aF ?aO ?aB ?aS ?aL ?_; (case aP => exact rfl); (case aB => exact (by repeat (first | (with_reducible first | exact HB.out | apply below_alloc | apply pw_below_drewN | apply below_drew1 | refine below_set ?_ b7.out) | exact HB.out))); (case aF => exact (fun _ _ => trivial)); (case aO => exact (by (with_reducible repeat (first | apply Kd.R_alloc | apply Kd.R_drewN | apply Kd.R_drew)); exact Kd.R_mono (Kd.R_far (p := ⟨d5, 1, none⟩) (Kd.R_far (p := ⟨d5, 0, none⟩) (Kd.R_types b6.out a9.out (by decide)) (fun _ hk => hk.2) (.int .i64 ((rd_T137 l1 a4).f0))) (fun _ hk => hk.2) (.int .i64 ((rd_T137 l1 a4).f1))) (fun _ hk => trivial))); (case aS => exact (below_size (by repeat (first | (with_reducible first | exact HB.out | apply below_alloc | apply pw_below_drewN | apply below_drew1 | refine below_set ?_ b7.out) | exact HB.out)))); (case aL => have := LMc16.out; omega); intro v127 A6 ho hb hg hat; rw [← m9.out] at ho; replace a9 := mk_ (blk_grown (g := d5) (o := .cells #[.int .i64 ((rd_T137 l1 a4).f0), .int .i64 ((rd_T137 l1 a4).f1)] 137 (0, 0)) (by (with_reducible repeat (first | refine blk_drewN ?_ _ | refine blk_drew ?_ | refine blk_alloc ?_ _)); refine blk_put (cs := #[.int .i64 ((rd_T137 l1 a4).f0), .int .i64 0]) ?_ 1 _ rfl; (with_reducible repeat (first | refine blk_drewN ?_ _ | refine blk_drew ?_ | refine blk_alloc ?_ _)); refine blk_put (cs := #[.int .i64 0, .int .i64 0]) ?_ 0 _ rfl; (with_reducible repeat (first | refine blk_drewN ?_ _ | refine blk_drew ?_ | refine blk_alloc ?_ _)); exact a9.out) hg (Kd.R_ne b6.out a9.out (by decide))); replace HB := mk_ (hb); have n0 := mk_ (ho); clear b6; clear ho hb hg hat))
            go_roundg k2
            case measure => have := s3.out; have := s4.out; omega
            case rel => exact ⟨(wrap64 (b0 + (wrap64 (((rd_T137 l1 a4).f0) * ((rd_T137 l1 a4).f1))))), (m8), (wrap64 (a4 + 1)), rf_, rf_, H', ⟨by have := s3.out; have := s4.out; omega⟩, kw_ n0, ⟨hw_ HB⟩⟩
           ·rw [if_neg o4] at H
            exact absurd H (by simp)
          ·replace o3 := Bool.eq_false_iff.mpr o3; subst o3
           have H1 : (some (([] : List Int), false)) = some (r1, r2) := by rw [if_neg (show ¬ (false = true) by decide)] at H; exact H
           clear H
           have H := H1
           clear H1
           simp only [Option.some.injEq, Prod.mk.injEq] at H
           obtain ⟨rfl, rfl⟩ := H
           have b4 : 0 ≤ (a4 : Int) := od_
           have b5 : a4 < (l1.length : Int) := od_
           obtain ⟨l3, g9, a7, a8⟩ := at_T137 b8.out a4 b4 b5; cases g9
           replace a7 := (HB.out.cell (World.block_lt_of_cell? w _ a7)).trans a7
           replace a8 := (HB.out.cell (World.block_lt_of_cell? w _ a8)).trans a8
           replace b4 := eq_true b4; replace b5 := eq_true b5
           go_wp2_with (first | ((with_reducible refine gd_ 8 rfl ?_); (try (refine gate_guard (by rfl) ?_; dsimp only)); refine box_event ?hg (N := 8) ?hd (cs := #[.int .i64 0, .int .i64 0]) (t := 137) ?hr ?_; (case hd => rfl); (case hg => rfl); (case hr => exact hr_); intro d5 hg A8 hbox hb; replace b6 := rb_ b6 hb; have a9 := mk_ (hbox); have d6 := gb_ hg HB; replace HB := bp_ HB hb; have b7 := d6; clear hb hbox hg; have o9 := bc0_ a9; have p2 := bc1_ a9; have p3 := bf_ a9 0; have p4 := bf_ a9 1) | ((with_reducible refine gc_ 76 rfl ?_); refine gl_ (some 26) rfl Try.func76 #[.int .i64 ((rd_T137 l1 a4).f0), .int .i64 (-100), .int .i64 100] ?_; (with_reducible refine (impl_in.calls ((rd_T137 l1 a4).f0) (-100) 100 true _ q2.out).mono ?_); rintro e w' ⟨rfl, ⟨nd, rfl⟩⟩; refine ⟨_, rfl, ?_⟩) | (go_at_call 76; (with_reducible refine (impl_in.calls ((rd_T137 l1 a4).f1) 1 1000 false _ s7.out).mono ?_); rintro e w' ⟨rfl, ⟨nd, rfl⟩⟩))
           go_ret2
           exact ⟨_, re_, by first | exact Kd.R_nil _ _ _ _ _ | exact Kd.N_nil _ _ _ _ _ | exact Kd.V_nil _ _ _ _ _ | exact Kd.Q_nil _ _ _ _ _ | exact Kd.S_nil _ _ _ _ _, by repeat (first | (with_reducible first | exact HB.out | apply below_alloc | apply pw_below_drewN | apply below_drew1 | refine below_set ?_ b7.out) | exact HB.out)⟩
         ·replace o2 := Bool.eq_false_iff.mpr o2; subst o2
          have H1 : (some (([] : List Int), false)) = some (r1, r2) := by rw [if_neg (show ¬ (false = true) by decide)] at H; exact H
          clear H
          have H := H1
          clear H1
          simp only [Option.some.injEq, Prod.mk.injEq] at H
          obtain ⟨rfl, rfl⟩ := H
          have b4 : 0 ≤ (a4 : Int) := od_
          have b5 : a4 < (l1.length : Int) := od_
          obtain ⟨l3, g9, a7, a8⟩ := at_T137 b8.out a4 b4 b5; cases g9
          replace a7 := (HB.out.cell (World.block_lt_of_cell? w _ a7)).trans a7
          replace a8 := (HB.out.cell (World.block_lt_of_cell? w _ a8)).trans a8
          replace b4 := eq_true b4; replace b5 := eq_true b5
          go_wp2_with (first | ((with_reducible refine gd_ 8 rfl ?_); (try (refine gate_guard (by rfl) ?_; dsimp only)); refine box_event ?hg (N := 8) ?hd (cs := #[.int .i64 0, .int .i64 0]) (t := 137) ?hr ?_; (case hd => rfl); (case hg => rfl); (case hr => exact hr_); intro d5 hg A9 hbox hb; replace b6 := rb_ b6 hb; have a9 := mk_ (hbox); have d6 := gb_ hg HB; replace HB := bp_ HB hb; have b7 := d6; clear hb hbox hg; have p5 := bc0_ a9; have p6 := bc1_ a9; have p7 := bf_ a9 0; have p8 := bf_ a9 1) | ((with_reducible refine gc_ 76 rfl ?_); refine gl_ (some 26) rfl Try.func76 #[.int .i64 ((rd_T137 l1 a4).f0), .int .i64 (-100), .int .i64 100] ?_; (with_reducible refine (impl_in.calls ((rd_T137 l1 a4).f0) (-100) 100 false _ q2.out).mono ?_); rintro e w' ⟨rfl, ⟨nd, rfl⟩⟩; refine ⟨_, rfl, ?_⟩))
          go_ret2
          exact ⟨_, re_, by first | exact Kd.R_nil _ _ _ _ _ | exact Kd.N_nil _ _ _ _ _ | exact Kd.V_nil _ _ _ _ _ | exact Kd.Q_nil _ _ _ _ _ | exact Kd.S_nil _ _ _ _ _, by repeat (first | (with_reducible first | exact HB.out | apply below_alloc | apply pw_below_drewN | apply below_drew1 | refine below_set ?_ b7.out) | exact HB.out)⟩
        ·rw [if_neg o1] at H
         exact absurd H (by simp)
       ·rw [if_neg o0] at H
        exact absurd H (by simp)
      ·rw [if_neg c9] at H; have q1 : decide (a4 < (l1.length : Int)) = false := decide_eq_false c9; clear c9
       simp only [Option.some.injEq, Prod.mk.injEq] at H
       obtain ⟨rfl, rfl⟩ := H; go_wp2
       go_ret2
       exact ⟨_, re_, by (with_reducible repeat (first | apply Kd.R_alloc | apply Kd.R_drewN | apply Kd.R_drew)); exact b6.out, hw_ HB⟩

/-! ### impl_heightAt: function 114 -/
def impl_heightAt.l0 : Nat → Int → Int → List (S137) → Int → Int → Option (Int)
 | 0, _, _, _, _, _ => none
 | k + 1, x0, x2, n1, s8, l5 => if l5 < s8 then (if 0 ≤ l5 then (if l5 < (n1.length : Int) then (impl_heightAt.l0 k (wrap64 (x0 + (wrap64 (((rd_T137 n1 l5).f0) * (mn x2 ((rd_T137 n1 l5).f1)))))) (wrap64 (x2 - (mn x2 ((rd_T137 n1 l5).f1)))) n1 s8 (wrap64 (l5 + 1))) else (none)) else (none)) else (some x0)
def impl_heightAt.f (k : Nat) (a0 : Int) (l1 : List (S137)) (a2 : Int) : Option (Int) := impl_heightAt.l0 k a0 a2 l1 (l1.length : Int) 0
theorem impl_heightAt.mono_l : ∀ k, (∀ y0 y1 y2 y3 y4, LeO (impl_heightAt.l0 k y0 y1 y2 y3 y4) (impl_heightAt.l0 (k + 1) y0 y1 y2 y3 y4))
 | 0 => fun _ _ _ _ _ r h => by simp [impl_heightAt.l0] at h
 | k + 1 => by
  have b3 := impl_heightAt.mono_l k
  ·intro y0 y1 y2 y3 y4
   unfold impl_heightAt.l0
   repeat' first
   | (with_reducible exact b3 _ _ _ _ _)
   | (with_reducible exact LeO.refl _)
   | (with_reducible exact LeO.none _)
   | (with_reducible refine LeO.ite ?_ ?_)
   | (with_reducible refine LeO.bind ?_ (fun _ => ?_))
   | exact b3 _ _ _ _ _
   | exact LeO.none _
   | refine LeO.ite ?_ ?_
   | refine LeO.bind ?_ (fun _ => ?_)
theorem impl_heightAt.mono : ∀ a0 a1 a2 k, LeO (impl_heightAt.f k a0 a1 a2) (impl_heightAt.f (k + 1) a0 a1 a2) := by
 intro a0 a1 a2 k
 have b3 := impl_heightAt.mono_l k
 unfold impl_heightAt.f
 repeat' first
   | (with_reducible exact b3 _ _ _ _ _)
   | (with_reducible exact LeO.refl _)
   | (with_reducible exact LeO.none _)
   | (with_reducible refine LeO.ite ?_ ?_)
   | (with_reducible refine LeO.bind ?_ (fun _ => ?_))
   | exact b3 _ _ _ _ _
   | exact LeO.none _
   | refine LeO.ite ?_ ?_
   | refine LeO.bind ?_ (fun _ => ?_)
set_option maxHeartbeats 8000000 in
set_option maxRecDepth 100000 in
theorem impl_heightAt.calls (k : Nat) (a0 : Int) (A1 : Option Addr) (c1 : Nat) (l1 : List (S137)) (a2 : Int) (r : Int) (w : World) (hr1 : Kd.C k137 w A1 l1.length l1) (hc1 : l1.length ≤ c1) (h : impl_heightAt.f k a0 l1 a2 = some r) :
  Calls Try.prog 114 #[.int .i64 a0, .slice A1 l1.length c1, .int .i64 a2] w fun e w' => e = .returned (.int .i64 r) ∧ Below w.heap.size w w' := by
 have j8 := Try.underlying137
 have b8 := mk_ hr1; have HC1 := mk_ hc1; clear hr1 hc1; have HB := mk_ (Below.refl w.heap.size w)
 have H : (impl_heightAt.l0 k a0 a2 l1 (l1.length : Int) 0) = some r := h
 clear h
 have H' := mk_ H
 clear H
 go_enter Try.func114, Try.ntmps114
 go_wp2
 go_loopg [0, 2, 12] k (fun kq v0 v2 v12 w' => ∃ (h4 : Int) (d7 : Int) (a6 : Int), v0 = .int .i64 h4 ∧ v2 = .int .i64 d7 ∧ v12 = .int .i64 a6 ∧ Aside0 (impl_heightAt.l0 kq h4 d7 l1 (l1.length : Int) a6 = some r) ∧ Aside0 (kq ≤ k) ∧ Aside0 (Below w.heap.size w w'))
 case atStart => exact ⟨(a0), (a2), (0), rf_, rf_, rf_, H', ⟨Nat.le_refl _⟩, ⟨hw_ HB⟩⟩
 case round =>
  clear H'; (try clear c1)
  obtain ⟨h4, d7, a6, rfl, rfl, rfl, HA, h5, HB⟩ := hrel
  cases gk with
  | zero => exact absurd HA.out (by simp [impl_heightAt.l0])
  | succ k1 =>
   have H := HA.out; clear HA
   simp only [impl_heightAt.l0] at H
   by_cases c4 : a6 < (l1.length : Int)
   ·rw [if_pos c4] at H; have j4 : decide (a6 < (l1.length : Int)) = true := decide_eq_true c4; clear c4; by_cases c5 : 0 ≤ a6
    ·rw [if_pos c5] at H; have y5 : decide (0 ≤ a6) = true := decide_eq_true c5; clear c5; by_cases c6 : a6 < (l1.length : Int)
     ·rw [if_pos c6] at H; have y6 : decide (a6 < (l1.length : Int)) = true := decide_eq_true c6; clear c6
      obtain ⟨n2, h6⟩ : ∃ j_ : Int, (mn d7 ((rd_T137 l1 a6).f1)) = j_ := ⟨_, rfl⟩
      replace H : (impl_heightAt.l0 k1 (wrap64 (h4 + (wrap64 (((rd_T137 l1 a6).f0) * (n2))))) (wrap64 (d7 - (n2))) l1 (l1.length : Int) (wrap64 (a6 + 1))) = some r := by first | (rw [h6] at H; exact H) | (simp only [h6] at H ⊢; exact H)
      have s9 : (if ((rd_T137 l1 a6).f1) < d7 then ((rd_T137 l1 a6).f1) else d7) = n2 := h6
      have H' := mk_ H
      clear H
      have l6 : 0 ≤ (a6 : Int) := od_
      have l7 : a6 < (l1.length : Int) := od_
      obtain ⟨t0, q3, b9, c8⟩ := at_T137 b8.out a6 l6 l7; cases q3
      replace b9 := (HB.out.cell (World.block_lt_of_cell? w _ b9)).trans b9
      replace c8 := (HB.out.cell (World.block_lt_of_cell? w _ c8)).trans c8
      replace l6 := eq_true l6; replace l7 := eq_true l7
      go_wp2_with (first | ((with_reducible refine gd_ 8 rfl ?_); refine box_event ?hg (N := 8) ?hd (cs := #[.int .i64 0, .int .i64 0]) (t := 137) ?hr ?_; (case hd => rfl); (case hg => rfl); (case hr => exact hr_); intro t4 hg w8 hbox hb; have g6 := mk_ (hbox); have n3 := gb_ hg HB; replace HB := bp_ HB hb; have n4 := n3; clear hb hbox hg; have q4 := bc0_ g6; have q5 := bc1_ g6; have q6 := bf_ g6 0; have q7 := bf_ g6 1))
      go_roundg k1
      case measure => have := h5.out; omega
      case rel => exact ⟨(wrap64 (h4 + (wrap64 (((rd_T137 l1 a6).f0) * (n2))))), (wrap64 (d7 - (n2))), (wrap64 (a6 + 1)), (by first | rfl | (simp; done) | (simp only [← h6] <;> (first | rfl | simp)) | (simp [*]; done)), (by first | rfl | (simp; done) | (simp only [← h6] <;> (first | rfl | simp)) | (simp [*]; done)), rf_, H', ⟨by have := h5.out; omega⟩, ⟨by repeat (first | (with_reducible first | exact HB.out | apply below_alloc | apply pw_below_drewN | apply below_drew1 | refine below_set ?_ n4.out) | exact HB.out)⟩⟩
     ·rw [if_neg c6] at H
      exact absurd H (by simp)
    ·rw [if_neg c5] at H
     exact absurd H (by simp)
   ·rw [if_neg c4] at H; have j4 : decide (a6 < (l1.length : Int)) = false := decide_eq_false c4; clear c4; obtain rfl := Option.some.inj H; go_wp2; go_ret
    exact ⟨re_, hw_ HB⟩

/-! ### impl_Clears: function 56, with what it hands to slices.IndexFunc (112) and slices.ContainsFunc (110) and its literals (111, 113); written by hand -/
def impl_Clears.in_ (a b c : Int) : Bool := if a ≥ b then decide (a ≤ c) else false
theorem impl_Clears.in_f (a b c : Int) : impl_in.f a b c = some (impl_Clears.in_ a b c) := by
 unfold impl_in.f impl_Clears.in_
 split <;> rfl
def impl_Clears.bad (p0 p1 : Int) : Bool := !(impl_Clears.in_ p0 0 12000) || !(impl_Clears.in_ p1 0 1000000)
def impl_Clears.l0 : Nat → List (S134) → Int → Option (Int)
 | 0, _, _ => none
 | k + 1, l, x => if x < (l.length : Int) then (if 0 ≤ x then (if impl_Clears.bad ((rd_T134 l x).f0) ((rd_T134 l x).f1) = true then (some x) else (impl_Clears.l0 k l (wrap64 (x + 1)))) else (none)) else (some (-1))
def impl_Clears.l1 : Nat → Int → List (S137) → Int → List (S134) → Int → Option (Int)
 | 0, _, _, _, _, _ => none
 | k + 1, s, q, m, l, x => if x < (l.length : Int) then (if 0 ≤ x then ((impl_heightAt.f k s q ((rd_T134 l x).f0)).bind fun t => (if decide (wrap64 (t - (rd_T134 l x).f1) < m) = true then (some x) else (impl_Clears.l1 k s q m l (wrap64 (x + 1))))) else (none)) else (some (-1))
def impl_Clears.go (ok : Bool) (i : Int) (n : Nat) (m : Int) : Bool := ok && (!decide (0 ≤ i)) && (!decide (20 < (n : Int))) && impl_Clears.in_ m 0 1000
def impl_Clears.f (k : Nat) (a0 : Int) (l1 : List (S137)) (l2 : List (S134)) (a3 : Int) : Option (Int × Bool) :=
 (impl_Clears.l0 k l2 0).bind fun i => (impl_Climbs.f k a0 l1).bind fun c => if impl_Clears.go c.2 i l2.length a3 = true then ((impl_Clears.l1 k a0 l1 a3 l2 0).bind fun j => some (j, true)) else some (-2, false)
theorem impl_Clears.mono_l0 : ∀ k, (∀ y0 y1, LeO (impl_Clears.l0 k y0 y1) (impl_Clears.l0 (k + 1) y0 y1))
 | 0 => fun _ _ r h => by simp [impl_Clears.l0] at h
 | k + 1 => by
  have b3 := impl_Clears.mono_l0 k
  ·intro y0 y1
   unfold impl_Clears.l0
   repeat' first
   | (with_reducible exact b3 _ _)
   | (with_reducible exact LeO.refl _)
   | (with_reducible exact LeO.none _)
   | (with_reducible refine LeO.ite ?_ ?_)
   | exact b3 _ _
   | exact LeO.none _
   | refine LeO.ite ?_ ?_
theorem impl_Clears.mono_l1 : ∀ k, (∀ y0 y1 y2 y3 y4, LeO (impl_Clears.l1 k y0 y1 y2 y3 y4) (impl_Clears.l1 (k + 1) y0 y1 y2 y3 y4))
 | 0 => fun _ _ _ _ _ r h => by simp [impl_Clears.l1] at h
 | k + 1 => by
  have b3 := impl_Clears.mono_l1 k
  ·intro y0 y1 y2 y3 y4
   unfold impl_Clears.l1
   repeat' first
   | (with_reducible exact b3 _ _ _ _ _)
   | (with_reducible exact impl_heightAt.mono _ _ _ _)
   | (with_reducible exact LeO.refl _)
   | (with_reducible exact LeO.none _)
   | (with_reducible refine LeO.ite ?_ ?_)
   | (with_reducible refine LeO.bind ?_ (fun _ => ?_))
   | exact b3 _ _ _ _ _
   | exact impl_heightAt.mono _ _ _ _
   | exact LeO.none _
   | refine LeO.ite ?_ ?_
   | refine LeO.bind ?_ (fun _ => ?_)
theorem impl_Clears.mono : ∀ a0 a1 a2 a3 k, LeO (impl_Clears.f k a0 a1 a2 a3) (impl_Clears.f (k + 1) a0 a1 a2 a3) := by
 intro a0 a1 a2 a3 k
 unfold impl_Clears.f
 refine LeO.bind (impl_Clears.mono_l0 _ _ _) (fun _ => ?_)
 refine LeO.bind (impl_Climbs.mono _ _ _) (fun _ => ?_)
 refine LeO.ite ?_ ?_
 ·exact LeO.bind (impl_Clears.mono_l1 _ _ _ _ _ _) (fun _ => LeO.refl _)
 ·exact LeO.refl _
set_option maxHeartbeats 8000000 in
set_option maxRecDepth 100000 in
theorem impl_Clears.lit (p0 p1 : Int) (w : World) :
  Calls Try.prog 111 #[.agg #[.int .i64 p0, .int .i64 p1]] w fun e w' => e = .returned (.bool (impl_Clears.bad p0 p1)) ∧ Below w.heap.size w w' := by
 have h7 := Try.underlying134
 have HB := mk_ (Below.refl w.heap.size w)
 have A1 := impl_Clears.in_f p0 0 12000
 have A2 := impl_Clears.in_f p1 0 1000000
 unfold impl_Clears.bad
 generalize impl_Clears.in_ p0 0 12000 = t1 at A1 ⊢
 generalize impl_Clears.in_ p1 0 1000000 = t2 at A2 ⊢
 have A1 := mk_ A1; have A2 := mk_ A2
 cases t1
 ·go_enter Try.func111, Try.ntmps111
  go_wp2_with (first | ((with_reducible refine gd_ 1 rfl ?_); refine box_event ?hg (N := 1) ?hd (cs := #[.int .i64 p0, .int .i64 p1]) (t := 134) ?hr ?_; (case hd => rfl); (case hg => rfl); (case hr => exact hr_); intro gb hgb w1 hbox hb; have BK := mk_ hbox; replace HB := bp_ HB hb; clear hbox hgb hb; have c0 := bc0_ BK; have c1 := bc1_ BK; have f0 := bf_ BK 0; have f1 := bf_ BK 1) | (go_at_call 76; (with_reducible refine (impl_in.calls p0 0 12000 false _ A1.out).mono ?_); rintro e w' ⟨rfl, ⟨nd, rfl⟩⟩))
  go_ret
  exact ⟨re_, hw_ HB⟩
 ·go_enter Try.func111, Try.ntmps111
  go_wp2_with (first | ((with_reducible refine gd_ 1 rfl ?_); refine box_event ?hg (N := 1) ?hd (cs := #[.int .i64 p0, .int .i64 p1]) (t := 134) ?hr ?_; (case hd => rfl); (case hg => rfl); (case hr => exact hr_); intro gb hgb w1 hbox hb; have BK := mk_ hbox; replace HB := bp_ HB hb; clear hbox hgb hb; have c0 := bc0_ BK; have c1 := bc1_ BK; have f0 := bf_ BK 0; have f1 := bf_ BK 1) | ((with_reducible refine gate_callee (f := 76) rfl ?_); refine goesL_ (some 5) rfl rfl Try.func76 (by kernel_rfl) rfl #[.int .i64 p0, .int .i64 0, .int .i64 12000] rfl (by (try simp only [List.map_toArray, List.map_cons, List.map_nil]); first | done | rfl) ?_; (with_reducible refine (impl_in.calls p0 0 12000 true _ A1.out).mono ?_); rintro e w' ⟨rfl, ⟨nd, rfl⟩⟩; refine ⟨_, rfl, ?_⟩) | (go_at_call 76; (with_reducible refine (impl_in.calls p1 0 1000000 t2 _ A2.out).mono ?_); rintro e w' ⟨rfl, ⟨nd, rfl⟩⟩))
  go_ret
  exact ⟨re_, hw_ HB⟩
set_option maxHeartbeats 8000000 in
set_option maxRecDepth 100000 in
theorem impl_Clears.index (k : Nat) (A0 : Option Addr) (c0 : Nat) (l0 : List (S134)) (r : Int) (w : World) (hr0 : Kd.C k134 w A0 l0.length l0) (hc0 : l0.length ≤ c0) (h : impl_Clears.l0 k l0 0 = some r) :
  Calls Try.prog 112 #[.slice A0 l0.length c0, .func (.func 111) #[] #[]] w fun e w' => e = .returned (.int .i64 r) ∧ Below w.heap.size w w' := by
 have h7 := Try.underlying134
 have j5 := mk_ hr0; have p9 := mk_ hc0; clear hr0 hc0; have HB := mk_ (Below.refl w.heap.size w)
 have H' := mk_ h
 clear h
 go_enter Try.func112, Try.ntmps112
 go_wp2
 go_loopg [8] k (fun kq v8 w' => ∃ (a5 : Int), v8 = .int .i64 a5 ∧ Aside0 (impl_Clears.l0 kq l0 a5 = some r) ∧ Aside0 (kq ≤ k) ∧ Aside0 (Below w.heap.size w w'))
 case atStart => exact ⟨(0), rf_, H', ⟨Nat.le_refl _⟩, ⟨hw_ HB⟩⟩
 case round =>
  clear H'
  obtain ⟨a5, rfl, HA, h5, HB⟩ := hrel
  cases gk with
  | zero => exact absurd HA.out (by simp [impl_Clears.l0])
  | succ k1 =>
   have H := HA.out; clear HA
   simp only [impl_Clears.l0] at H
   by_cases c3 : a5 < (l0.length : Int)
   ·rw [if_pos c3] at H; have h8 : decide (a5 < (l0.length : Int)) = true := decide_eq_true c3; clear c3; by_cases c4 : 0 ≤ a5
    ·rw [if_pos c4] at H; have j4 : decide (0 ≤ a5) = true := decide_eq_true c4; clear c4
     have d9 : 0 ≤ (a5 : Int) := od_
     have g4 : a5 < (l0.length : Int) := od_
     obtain ⟨ad, l8, l9, j6⟩ := at_T134 j5.out a5 d9 g4; cases l8
     replace l9 := (HB.out.cell (World.block_lt_of_cell? w _ l9)).trans l9
     replace j6 := (HB.out.cell (World.block_lt_of_cell? w _ j6)).trans j6
     replace d9 := eq_true d9; replace g4 := eq_true g4; by_cases c7 : impl_Clears.bad ((rd_T134 l0 a5).f0) ((rd_T134 l0 a5).f1) = true
     ·rw [if_pos c7] at H; obtain rfl := Option.some.inj H; have C7 := mk_ c7; clear c7
      go_wp2_with (first | (go_at_call 111; (with_reducible refine (impl_Clears.lit ((rd_T134 l0 a5).f0) ((rd_T134 l0 a5).f1) _).mono ?_); rintro e w8 ⟨rfl, hb⟩; rw [C7.out]; replace HB := bp_ HB hb; clear hb))
      go_ret
      exact ⟨re_, hw_ HB⟩
     ·rw [if_neg c7] at H; have C7 := mk_ (Bool.eq_false_iff.mpr c7); clear c7
      have H' := mk_ H
      clear H
      go_wp2_with (first | (go_at_call 111; (with_reducible refine (impl_Clears.lit ((rd_T134 l0 a5).f0) ((rd_T134 l0 a5).f1) _).mono ?_); rintro e w8 ⟨rfl, hb⟩; rw [C7.out]; replace HB := bp_ HB hb; clear hb))
      go_roundg k1
      case measure => have := h5.out; omega
      case rel => exact ⟨(wrap64 (a5 + 1)), rf_, H', ⟨by have := h5.out; omega⟩, ⟨hw_ HB⟩⟩
    ·rw [if_neg c4] at H
     exact absurd H (by simp)
   ·rw [if_neg c3] at H; have h8 : decide (a5 < (l0.length : Int)) = false := decide_eq_false c3; clear c3; obtain rfl := Option.some.inj H; go_wp2; go_ret
    exact ⟨re_, hw_ HB⟩
set_option maxHeartbeats 8000000 in
set_option maxRecDepth 100000 in
theorem impl_Clears.lit2 (k : Nat) (s : Int) (A1 : Option Addr) (c1 : Nat) (q : List (S137)) (m : Int) (g1 g2 g3 : Nat) (p0 p1 t : Int) (w : World) (hr1 : Kd.C k137 w A1 q.length q) (hc1 : q.length ≤ c1)
  (h1 : Aside0 (w.heap[g1]? = some (.cells #[.int .i64 s] 3 (0, 0)))) (h2 : Aside0 (w.heap[g2]? = some (.cells #[.slice A1 q.length c1] 91 (0, 0)))) (h3 : Aside0 (w.heap[g3]? = some (.cells #[.int .i64 m] 3 (0, 0)))) (h : impl_heightAt.f k s q p0 = some t) :
  Calls Try.prog 113 #[.agg #[.int .i64 p0, .int .i64 p1], .pointer (some ⟨g1, 0, none⟩), .pointer (some ⟨g2, 0, none⟩), .pointer (some ⟨g3, 0, none⟩)] w fun e w' => e = .returned (.bool (decide (wrap64 (t - p1) < m))) ∧ Below w.heap.size w w' := by
 have h7 := Try.underlying134
 have j8 := Try.underlying137
 have q8 := Try.underlying91
 have HR := mk_ hr1; have HC := mk_ hc1; have HH := mk_ h; clear hr1 hc1 h; have HB := mk_ (Below.refl w.heap.size w)
 go_enter Try.func113, Try.ntmps113
 try go_wp2_with (first | ((with_reducible refine gd_ 4 rfl ?_); refine box_event ?hg (N := 4) ?hd (cs := #[.int .i64 p0, .int .i64 p1]) (t := 134) ?hr ?_; (case hd => rfl); (case hg => rfl); (case hr => exact hr_); intro gb hgb w1 hbox hb; have BK := mk_ hbox; have H1 := bl_ h1 hb; have H2 := bl_ h2 hb; have H3 := bl_ h3 hb; have b8 := mk_ (Kd.C_below HR.out hb); replace HB := bp_ HB hb; clear hbox hgb hb))
 replace BK := dB_ BK
 replace H1 := dB_ H1
 replace H2 := dB_ H2
 replace H3 := dB_ H3
 replace HB := dH_ HB
 replace b8 := mk_ (Kd.C_drew b8.out)
 refine start_ (n := 11) (S := fun w' => w'.cell? ⟨g1, 0, none⟩ = some (.int .i64 s) ∧ w'.cell? ⟨g2, 0, none⟩ = some (.slice A1 q.length c1) ∧ w'.cell? ⟨g3, 0, none⟩ = some (.int .i64 m) ∧ w'.cell? ⟨gb, 0, none⟩ = some (.int .i64 p0) ∧ w'.cell? ⟨gb, 1, none⟩ = some (.int .i64 p1)) (ds := []) (bs_ 11 0) (by kernel_rfl) rfl (by kernel_rfl) ⟨bc0_ H1, bc0_ H2, bc0_ H3, bc0_ BK, bc1_ BK⟩ (fun hHeld => ?_)
 generalize w1.drew = w2 at BK H1 H2 H3 HB b8 hHeld ⊢
 refine pu0_ 2 8 (bs_ 11 4) ?_; refine pu0_ 5 11 (bs_ 11 36) ?_; refine tk0_ 0 6 (bs_ 11 37) hHeld ?_; refine tk0_ 1 7 (bs_ 11 39) hHeld ?_; refine tk0_ 3 9 (bs_ 11 47) hHeld ?_; refine tk0_ 6 12 (bs_ 11 111) hHeld ?_; refine tk0_ 8 14 (bs_ 11 367) hHeld ?_
 refine one_ (i := 4) (N := some 10) (bs_ 11 383) rfl rfl (by kernel_rfl) (by decide) (fun K hK => ?_)
 refine gs_ Try.func114 #[.int .i64 s, .slice A1 q.length c1, .int .i64 p0] ?_
 with_reducible refine (impl_heightAt.calls k s A1 c1 q p0 t _ b8.out HC.out HH.out).mono ?_
 rintro e w4 ⟨rfl, hb⟩
 refine ⟨_, rfl, ?_⟩
 replace H1 := bl_ H1 hb
 replace H2 := bl_ H2 hb
 replace H3 := bl_ H3 hb
 replace BK := bl_ BK hb
 replace HB := hk_ HB hb
 clear hb
 refine hK.out _ _ ⟨bc0_ H1, bc0_ H2, bc0_ H3, bc0_ BK, bc1_ BK⟩ (fun hHeld => ?_)
 clear hK K; refine nm_ 10 ?_; refine pu0_ 7 13 (bs_ 11 511) ?_; refine pu0_ 9 15 (bs_ 11 1023) ?_; refine pu0_ 10 5 (bs_ 11 2047) ?_
 refine done_ (by kernel_rfl) ?_
 try go_wp2
 go_ret
 exact ⟨re_, hw_ HB⟩
set_option maxHeartbeats 8000000 in
set_option maxRecDepth 100000 in
theorem impl_Clears.index2 (k : Nat) (s : Int) (A1 : Option Addr) (c1 : Nat) (q : List (S137)) (m : Int) (g1 g2 g3 : Nat) (A0 : Option Addr) (c0 : Nat) (l0 : List (S134)) (r : Int) (w : World) (hr0 : Kd.C k134 w A0 l0.length l0) (hc0 : l0.length ≤ c0) (HR : Aside0 (Kd.C k137 w A1 q.length q)) (HC1 : Aside0 (q.length ≤ c1)) (h1 : Aside0 (w.heap[g1]? = some (.cells #[.int .i64 s] 3 (0, 0)))) (h2 : Aside0 (w.heap[g2]? = some (.cells #[.slice A1 q.length c1] 91 (0, 0)))) (h3 : Aside0 (w.heap[g3]? = some (.cells #[.int .i64 m] 3 (0, 0)))) (h : impl_Clears.l1 k s q m l0 0 = some r) :
  Calls Try.prog 112 #[.slice A0 l0.length c0, .func (.func 113) #[] #[.pointer (some ⟨g1, 0, none⟩), .pointer (some ⟨g2, 0, none⟩), .pointer (some ⟨g3, 0, none⟩)]] w fun e w' => e = .returned (.int .i64 r) ∧ Below w.heap.size w w' := by
 have h7 := Try.underlying134
 have j5 := mk_ hr0; have p9 := mk_ hc0; clear hr0 hc0; have HB := mk_ (Below.refl w.heap.size w)
 have H' := mk_ h
 clear h
 go_enter Try.func112, Try.ntmps112
 go_wp2
 go_loopg [8] k (fun kq v8 w' => ∃ (a5 : Int), v8 = .int .i64 a5 ∧ Aside0 (impl_Clears.l1 kq s q m l0 a5 = some r) ∧ Aside0 (kq ≤ k) ∧ Aside0 (Below w.heap.size w w'))
 case atStart => exact ⟨(0), rf_, H', ⟨Nat.le_refl _⟩, ⟨hw_ HB⟩⟩
 case round =>
  clear H'
  obtain ⟨a5, rfl, HA, h5, HB⟩ := hrel
  cases gk with
  | zero => exact absurd HA.out (by simp [impl_Clears.l1])
  | succ k1 =>
   have H := HA.out; clear HA
   simp only [impl_Clears.l1] at H
   by_cases c3 : a5 < (l0.length : Int)
   ·rw [if_pos c3] at H; have h8 : decide (a5 < (l0.length : Int)) = true := decide_eq_true c3; clear c3; by_cases c4 : 0 ≤ a5
    ·rw [if_pos c4] at H; have j4 : decide (0 ≤ a5) = true := decide_eq_true c4; clear c4
     have d9 : 0 ≤ (a5 : Int) := od_
     have g4 : a5 < (l0.length : Int) := od_
     obtain ⟨ad, l8, l9, j6⟩ := at_T134 j5.out a5 d9 g4; cases l8
     replace l9 := (HB.out.cell (World.block_lt_of_cell? w _ l9)).trans l9
     replace j6 := (HB.out.cell (World.block_lt_of_cell? w _ j6)).trans j6
     replace d9 := eq_true d9; replace g4 := eq_true g4; replace H := Option.bind_eq_some_iff.mp H; obtain ⟨t, A7, H⟩ := H; have A7 := mk_ A7; have b8 := mk_ (Kd.C_below HR.out HB.out); have HG1 := mk_ ((HB.out.block g1 (blk_lt h1.out)).trans h1.out); have HG2 := mk_ ((HB.out.block g2 (blk_lt h2.out)).trans h2.out); have HG3 := mk_ ((HB.out.block g3 (blk_lt h3.out)).trans h3.out); by_cases c7 : decide (wrap64 (t - (rd_T134 l0 a5).f1) < m) = true
     ·rw [if_pos c7] at H; obtain rfl := Option.some.inj H; have C7 := mk_ c7; clear c7
      go_wp2_with (first | (go_at_call 113; (with_reducible refine (impl_Clears.lit2 k1 s A1 c1 q m g1 g2 g3 ((rd_T134 l0 a5).f0) ((rd_T134 l0 a5).f1) t _ b8.out HC1.out HG1 HG2 HG3 A7.out).mono ?_); rintro e w8 ⟨rfl, hb⟩; rw [C7.out]; replace HB := bp_ HB hb; clear hb))
      go_ret
      exact ⟨re_, hw_ HB⟩
     ·rw [if_neg c7] at H; have C7 := mk_ (Bool.eq_false_iff.mpr c7); clear c7
      have H' := mk_ H
      clear H
      go_wp2_with (first | (go_at_call 113; (with_reducible refine (impl_Clears.lit2 k1 s A1 c1 q m g1 g2 g3 ((rd_T134 l0 a5).f0) ((rd_T134 l0 a5).f1) t _ b8.out HC1.out HG1 HG2 HG3 A7.out).mono ?_); rintro e w8 ⟨rfl, hb⟩; rw [C7.out]; replace HB := bp_ HB hb; clear hb))
      go_roundg k1
      case measure => have := h5.out; omega
      case rel => exact ⟨(wrap64 (a5 + 1)), rf_, H', ⟨by have := h5.out; omega⟩, ⟨hw_ HB⟩⟩
    ·rw [if_neg c4] at H
     exact absurd H (by simp)
   ·rw [if_neg c3] at H; have h8 : decide (a5 < (l0.length : Int)) = false := decide_eq_false c3; clear c3; obtain rfl := Option.some.inj H; go_wp2; go_ret
    exact ⟨re_, hw_ HB⟩
set_option maxHeartbeats 8000000 in
set_option maxRecDepth 100000 in
theorem impl_Clears.contains (k : Nat) (A0 : Option Addr) (c0 : Nat) (l0 : List (S134)) (r : Int) (w : World) (hr0 : Kd.C k134 w A0 l0.length l0) (hc0 : l0.length ≤ c0) (h : impl_Clears.l0 k l0 0 = some r) :
  Calls Try.prog 110 #[.slice A0 l0.length c0, .func (.func 111) #[] #[]] w fun e w' => e = .returned (.bool (decide (0 ≤ r))) ∧ Below w.heap.size w w' := by
 have j5 := mk_ hr0; have p9 := mk_ hc0; have HH := mk_ h; clear hr0 hc0 h; have HB := mk_ (Below.refl w.heap.size w)
 go_enter Try.func110, Try.ntmps110
 go_wp2_with (first | (go_at_call 112; (with_reducible refine (impl_Clears.index k _ _ l0 r _ j5.out p9.out HH.out).mono ?_); rintro e w2 ⟨rfl, hb⟩; replace HB := bp_ HB hb; clear hb))
 go_ret
 exact ⟨re_, hw_ HB⟩
set_option maxHeartbeats 8000000 in
set_option maxRecDepth 100000 in
theorem impl_Clears.calls (k : Nat) (a0 : Int) (A1 : Option Addr) (c1 : Nat) (l1 : List (S137)) (A2 : Option Addr) (c2 : Nat) (l2 : List (S134)) (a3 : Int) (r1 : Int) (r2 : Bool) (w : World) (hr1 : Kd.C k137 w A1 l1.length l1) (hc1 : l1.length ≤ c1) (hr2 : Kd.C k134 w A2 l2.length l2) (hc2 : l2.length ≤ c2) (h : impl_Clears.f k a0 l1 l2 a3 = some (r1, r2)) :
  Calls Try.prog 56 #[.int .i64 a0, .slice A1 l1.length c1, .slice A2 l2.length c2, .int .i64 a3] w fun e w' => e = .returned (.tuple #[.int .i64 r1, .bool r2]) ∧ Below w.heap.size w w' := by
 have hmf : ∀ (fn : Fn) (first cap : Array Value) (w : World), (Instr.makeFunc fn first cap).run Try.prog w = .ok (.func fn first cap) w := fun _ _ _ _ => rfl
 have q8 := Try.underlying91
 have b8 := mk_ hr1; have HC1 := mk_ hc1; have n5 := mk_ hr2; have m2 := mk_ hc2; clear hr1 hc1 hr2 hc2; have HB := mk_ (Below.refl w.heap.size w)
 unfold impl_Clears.f at h
 obtain ⟨i, hi, h⟩ := Option.bind_eq_some_iff.mp h
 obtain ⟨⟨cl, co⟩, hcl, h⟩ := Option.bind_eq_some_iff.mp h
 have HI := mk_ hi; have HCl := mk_ hcl; clear hi hcl
 have hin := impl_Clears.in_f a3 0 1000
 obtain ⟨t3, ht3⟩ : ∃ t, t = impl_Clears.in_ a3 0 1000 := ⟨_, rfl⟩
 rw [← ht3] at hin
 replace h : (if (co && (!decide (0 ≤ i)) && (!decide (20 < (l2.length : Int))) && t3) = true then ((impl_Clears.l1 k a0 l1 a3 l2 0).bind fun j => some (j, true)) else some (-2, false)) = some (r1, r2) := by rw [ht3]; exact h
 clear ht3; have HIn := mk_ hin; clear hin
 cases co
 ·simp only [Bool.false_and, Bool.false_eq_true, if_false, Option.some.injEq, Prod.mk.injEq] at h
  obtain ⟨rfl, rfl⟩ := h
  clear HIn
  go_enter Try.func56, Try.ntmps56
  go_wp2_with (first | ((with_reducible refine gd_ 4 rfl ?_); refine box_event ?hg (N := 4) ?hd (cs := #[.int .i64 a0]) (t := 3) ?hr ?_; (case hd => rfl); (case hg => rfl); (case hr => exact hr_); intro g1 hgb w_ hbox hb; have G1 := mk_ hbox; have R1 := mk_ (Kd.C_below b8.out hb); have R2 := mk_ (Kd.C_below n5.out hb); replace HB := bp_ HB hb; clear hbox hgb hb) | ((with_reducible refine gd_ 5 rfl ?_); refine box_event ?hg (N := 5) ?hd (cs := #[.slice A1 l1.length c1]) (t := 91) ?hr ?_; (case hd => rfl); (case hg => rfl); (case hr => exact hr_); intro g2 hgb w_ hbox hb; have G2 := mk_ hbox; replace G1 := bl_ G1 hb; replace R1 := mk_ (Kd.C_below R1.out hb); replace R2 := mk_ (Kd.C_below R2.out hb); replace HB := bp_ HB hb; clear hbox hgb hb) | ((with_reducible refine gd_ 7 rfl ?_); refine box_event ?hg (N := 7) ?hd (cs := #[.int .i64 a3]) (t := 3) ?hr ?_; (case hd => rfl); (case hg => rfl); (case hr => exact hr_); intro g3 hgb w_ hbox hb; have G3 := mk_ hbox; replace G1 := bl_ G1 hb; replace G2 := bl_ G2 hb; replace R1 := mk_ (Kd.C_below R1.out hb); replace R2 := mk_ (Kd.C_below R2.out hb); replace HB := bp_ HB hb; clear hbox hgb hb) | (go_at_call 110; (with_reducible refine (impl_Clears.contains k _ _ l2 i _ R2.out m2.out HI.out).mono ?_); rintro e w_ ⟨rfl, hb⟩; replace G1 := bl_ G1 hb; replace G2 := bl_ G2 hb; replace G3 := bl_ G3 hb; replace R1 := mk_ (Kd.C_below R1.out hb); replace R2 := mk_ (Kd.C_below R2.out hb); replace HB := bp_ HB hb; clear hb; have k1 := bc0_ G1; have k2 := bc0_ G2) | (go_at_call 60; (with_reducible refine (impl_Climbs.calls k a0 _ _ l1 cl _ _ R1.out HC1.out HCl.out).mono ?_); rintro e w_ ⟨v0_, rfl, -, hb⟩; replace G1 := bl_ G1 hb; replace G2 := bl_ G2 hb; replace G3 := bl_ G3 hb; replace R1 := mk_ (Kd.C_below R1.out hb); replace R2 := mk_ (Kd.C_below R2.out hb); replace HB := bp_ HB hb; clear hb; have k3 := bc0_ G3))
  go_ret2
  exact ⟨re_, hw_ HB⟩
 by_cases d1 : 0 ≤ i
 ·have d1b : decide (0 ≤ i) = true := decide_eq_true d1
  clear d1
  simp only [d1b, Bool.not_true, Bool.and_false, Bool.false_and, Bool.false_eq_true, if_false, Option.some.injEq, Prod.mk.injEq] at h
  obtain ⟨rfl, rfl⟩ := h
  clear HIn
  go_enter Try.func56, Try.ntmps56
  go_wp2_with (first | ((with_reducible refine gd_ 4 rfl ?_); refine box_event ?hg (N := 4) ?hd (cs := #[.int .i64 a0]) (t := 3) ?hr ?_; (case hd => rfl); (case hg => rfl); (case hr => exact hr_); intro g1 hgb w_ hbox hb; have G1 := mk_ hbox; have R1 := mk_ (Kd.C_below b8.out hb); have R2 := mk_ (Kd.C_below n5.out hb); replace HB := bp_ HB hb; clear hbox hgb hb) | ((with_reducible refine gd_ 5 rfl ?_); refine box_event ?hg (N := 5) ?hd (cs := #[.slice A1 l1.length c1]) (t := 91) ?hr ?_; (case hd => rfl); (case hg => rfl); (case hr => exact hr_); intro g2 hgb w_ hbox hb; have G2 := mk_ hbox; replace G1 := bl_ G1 hb; replace R1 := mk_ (Kd.C_below R1.out hb); replace R2 := mk_ (Kd.C_below R2.out hb); replace HB := bp_ HB hb; clear hbox hgb hb) | ((with_reducible refine gd_ 7 rfl ?_); refine box_event ?hg (N := 7) ?hd (cs := #[.int .i64 a3]) (t := 3) ?hr ?_; (case hd => rfl); (case hg => rfl); (case hr => exact hr_); intro g3 hgb w_ hbox hb; have G3 := mk_ hbox; replace G1 := bl_ G1 hb; replace G2 := bl_ G2 hb; replace R1 := mk_ (Kd.C_below R1.out hb); replace R2 := mk_ (Kd.C_below R2.out hb); replace HB := bp_ HB hb; clear hbox hgb hb) | (go_at_call 110; (with_reducible refine (impl_Clears.contains k _ _ l2 i _ R2.out m2.out HI.out).mono ?_); rintro e w_ ⟨rfl, hb⟩; replace G1 := bl_ G1 hb; replace G2 := bl_ G2 hb; replace G3 := bl_ G3 hb; replace R1 := mk_ (Kd.C_below R1.out hb); replace R2 := mk_ (Kd.C_below R2.out hb); replace HB := bp_ HB hb; clear hb; have k1 := bc0_ G1; have k2 := bc0_ G2) | (go_at_call 60; (with_reducible refine (impl_Climbs.calls k a0 _ _ l1 cl _ _ R1.out HC1.out HCl.out).mono ?_); rintro e w_ ⟨v0_, rfl, -, hb⟩; replace G1 := bl_ G1 hb; replace G2 := bl_ G2 hb; replace G3 := bl_ G3 hb; replace R1 := mk_ (Kd.C_below R1.out hb); replace R2 := mk_ (Kd.C_below R2.out hb); replace HB := bp_ HB hb; clear hb; have k3 := bc0_ G3))
  go_ret2
  exact ⟨re_, hw_ HB⟩
 have d1b : decide (0 ≤ i) = false := decide_eq_false d1
 clear d1; by_cases d2 : (20 : Int) < (l2.length : Int)
 ·have d2b : decide ((20 : Int) < (l2.length : Int)) = true := decide_eq_true d2
  clear d2
  simp only [d1b, d2b, Bool.not_true, Bool.and_false, Bool.false_and, Bool.false_eq_true, if_false, Option.some.injEq, Prod.mk.injEq] at h
  obtain ⟨rfl, rfl⟩ := h
  clear HIn
  go_enter Try.func56, Try.ntmps56
  go_wp2_with (first | ((with_reducible refine gd_ 4 rfl ?_); refine box_event ?hg (N := 4) ?hd (cs := #[.int .i64 a0]) (t := 3) ?hr ?_; (case hd => rfl); (case hg => rfl); (case hr => exact hr_); intro g1 hgb w_ hbox hb; have G1 := mk_ hbox; have R1 := mk_ (Kd.C_below b8.out hb); have R2 := mk_ (Kd.C_below n5.out hb); replace HB := bp_ HB hb; clear hbox hgb hb) | ((with_reducible refine gd_ 5 rfl ?_); refine box_event ?hg (N := 5) ?hd (cs := #[.slice A1 l1.length c1]) (t := 91) ?hr ?_; (case hd => rfl); (case hg => rfl); (case hr => exact hr_); intro g2 hgb w_ hbox hb; have G2 := mk_ hbox; replace G1 := bl_ G1 hb; replace R1 := mk_ (Kd.C_below R1.out hb); replace R2 := mk_ (Kd.C_below R2.out hb); replace HB := bp_ HB hb; clear hbox hgb hb) | ((with_reducible refine gd_ 7 rfl ?_); refine box_event ?hg (N := 7) ?hd (cs := #[.int .i64 a3]) (t := 3) ?hr ?_; (case hd => rfl); (case hg => rfl); (case hr => exact hr_); intro g3 hgb w_ hbox hb; have G3 := mk_ hbox; replace G1 := bl_ G1 hb; replace G2 := bl_ G2 hb; replace R1 := mk_ (Kd.C_below R1.out hb); replace R2 := mk_ (Kd.C_below R2.out hb); replace HB := bp_ HB hb; clear hbox hgb hb) | (go_at_call 110; (with_reducible refine (impl_Clears.contains k _ _ l2 i _ R2.out m2.out HI.out).mono ?_); rintro e w_ ⟨rfl, hb⟩; replace G1 := bl_ G1 hb; replace G2 := bl_ G2 hb; replace G3 := bl_ G3 hb; replace R1 := mk_ (Kd.C_below R1.out hb); replace R2 := mk_ (Kd.C_below R2.out hb); replace HB := bp_ HB hb; clear hb; have k1 := bc0_ G1; have k2 := bc0_ G2) | (go_at_call 60; (with_reducible refine (impl_Climbs.calls k a0 _ _ l1 cl _ _ R1.out HC1.out HCl.out).mono ?_); rintro e w_ ⟨v0_, rfl, -, hb⟩; replace G1 := bl_ G1 hb; replace G2 := bl_ G2 hb; replace G3 := bl_ G3 hb; replace R1 := mk_ (Kd.C_below R1.out hb); replace R2 := mk_ (Kd.C_below R2.out hb); replace HB := bp_ HB hb; clear hb; have k3 := bc0_ G3))
  go_ret2
  exact ⟨re_, hw_ HB⟩
 have d2b : decide ((20 : Int) < (l2.length : Int)) = false := decide_eq_false d2
 clear d2
 cases t3
 ·simp only [d1b, d2b, Bool.not_false, Bool.and_false, Bool.true_and, Bool.false_eq_true, if_false, Option.some.injEq, Prod.mk.injEq] at h
  obtain ⟨rfl, rfl⟩ := h
  go_enter Try.func56, Try.ntmps56
  go_wp2_with (first | ((with_reducible refine gd_ 4 rfl ?_); refine box_event ?hg (N := 4) ?hd (cs := #[.int .i64 a0]) (t := 3) ?hr ?_; (case hd => rfl); (case hg => rfl); (case hr => exact hr_); intro g1 hgb w_ hbox hb; have G1 := mk_ hbox; have R1 := mk_ (Kd.C_below b8.out hb); have R2 := mk_ (Kd.C_below n5.out hb); replace HB := bp_ HB hb; clear hbox hgb hb) | ((with_reducible refine gd_ 5 rfl ?_); refine box_event ?hg (N := 5) ?hd (cs := #[.slice A1 l1.length c1]) (t := 91) ?hr ?_; (case hd => rfl); (case hg => rfl); (case hr => exact hr_); intro g2 hgb w_ hbox hb; have G2 := mk_ hbox; replace G1 := bl_ G1 hb; replace R1 := mk_ (Kd.C_below R1.out hb); replace R2 := mk_ (Kd.C_below R2.out hb); replace HB := bp_ HB hb; clear hbox hgb hb) | ((with_reducible refine gd_ 7 rfl ?_); refine box_event ?hg (N := 7) ?hd (cs := #[.int .i64 a3]) (t := 3) ?hr ?_; (case hd => rfl); (case hg => rfl); (case hr => exact hr_); intro g3 hgb w_ hbox hb; have G3 := mk_ hbox; replace G1 := bl_ G1 hb; replace G2 := bl_ G2 hb; replace R1 := mk_ (Kd.C_below R1.out hb); replace R2 := mk_ (Kd.C_below R2.out hb); replace HB := bp_ HB hb; clear hbox hgb hb) | (go_at_call 110; (with_reducible refine (impl_Clears.contains k _ _ l2 i _ R2.out m2.out HI.out).mono ?_); rintro e w_ ⟨rfl, hb⟩; replace G1 := bl_ G1 hb; replace G2 := bl_ G2 hb; replace G3 := bl_ G3 hb; replace R1 := mk_ (Kd.C_below R1.out hb); replace R2 := mk_ (Kd.C_below R2.out hb); replace HB := bp_ HB hb; clear hb; have k1 := bc0_ G1; have k2 := bc0_ G2) | (go_at_call 60; (with_reducible refine (impl_Climbs.calls k a0 _ _ l1 cl _ _ R1.out HC1.out HCl.out).mono ?_); rintro e w_ ⟨v0_, rfl, -, hb⟩; replace G1 := bl_ G1 hb; replace G2 := bl_ G2 hb; replace G3 := bl_ G3 hb; replace R1 := mk_ (Kd.C_below R1.out hb); replace R2 := mk_ (Kd.C_below R2.out hb); replace HB := bp_ HB hb; clear hb; have k3 := bc0_ G3) | ((with_reducible refine gate_callee (f := 76) rfl ?_); refine goesL_ (some 33) rfl rfl Try.func76 (by kernel_rfl) rfl #[.int .i64 a3, .int .i64 0, .int .i64 1000] rfl (by (try simp only [List.map_toArray, List.map_cons, List.map_nil]); first | done | rfl) ?_; (with_reducible refine (impl_in.calls a3 0 1000 false _ HIn.out).mono ?_); rintro e w' ⟨rfl, ⟨nd, rfl⟩⟩; refine ⟨_, rfl, ?_⟩) | (go_at_call 76; (with_reducible refine (impl_in.calls a3 0 1000 false _ HIn.out).mono ?_); rintro e w' ⟨rfl, ⟨nd, rfl⟩⟩))
  go_ret2
  exact ⟨re_, hw_ HB⟩
 ·simp only [d1b, d2b, Bool.not_false, Bool.and_true, Bool.true_and, if_true] at h
  obtain ⟨j, hj, h⟩ := Option.bind_eq_some_iff.mp h
  simp only [Option.some.injEq, Prod.mk.injEq] at h
  obtain ⟨rfl, rfl⟩ := h
  have HJ := mk_ hj; clear hj
  go_enter Try.func56, Try.ntmps56
  go_wp2_with (first | ((with_reducible refine gd_ 4 rfl ?_); refine box_event ?hg (N := 4) ?hd (cs := #[.int .i64 a0]) (t := 3) ?hr ?_; (case hd => rfl); (case hg => rfl); (case hr => exact hr_); intro g1 hgb w_ hbox hb; have G1 := mk_ hbox; have R1 := mk_ (Kd.C_below b8.out hb); have R2 := mk_ (Kd.C_below n5.out hb); replace HB := bp_ HB hb; clear hbox hgb hb) | ((with_reducible refine gd_ 5 rfl ?_); refine box_event ?hg (N := 5) ?hd (cs := #[.slice A1 l1.length c1]) (t := 91) ?hr ?_; (case hd => rfl); (case hg => rfl); (case hr => exact hr_); intro g2 hgb w_ hbox hb; have G2 := mk_ hbox; replace G1 := bl_ G1 hb; replace R1 := mk_ (Kd.C_below R1.out hb); replace R2 := mk_ (Kd.C_below R2.out hb); replace HB := bp_ HB hb; clear hbox hgb hb) | ((with_reducible refine gd_ 7 rfl ?_); refine box_event ?hg (N := 7) ?hd (cs := #[.int .i64 a3]) (t := 3) ?hr ?_; (case hd => rfl); (case hg => rfl); (case hr => exact hr_); intro g3 hgb w_ hbox hb; have G3 := mk_ hbox; replace G1 := bl_ G1 hb; replace G2 := bl_ G2 hb; replace R1 := mk_ (Kd.C_below R1.out hb); replace R2 := mk_ (Kd.C_below R2.out hb); replace HB := bp_ HB hb; clear hbox hgb hb) | (go_at_call 110; (with_reducible refine (impl_Clears.contains k _ _ l2 i _ R2.out m2.out HI.out).mono ?_); rintro e w_ ⟨rfl, hb⟩; replace G1 := bl_ G1 hb; replace G2 := bl_ G2 hb; replace G3 := bl_ G3 hb; replace R1 := mk_ (Kd.C_below R1.out hb); replace R2 := mk_ (Kd.C_below R2.out hb); replace HB := bp_ HB hb; clear hb; have k1 := bc0_ G1; have k2 := bc0_ G2) | (go_at_call 60; (with_reducible refine (impl_Climbs.calls k a0 _ _ l1 cl _ _ R1.out HC1.out HCl.out).mono ?_); rintro e w_ ⟨v0_, rfl, -, hb⟩; replace G1 := bl_ G1 hb; replace G2 := bl_ G2 hb; replace G3 := bl_ G3 hb; replace R1 := mk_ (Kd.C_below R1.out hb); replace R2 := mk_ (Kd.C_below R2.out hb); replace HB := bp_ HB hb; clear hb; have k3 := bc0_ G3) | ((with_reducible refine gate_callee (f := 76) rfl ?_); refine goesL_ (some 33) rfl rfl Try.func76 (by kernel_rfl) rfl #[.int .i64 a3, .int .i64 0, .int .i64 1000] rfl (by (try simp only [List.map_toArray, List.map_cons, List.map_nil]); first | done | rfl) ?_; (with_reducible refine (impl_in.calls a3 0 1000 true _ HIn.out).mono ?_); rintro e w' ⟨rfl, ⟨nd, rfl⟩⟩; refine ⟨_, rfl, ?_⟩) | (go_at_call 76; (with_reducible refine (impl_in.calls a3 0 1000 true _ HIn.out).mono ?_); rintro e w' ⟨rfl, ⟨nd, rfl⟩⟩) | (go_at_call 112; (with_reducible refine (impl_Clears.index2 k a0 A1 c1 l1 a3 g1 g2 g3 A2 c2 l2 j _ ?j6 m2.out ?y7 HC1 ?y8 ?y9 ?A3 HJ.out).mono ?_); (case j6 => exact cw_ R2.out); (case y7 => exact ⟨cw_ R1.out⟩); (case y8 => exact ⟨bx_ G1⟩); (case y9 => exact ⟨bx_ G2⟩); (case A3 => exact ⟨bx_ G3⟩); rintro e w_ ⟨rfl, hb⟩; replace HB := hk_ HB hb; clear hb))
  go_ret2
  exact ⟨re_, hw_ HB⟩

/-- A state of type 152 at block g of W; what its slices lead to came in by w0. -/
def IsS152 (w0 W : World) (g : Nat) (f0 : List Int) (f1 : Int) (f2 : Int) : Prop := ∃ A0 c0, W.heap[g]? = some (.cells #[.slice A0 f0.length c0, .int .i64 f1, .int .i64 f2] 152 (0, 0)) ∧ w0.heap.size ≤ g ∧ Kd.C (Kd.int .u8) w0 A0 f0.length f0
theorem IsS152.grown {w0 W : World} {g : Nat} {f0 : List Int} {f1 : Int} {f2 : Int} {W1 : World} {row : Option Nat} (h : IsS152 w0 W g f0 f1 f2) (hw : W.grownBy W1 row) (hne : some g ≠ row) : IsS152 w0 W1 g f0 f1 f2 := by
 obtain ⟨A0, c0, hb, hg, hr0⟩ := h
 exact ⟨A0, c0, blk_grown hb hw hne, hg, hr0⟩
theorem IsS152.own_neN {w0 W : World} {g : Nat} {f0 : List Int} {f1 : Int} {f2 : Int} {α : Type} {d : Kd α} {e : Nat} {base : Nat} {ok : Nat → Prop} {v : Value} {xs : List α} (h : IsS152 w0 W g f0 f1 f2) (ho : Kd.N d e W base ok v xs) (ht : e ≠ 152) : some g ≠ v.ownBlock := by
 obtain ⟨A0, c0, hb, hg, hr0⟩ := h
 exact Kd.N_ne ho hb ht
theorem IsS152.fresh {w0 W : World} {g : Nat} {f0 : List Int} {f1 : Int} {f2 : Int} (h : IsS152 w0 W g f0 f1 f2) : ∀ k, W.heap.size ≤ k → k ≠ g := by
 obtain ⟨A0, c0, hb, hg, hr0⟩ := h
 exact Kd.freshB hb
theorem IsS152.kept {w0 W : World} {g : Nat} {f0 : List Int} {f1 : Int} {f2 : Int} {W1 : World} {S : Nat → Prop} (h : IsS152 w0 W g f0 f1 f2) (hk : Kept W W1 S) (hne : ¬ S g) : IsS152 w0 W1 g f0 f1 f2 := by
 obtain ⟨A0, c0, hb, hg, hr0⟩ := h
 exact ⟨A0, c0, blk_kept hb hk hne, hg, hr0⟩
theorem IsS152.below {w0 W : World} {g : Nat} {f0 : List Int} {f1 : Int} {f2 : Int} {W1 : World} (h : IsS152 w0 W g f0 f1 f2) (hw : Below W.heap.size W W1) : IsS152 w0 W1 g f0 f1 f2 := h.grown (grown_of_below hw none) (by simp)
theorem IsS152.alloc {w0 W : World} {g : Nat} {f0 : List Int} {f1 : Int} {f2 : Int} (h : IsS152 w0 W g f0 f1 f2) (o : Obj) : IsS152 w0 (W.alloc o) g f0 f1 f2 := h.below (below_alloc (Below.refl _ _) o)
theorem IsS152.drewN {w0 W : World} {g : Nat} {f0 : List Int} {f1 : Int} {f2 : Int} (h : IsS152 w0 W g f0 f1 f2) (m : Nat) : IsS152 w0 (W.drewN m) g f0 f1 f2 := h
theorem IsS152.drew {w0 W : World} {g : Nat} {f0 : List Int} {f1 : Int} {f2 : Int} (h : IsS152 w0 W g f0 f1 f2) : IsS152 w0 W.drew g f0 f1 f2 := h
theorem IsS152.at_ {w0 W : World} {g : Nat} {f0 : List Int} {f1 : Int} {f2 : Int} {w' : World} {m : Nat} (hq : W.drewN m = w') (h : IsS152 w0 W g f0 f1 f2) : IsS152 w0 w' g f0 f1 f2 := by subst hq; exact IsS152.drewN h m
theorem IsS152.apart {w0 W : World} {g : Nat} {f0 : List Int} {f1 : Int} {f2 : Int} {α : Type} {d : Kd α} {e : Nat} {base : Nat} {ok : Nat → Prop} {v : Value} {xs : List α} (h : IsS152 w0 W g f0 f1 f2) (ho : d.R e W base ok v xs) (ht : ∀ q, q ∈ e :: d.E → q ≠ 152) : d.R e W base (fun k => ok k ∧ k ≠ g) v xs := by
 obtain ⟨A0, c0, hb, hg, hr0⟩ := h
 exact Kd.R_types ho hb ht
theorem IsS152.own_ne {w0 W : World} {g : Nat} {f0 : List Int} {f1 : Int} {f2 : Int} {α : Type} {d : Kd α} {e : Nat} {base : Nat} {ok : Nat → Prop} {v : Value} {xs : List α} (h : IsS152 w0 W g f0 f1 f2) (ho : d.R e W base ok v xs) (ht : e ≠ 152) : some g ≠ v.ownBlock := by
 obtain ⟨A0, c0, hb, hg, hr0⟩ := h
 exact Kd.R_ne ho hb ht
theorem IsS152.apartQ {w0 W : World} {g : Nat} {f0 : List Int} {f1 : Int} {f2 : Int} {α : Type} {d : Kd α} {e : Nat} {base : Nat} {ok : Nat → Prop} {v : Value} {xs : List α} (h : IsS152 w0 W g f0 f1 f2) (ho : d.Q e W base ok v xs) (ht : ∀ q, q ∈ e :: d.E → q ≠ 152) : d.Q e W base (fun k => ok k ∧ k ≠ g) v xs := by
 obtain ⟨A0, c0, hb, hg, hr0⟩ := h
 exact Kd.Q_types ho hb ht
theorem IsS152.own_neQ {w0 W : World} {g : Nat} {f0 : List Int} {f1 : Int} {f2 : Int} {α : Type} {d : Kd α} {e : Nat} {base : Nat} {ok : Nat → Prop} {v : Value} {xs : List α} (h : IsS152 w0 W g f0 f1 f2) (ho : d.Q e W base ok v xs) (ht : e ≠ 152) : some g ≠ v.ownBlock := by
 obtain ⟨A0, c0, hb, hg, hr0⟩ := h
 exact Kd.Q_ne ho hb ht
theorem IsS152.apartS {w0 W : World} {g : Nat} {f0 : List Int} {f1 : Int} {f2 : Int} {α : Type} {d : Kd α} {e : Nat} {base : Nat} {ok : Nat → Prop} {v : Value} {xs : List α} (h : IsS152 w0 W g f0 f1 f2) (ho : d.S e W base ok v xs) (ht : ∀ q, q ∈ e :: d.E → q ≠ 152) : d.S e W base (fun k => ok k ∧ k ≠ g) v xs := by
 obtain ⟨A0, c0, hb, hg, hr0⟩ := h
 exact Kd.S_types ho hb ht
theorem IsS152.own_neS {w0 W : World} {g : Nat} {f0 : List Int} {f1 : Int} {f2 : Int} {α : Type} {d : Kd α} {e : Nat} {base : Nat} {ok : Nat → Prop} {v : Value} {xs : List α} (h : IsS152 w0 W g f0 f1 f2) (ho : d.S e W base ok v xs) (ht : e ≠ 152) : some g ≠ v.ownBlock := by
 obtain ⟨A0, c0, hb, hg, hr0⟩ := h
 exact Kd.S_ne ho hb ht
theorem IsS152.lt {w0 W : World} {g : Nat} {f0 : List Int} {f1 : Int} {f2 : Int} (h : IsS152 w0 W g f0 f1 f2) : g < W.heap.size := by
 obtain ⟨A0, c0, hb, hg, hr0⟩ := h
 exact blk_lt hb
theorem IsS152.ge {w0 W : World} {g : Nat} {f0 : List Int} {f1 : Int} {f2 : Int} (h : IsS152 w0 W g f0 f1 f2) : w0.heap.size ≤ g := by
 obtain ⟨A0, c0, hb, hg, hr0⟩ := h
 exact hg
theorem IsS152.ne_blk {w0 W : World} {g : Nat} {f0 : List Int} {f1 : Int} {f2 : Int} {a : Nat} {cs : Array Value} {t : TypeId} {fr : Nat × Nat} (h : IsS152 w0 W g f0 f1 f2) (hb2 : W.heap[a]? = some (.cells cs t fr)) (ht : t ≠ 152) : g ≠ a := by
 obtain ⟨A0, c0, hb, hg, hr0⟩ := h
 rintro rfl
 rw [hb] at hb2
 injection hb2 with hb2
 injection hb2 with _ ht2
 exact ht ht2.symm
theorem IsS152.far {w0 W : World} {g : Nat} {f0 : List Int} {f1 : Int} {f2 : Int} {p : Addr} (h : IsS152 w0 W g f0 f1 f2) (hne : g ≠ p.block) (u : Value) : IsS152 w0 (W.setCell p u) g f0 f1 f2 := by
 obtain ⟨A0, c0, hb, hg, hr0⟩ := h
 exact ⟨A0, c0, blk_far hb hne u, hg, hr0⟩
theorem cellS152_0 {W : World} {g : Nat} {A0 : Option Addr} {c0 : Nat} {f0 : List Int} {f1 : Int} {f2 : Int} (h : W.heap[g]? = some (.cells #[.slice A0 f0.length c0, .int .i64 f1, .int .i64 f2] 152 (0, 0))) : W.cell? ⟨g, 0, none⟩ = some (.slice A0 f0.length c0) := (blk_cell h 0).trans rfl
theorem cellS152_1 {W : World} {g : Nat} {A0 : Option Addr} {c0 : Nat} {f0 : List Int} {f1 : Int} {f2 : Int} (h : W.heap[g]? = some (.cells #[.slice A0 f0.length c0, .int .i64 f1, .int .i64 f2] 152 (0, 0))) : W.cell? ⟨g, 1, none⟩ = some (.int .i64 f1) := (blk_cell h 1).trans rfl
theorem IsS152.set_1 {w0 W : World} {g : Nat} {f0 : List Int} {f1 : Int} {f2 : Int} (h : IsS152 w0 W g f0 f1 f2) (x : Int) : IsS152 w0 (W.setCell ⟨g, 1, none⟩ (.int .i64 x)) g f0 x f2 := by
 obtain ⟨A0, c0, hb, hg, hr0⟩ := h
 exact ⟨A0, c0, by simpa using blk_set hb 1 (.int .i64 x), hg, hr0⟩
theorem cellS152_2 {W : World} {g : Nat} {A0 : Option Addr} {c0 : Nat} {f0 : List Int} {f1 : Int} {f2 : Int} (h : W.heap[g]? = some (.cells #[.slice A0 f0.length c0, .int .i64 f1, .int .i64 f2] 152 (0, 0))) : W.cell? ⟨g, 2, none⟩ = some (.int .i64 f2) := (blk_cell h 2).trans rfl
theorem IsS152.set_2 {w0 W : World} {g : Nat} {f0 : List Int} {f1 : Int} {f2 : Int} (h : IsS152 w0 W g f0 f1 f2) (x : Int) : IsS152 w0 (W.setCell ⟨g, 2, none⟩ (.int .i64 x)) g f0 f1 x := by
 obtain ⟨A0, c0, hb, hg, hr0⟩ := h
 exact ⟨A0, c0, by simpa using blk_set hb 2 (.int .i64 x), hg, hr0⟩
theorem IsS152.new (w0 W : World) (A0 : Option Addr) (c0 : Nat) (f0 : List Int) (f1 : Int) (f2 : Int) (hB : Below w0.heap.size w0 W) (hr0 : Kd.C (Kd.int .u8) w0 A0 f0.length f0) : IsS152 w0 (W.alloc (.cells #[.slice A0 f0.length c0, .int .i64 f1, .int .i64 f2] 152)) W.heap.size f0 f1 f2 := ⟨A0, c0, by simpa using heap_alloc_new W _, hB.size, hr0⟩

/-! ### spec_l1New: function 80 -/
def spec_l1New.l0 : Nat → List Int → Int → Int → Option (List Int × Int × Int)
 | 0, _, _, _ => none
 | k + 1, x0, x3, x4 => if x4 < (x0.length : Int) then (if x4 < 4000 then (if 0 ≤ x4 then (spec_l1New.l0 k x0 (Go.bits .and .i64 (wrap64 ((wrap64 ((wrap64 (x3 * 131)) + (wrap64 (rd x0 x4)))) + 7)) 1073741823) (wrap64 (x4 + 1))) else (none)) else (some (x0, 0, x3))) else (some (x0, 0, x3))
def spec_l1New.f (k : Nat) (l0 : List Int) : Option (List Int × Int × Int) := spec_l1New.l0 k l0 (wrap64 (63063 + (l0.length : Int))) 0
theorem spec_l1New.mono_l : ∀ k, (∀ y0 y1 y2, LeO (spec_l1New.l0 k y0 y1 y2) (spec_l1New.l0 (k + 1) y0 y1 y2))
 | 0 => fun _ _ _ r h => by simp [spec_l1New.l0] at h
 | k + 1 => by
  have b3 := spec_l1New.mono_l k
  ·intro y0 y1 y2
   unfold spec_l1New.l0
   repeat' first
   | (with_reducible exact b3 _ _ _)
   | (with_reducible exact LeO.refl _)
   | (with_reducible exact LeO.none _)
   | (with_reducible refine LeO.ite ?_ ?_)
   | (with_reducible refine LeO.bind ?_ (fun _ => ?_))
   | exact b3 _ _ _
   | exact LeO.none _
   | refine LeO.ite ?_ ?_
   | refine LeO.bind ?_ (fun _ => ?_)
theorem spec_l1New.mono : ∀ a0 k, LeO (spec_l1New.f k a0) (spec_l1New.f (k + 1) a0) := by
 intro a0 k
 have b3 := spec_l1New.mono_l k
 unfold spec_l1New.f
 repeat' first
   | (with_reducible exact b3 _ _ _)
   | (with_reducible exact LeO.refl _)
   | (with_reducible exact LeO.none _)
   | (with_reducible refine LeO.ite ?_ ?_)
   | (with_reducible refine LeO.bind ?_ (fun _ => ?_))
   | exact b3 _ _ _
   | exact LeO.none _
   | refine LeO.ite ?_ ?_
   | refine LeO.bind ?_ (fun _ => ?_)
set_option maxHeartbeats 8000000 in
set_option maxRecDepth 100000 in
theorem spec_l1New.calls (k : Nat) (A0 : Option Addr) (c0 : Nat) (l0 : List Int) (r1 : List Int) (r2 : Int) (r3 : Int) (w0 w : World) (hB : Below w0.heap.size w0 w) (hr0 : Kd.C (Kd.int .u8) w0 A0 l0.length l0) (hc0 : l0.length ≤ c0) (h : spec_l1New.f k l0 = some (r1, r2, r3)) :
  Calls Try.prog 80 #[.slice A0 l0.length c0] w fun e w' => ∃ g_ : Nat, e = .returned (.pointer (some ⟨g_, 0, none⟩)) ∧ IsS152 w0 w' g_ r1 r2 r3 ∧ Below w0.heap.size w0 w' ∧ Below w.heap.size w w' := by
 have t5 := Try.underlying152
 have j5 := mk_ hr0; have p9 := mk_ hc0; clear hr0 hc0; have HBW := mk_ (Below.refl w.heap.size w); have HW0 := mk_ hB.size; have HB := mk_ hB; clear hB
 have H : (spec_l1New.l0 k l0 (wrap64 (63063 + (l0.length : Int))) 0) = some (r1, r2, r3) := h
 clear h
 have H' := mk_ H
 clear H
 go_enter Try.func80, Try.ntmps80
 go_wp2
 go_loopg [3, 4] k (fun kq v3 v4 w' => ∃ (d8 : Int) (b1 : Int), v3 = .int .i64 d8 ∧ v4 = .int .i64 b1 ∧ Aside0 (spec_l1New.l0 kq l0 d8 b1 = some (r1, r2, r3)) ∧ Aside0 (kq ≤ k) ∧ Aside0 (Below w.heap.size w w') ∧ Aside0 (Below w0.heap.size w0 w'))
 case atStart => exact ⟨(wrap64 (63063 + (l0.length : Int))), (0), rf_, rf_, H', ⟨Nat.le_refl _⟩, ⟨hw_ HBW⟩, ⟨hw_ HB⟩⟩
 case round =>
  clear H'
  obtain ⟨d8, b1, rfl, rfl, HA, h5, HBW, HB⟩ := hrel
  cases gk with
  | zero => exact absurd HA.out (by simp [spec_l1New.l0])
  | succ k1 =>
   have H := HA.out; clear HA
   simp only [spec_l1New.l0] at H
   by_cases c2 : b1 < (l0.length : Int)
   ·rw [if_pos c2] at H; have q9 : decide (b1 < (l0.length : Int)) = true := decide_eq_true c2; clear c2; by_cases c3 : b1 < 4000
    ·rw [if_pos c3] at H; have h8 : decide (b1 < 4000) = true := decide_eq_true c3; clear c3; by_cases c4 : 0 ≤ b1
     ·rw [if_pos c4] at H; have j4 : decide (0 ≤ b1) = true := decide_eq_true c4; clear c4
      have H' := mk_ H
      clear H
      have m0 : 0 ≤ (b1 : Int) := od_
      have m1 : b1 < (l0.length : Int) := od_
      obtain ⟨t6, s0, g7⟩ := Kd.at_int j5.out b1 m0 m1; cases s0
      replace g7 := pw_cell_below HB.out g7
      replace m0 := eq_true m0; replace m1 := eq_true m1; go_wp2; go_roundg k1
      case measure => have := h5.out; omega
      case rel => exact ⟨(Go.bits .and .i64 (wrap64 ((wrap64 ((wrap64 (d8 * 131)) + (wrap64 (rd l0 b1)))) + 7)) 1073741823), (wrap64 (b1 + 1)), rf_, rf_, H', ⟨by have := h5.out; omega⟩, ⟨hw_ HBW⟩, ⟨hw_ HB⟩⟩
     ·rw [if_neg c4] at H
      exact absurd H (by simp)
    ·rw [if_neg c3] at H; have h8 : decide (b1 < 4000) = false := decide_eq_false c3; clear c3
     simp only [Option.some.injEq, Prod.mk.injEq] at H
     obtain ⟨rfl, rfl, rfl⟩ := H
     go_wp2_with (first | ((with_reducible refine gd_ 31 rfl ?_); refine box_event ?hg (N := 31) ?hd (cs := #[.slice A0 l0.length c0, .int .i64 0, .int .i64 d8]) (t := 152) ?hr ?_; (case hd => rfl); (case hg => rfl); (case hr => exact hr_); intro h9 hg w5 hbox hb; replace HB := bp_ HB hb; have n6 := mk_ (hbox); have t7 := gb_ hg HBW; have n7 := mk_ ((Nat.le_trans HW0.out (by rw [hg]; exact (below_size (by exact HBW.out)) : w.heap.size ≤ h9) : w0.heap.size ≤ h9)); replace HBW := mk_ (below_step HBW.out hb); clear hb hbox hg))
     go_ret
     exact ⟨_, rfl, (show IsS152 w0 _ h9 l0 0 d8 from ⟨_, _, by (with_reducible repeat (first | refine blk_drewN ?_ _ | refine blk_drew ?_ | refine blk_alloc ?_ _)); exact n6.out, n7.out, j5.out⟩), hw_ HB, hw_ HBW⟩
   ·rw [if_neg c2] at H; have q9 : decide (b1 < (l0.length : Int)) = false := decide_eq_false c2; clear c2
    simp only [Option.some.injEq, Prod.mk.injEq] at H
    obtain ⟨rfl, rfl, rfl⟩ := H
    go_wp2_with (first | ((with_reducible refine gd_ 31 rfl ?_); refine box_event ?hg (N := 31) ?hd (cs := #[.slice A0 l0.length c0, .int .i64 0, .int .i64 d8]) (t := 152) ?hr ?_; (case hd => rfl); (case hg => rfl); (case hr => exact hr_); intro j1 hg w6 hbox hb; replace HB := bp_ HB hb; have n8 := mk_ (hbox); have t8 := gb_ hg HBW; have n9 := mk_ ((Nat.le_trans HW0.out (by rw [hg]; exact (below_size (by exact HBW.out)) : w.heap.size ≤ j1) : w0.heap.size ≤ j1)); replace HBW := mk_ (below_step HBW.out hb); clear hb hbox hg))
    go_ret
    exact ⟨_, rfl, (show IsS152 w0 _ j1 l0 0 d8 from ⟨_, _, by (with_reducible repeat (first | refine blk_drewN ?_ _ | refine blk_drew ?_ | refine blk_alloc ?_ _)); exact n8.out, n9.out, j5.out⟩), hw_ HB, hw_ HBW⟩

end Go.Proofs.Ytnphbpkpjinddaa.QFnClears
-- squeezed
