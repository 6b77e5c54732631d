/- Lean functions that tell what the Go functions used by one law answer, and for each a proof that the Go code comes to just these answers; no condition. Printed by this session's own program over the kit's printer. -/
import Derived.Test.YtddojikjiebbbaaQFnExactCxOverx0
namespace Go.Proofs.Ytddojikjiebbbaa.QFnExactCxOver
open Go.RowKit Go.Proofs.YtddojikjiebbbaaW.PrintWords Go.Proofs.YtddojikjiebbbaaW.PrintLast Go.Proofs.YtddojikjiebbbaaW.PrintMore
attribute [local go_sem] max2_int min2_int max_two min_two max_three min_three max_four min_four   -- for this text's walks alone
attribute [local go_sem high] go_eql go_neq go_lss go_leq go_gtr go_geq go_store   -- for this text's walks alone
set_option linter.unusedVariables false
set_option linter.unusedSimpArgs false

/-! ### laws_toCx: function 16 -/
def laws_toCx.f (a0_0 : Fl) (a0_1 : Fl) : Option (Fl × Fl) := some (a0_0, a0_1)
set_option maxHeartbeats 8000000 in
set_option maxRecDepth 100000 in
theorem laws_toCx.calls (b_a0_0 : Nat) (a0_0 : Fl) (b_a0_1 : Nat) (a0_1 : Fl) (r1 : Fl) (r2 : Fl) (w : World) (hF_a0_0 : cn .f64 b_a0_0 = a0_0) (hF_a0_1 : cn .f64 b_a0_1 = a0_1) (h : laws_toCx.f a0_0 a0_1 = some (r1, r2)) :
    Calls Try.prog 16 #[.agg #[.float .f64 b_a0_0, .float .f64 b_a0_1]] w fun e w' => ∃ b_r1 b_r2 : Nat, e = .returned (.agg #[.float .f64 b_r1, .float .f64 b_r2]) ∧ cn .f64 b_r1 = r1 ∧ cn .f64 b_r2 = r2 ∧ Below w.heap.size w w' := by
  have hu24 := Try.underlying24
  have hu26 := Try.underlying26
  have HB := Aside0.mk (Below.refl w.heap.size w)
  have H : (some (a0_0, a0_1)) = some (r1, r2) := h
  clear h
  simp only [Option.some.injEq, Prod.mk.injEq] at H
  obtain ⟨rfl, rfl⟩ := H
  go_enter Try.func16, Try.ntmps16
  go_wp2_with (first | ((with_reducible refine gate_dst (N := 1) rfl ?_); refine box_event ?hg (N := 1) ?hd (cs := #[.float .f64 b_a0_0, .float .f64 b_a0_1]) (t := 24) ?hr ?_; (case hd => rfl); (case hg => rfl); (case hr => first | (go_simp; done) | (go_simp; rfl)); intro gb101 hg w2 hbox hb; have n0_ := Aside0.mk (below_step (by repeat (first | (with_reducible first | exact HB.out | apply below_alloc | apply pw_below_drewN | apply below_drew1) | exact HB.out)) hb); have n1_ := Aside0.mk (hbox); have n2_ := Aside0.mk ((by rw [hg]; exact (below_size (by repeat (first | (with_reducible first | exact HB.out | apply below_alloc | apply pw_below_drewN | apply below_drew1) | exact HB.out))) : w.heap.size ≤ gb101)); have n3_ := Aside0.mk ((by rw [hg]; exact (below_size (by repeat (first | (with_reducible first | exact HB.out | apply below_alloc | apply pw_below_drewN | apply below_drew1) | exact HB.out))) : w.heap.size ≤ gb101)); clear HB; have HB := n0_; have BK101 := n1_; have GW101 := n2_; have GE101 := n3_; clear n0_ n1_ n2_ n3_; clear hb hbox hg) | ((with_reducible refine gate_dst (N := 2) rfl ?_); refine box_event ?hg (N := 2) ?hd (cs := #[.float .f64 0, .float .f64 0]) (t := 26) ?hr ?_; (case hd => rfl); (case hg => rfl); (case hr => first | (go_simp; done) | (go_simp; rfl)); intro gb102 hg w3 hbox hb; have n0_ := Aside0.mk (blk_below (g := gb101) (o := .cells #[.float .f64 b_a0_0, .float .f64 b_a0_1] 24 (0, 0)) (by (with_reducible repeat (first | refine blk_drewN ?_ _ | refine blk_drew ?_ | refine blk_alloc ?_ _)); exact BK101.out) hb); have n1_ := Aside0.mk (below_step (by repeat (first | (with_reducible first | exact HB.out | apply below_alloc | apply pw_below_drewN | apply below_drew1 | refine below_set ?_ GE101.out) | exact HB.out)) hb); have n2_ := Aside0.mk (hbox); have n3_ := Aside0.mk ((by rw [hg]; exact (below_size (by repeat (first | (with_reducible first | exact HB.out | apply below_alloc | apply pw_below_drewN | apply below_drew1 | refine below_set ?_ GE101.out) | exact HB.out))) : w.heap.size ≤ gb102)); have n4_ := Aside0.mk ((by rw [hg]; exact (below_size (by repeat (first | (with_reducible first | exact HB.out | apply below_alloc | apply pw_below_drewN | apply below_drew1 | refine below_set ?_ GE101.out) | exact HB.out))) : w.heap.size ≤ gb102)); have n5_ := Aside0.mk ((by rw [hg]; exact Nat.ne_of_lt (blk_lt (g := gb101) (o := .cells #[.float .f64 b_a0_0, .float .f64 b_a0_1] 24 (0, 0)) (by (with_reducible repeat (first | refine blk_drewN ?_ _ | refine blk_drew ?_ | refine blk_alloc ?_ _)); exact BK101.out)) : gb101 ≠ gb102)); have n6_ := Aside0.mk ((by rw [hg]; exact Nat.ne_of_gt (blk_lt (g := gb101) (o := .cells #[.float .f64 b_a0_0, .float .f64 b_a0_1] 24 (0, 0)) (by (with_reducible repeat (first | refine blk_drewN ?_ _ | refine blk_drew ?_ | refine blk_alloc ?_ _)); exact BK101.out)) : gb102 ≠ gb101)); clear BK101; clear HB; have BK101 := n0_; have HB := n1_; have BK102 := n2_; have GW102 := n3_; have GE102 := n4_; have NB101_102 := n5_; have NB102_101 := n6_; clear n0_ n1_ n2_ n3_ n4_ n5_ n6_; clear hb hbox hg) | ((with_reducible refine gate_dst (N := 3) rfl ?_); refine box_event ?hg (N := 3) ?hd (cs := #[.float .f64 0, .float .f64 0]) (t := 26) ?hr ?_; (case hd => rfl); (case hg => rfl); (case hr => first | (go_simp; done) | (go_simp; rfl)); intro gb103 hg w4 hbox hb; have n0_ := Aside0.mk (blk_below (g := gb101) (o := .cells #[.float .f64 b_a0_0, .float .f64 b_a0_1] 24 (0, 0)) (by (with_reducible repeat (first | refine blk_drewN ?_ _ | refine blk_drew ?_ | refine blk_alloc ?_ _)); exact BK101.out) hb); have n1_ := Aside0.mk (blk_below (g := gb102) (o := .cells #[.float .f64 0, .float .f64 0] 26 (0, 0)) (by (with_reducible repeat (first | refine blk_drewN ?_ _ | refine blk_drew ?_ | refine blk_alloc ?_ _)); exact BK102.out) hb); have n2_ := Aside0.mk (below_step (by repeat (first | (with_reducible first | exact HB.out | apply below_alloc | apply pw_below_drewN | apply below_drew1 | refine below_set ?_ GE101.out | refine below_set ?_ GE102.out) | exact HB.out)) hb); have n3_ := Aside0.mk (hbox); have n4_ := Aside0.mk ((by rw [hg]; exact (below_size (by repeat (first | (with_reducible first | exact HB.out | apply below_alloc | apply pw_below_drewN | apply below_drew1 | refine below_set ?_ GE101.out | refine below_set ?_ GE102.out) | exact HB.out))) : w.heap.size ≤ gb103)); have n5_ := Aside0.mk ((by rw [hg]; exact (below_size (by repeat (first | (with_reducible first | exact HB.out | apply below_alloc | apply pw_below_drewN | apply below_drew1 | refine below_set ?_ GE101.out | refine below_set ?_ GE102.out) | exact HB.out))) : w.heap.size ≤ gb103)); have n6_ := Aside0.mk ((by rw [hg]; exact Nat.ne_of_lt (blk_lt (g := gb101) (o := .cells #[.float .f64 b_a0_0, .float .f64 b_a0_1] 24 (0, 0)) (by (with_reducible repeat (first | refine blk_drewN ?_ _ | refine blk_drew ?_ | refine blk_alloc ?_ _)); exact BK101.out)) : gb101 ≠ gb103)); have n7_ := Aside0.mk ((by rw [hg]; exact Nat.ne_of_gt (blk_lt (g := gb101) (o := .cells #[.float .f64 b_a0_0, .float .f64 b_a0_1] 24 (0, 0)) (by (with_reducible repeat (first | refine blk_drewN ?_ _ | refine blk_drew ?_ | refine blk_alloc ?_ _)); exact BK101.out)) : gb103 ≠ gb101)); have n8_ := Aside0.mk ((by rw [hg]; exact Nat.ne_of_lt (blk_lt (g := gb102) (o := .cells #[.float .f64 0, .float .f64 0] 26 (0, 0)) (by (with_reducible repeat (first | refine blk_drewN ?_ _ | refine blk_drew ?_ | refine blk_alloc ?_ _)); exact BK102.out)) : gb102 ≠ gb103)); have n9_ := Aside0.mk ((by rw [hg]; exact Nat.ne_of_gt (blk_lt (g := gb102) (o := .cells #[.float .f64 0, .float .f64 0] 26 (0, 0)) (by (with_reducible repeat (first | refine blk_drewN ?_ _ | refine blk_drew ?_ | refine blk_alloc ?_ _)); exact BK102.out)) : gb103 ≠ gb102)); clear BK101; clear BK102; clear HB; have BK101 := n0_; have BK102 := n1_; have HB := n2_; have BK103 := n3_; have GW103 := n4_; have GE103 := n5_; have NB101_103 := n6_; have NB103_101 := n7_; have NB102_103 := n8_; have NB103_102 := n9_; clear n0_ n1_ n2_ n3_ n4_ n5_ n6_ n7_ n8_ n9_; clear hb hbox hg; have hnb5 := NB101_102.out; have hnc5 := NB102_101.out; have hnb6 := NB101_103.out; have hnc6 := NB103_101.out; have hcz7_0 : w4.cell? ⟨gb101, 0, none⟩ = some (.float .f64 b_a0_0) := (blk_cell BK101.out 0).trans rfl; have hcz7_1 : w4.cell? ⟨gb101, 1, none⟩ = some (.float .f64 b_a0_1) := (blk_cell BK101.out 1).trans rfl; have hfz7_0 := blk_frozen BK101.out 0; have hfz7_1 := blk_frozen BK101.out 1; have hnb8 := NB103_102.out; have hnc8 := NB102_103.out; have hcz9_0 : w4.cell? ⟨gb103, 0, none⟩ = some (.float .f64 0) := (blk_cell BK103.out 0).trans rfl; have hcz9_1 : w4.cell? ⟨gb103, 1, none⟩ = some (.float .f64 0) := (blk_cell BK103.out 1).trans rfl; have hfz9_0 := blk_frozen BK103.out 0; have hfz9_1 := blk_frozen BK103.out 1; have hcz10_0 : w4.cell? ⟨gb102, 0, none⟩ = some (.float .f64 0) := (blk_cell BK102.out 0).trans rfl; have hcz10_1 : w4.cell? ⟨gb102, 1, none⟩ = some (.float .f64 0) := (blk_cell BK102.out 1).trans rfl; have hfz10_0 := blk_frozen BK102.out 0; have hfz10_1 := blk_frozen BK102.out 1))
  refine bodyPost_ret (results_cell_row rfl _ _ gb102 26 #[.float .f64 b_a0_0, .float .f64 b_a0_1] (0, 0) _ rfl (by (with_reducible repeat (first | refine blk_drewN ?_ _ | refine blk_drew ?_ | refine blk_alloc ?_ _)); refine blk_put (cs := #[.float .f64 b_a0_0, .float .f64 0]) ?_ 1 _ rfl; (with_reducible repeat (first | refine blk_drewN ?_ _ | refine blk_drew ?_ | refine blk_alloc ?_ _)); refine blk_put (cs := #[.float .f64 0, .float .f64 0]) ?_ 0 _ rfl; (with_reducible repeat (first | refine blk_drewN ?_ _ | refine blk_drew ?_ | refine blk_alloc ?_ _)); refine blk_far ?_ NB102_103.out _; (with_reducible repeat (first | refine blk_drewN ?_ _ | refine blk_drew ?_ | refine blk_alloc ?_ _)); refine blk_far ?_ NB102_103.out _; (with_reducible repeat (first | refine blk_drewN ?_ _ | refine blk_drew ?_ | refine blk_alloc ?_ _)); exact BK102.out) Try.underlying26 rfl (by kernel_rfl)) rfl ?_
  exact ⟨b_a0_0, b_a0_1, by first | rfl | (simp [errW_none, errW_some] <;> rfl) | (simp [*, errW_none, errW_some] <;> rfl), hF_a0_0, hF_a0_1, by repeat (first | (with_reducible first | exact HB.out | apply below_alloc | apply pw_below_drewN | apply below_drew1 | refine below_set ?_ GE101.out | refine below_set ?_ GE102.out | refine below_set ?_ GE103.out) | exact HB.out)⟩

/-! ### laws_sameFloat: function 42 -/
def laws_sameFloat.j0 : Nat → Fl → Fl → Bool → Option (Bool)
  | 0, _, _, _ => none
  | k + 1, x0, x1, x12 => if x12 = true then (if (fcmp .neq .f64 x0 x0) = true then (some (fcmp .neq .f64 x1 x1)) else (some false)) else (if (fcmp .eql .f64 x0 (cn .f64 0)) = true then (if (fcmp .eql .f64 x1 (cn .f64 0)) = true then (some ((fcmp .gtr .f64 (fop .quo .f64 (cn .f64 4607182418800017408) x0) (cn .f64 0)) == (fcmp .gtr .f64 (fop .quo .f64 (cn .f64 4607182418800017408) x1) (cn .f64 0)))) else (some (fcmp .eql .f64 x0 x1))) else (some (fcmp .eql .f64 x0 x1)))
def laws_sameFloat.f (k : Nat) (a0 : Fl) (a1 : Fl) : Option (Bool) := if (fcmp .neq .f64 a0 a0) = true then (laws_sameFloat.j0 k a0 a1 true) else (laws_sameFloat.j0 k a0 a1 (fcmp .neq .f64 a1 a1))
theorem laws_sameFloat.mono_l : ∀ k, (∀ y0 y1 y2, LeO (laws_sameFloat.j0 k y0 y1 y2) (laws_sameFloat.j0 (k + 1) y0 y1 y2))
  | 0 => fun _ _ _ r h => by simp [laws_sameFloat.j0] at h
  | k + 1 => by
    have ih0 := laws_sameFloat.mono_l k
    · intro y0 y1 y2
      unfold laws_sameFloat.j0
      repeat' first
      | (with_reducible exact ih0 _ _ _)
      | (with_reducible exact LeO.refl _)
      | (with_reducible exact LeO.none _)
      | (with_reducible refine LeO.ite ?_ ?_)
      | (with_reducible refine LeO.bind ?_ (fun _ => ?_))
      | exact ih0 _ _ _
      | exact LeO.none _
      | refine LeO.ite ?_ ?_
      | refine LeO.bind ?_ (fun _ => ?_)
theorem laws_sameFloat.mono : ∀ a0 a1 k, LeO (laws_sameFloat.f k a0 a1) (laws_sameFloat.f (k + 1) a0 a1) := by
  intro a0 a1 k
  have ih0 := laws_sameFloat.mono_l k
  unfold laws_sameFloat.f
  repeat' first
      | (with_reducible exact ih0 _ _ _)
      | (with_reducible exact LeO.refl _)
      | (with_reducible exact LeO.none _)
      | (with_reducible refine LeO.ite ?_ ?_)
      | (with_reducible refine LeO.bind ?_ (fun _ => ?_))
      | exact ih0 _ _ _
      | exact LeO.none _
      | refine LeO.ite ?_ ?_
      | refine LeO.bind ?_ (fun _ => ?_)
set_option maxHeartbeats 8000000 in
set_option maxRecDepth 100000 in
theorem laws_sameFloat.calls (k : Nat) (b_a0 : Nat) (a0 : Fl) (b_a1 : Nat) (a1 : Fl) (r : Bool) (w : World) (hF_a0 : cn .f64 b_a0 = a0) (hF_a1 : cn .f64 b_a1 = a1) (h : laws_sameFloat.f k a0 a1 = some r) :
    Calls Try.prog 42 #[.float .f64 b_a0, .float .f64 b_a1] w fun e w' => e = .returned (.bool r) ∧ Drawn0 w w' := by
  have H : (if (fcmp .neq .f64 a0 a0) = true then (laws_sameFloat.j0 k a0 a1 true) else (laws_sameFloat.j0 k a0 a1 (fcmp .neq .f64 a1 a1))) = some r := h
  clear h
  have HC3 := Aside0.mk H
  clear H
  go_enter Try.func42, Try.ntmps42
  go_upto_region 1 with (fail)
  go_cut [12] (fun v12 wc => ∃ (kq : Nat) (x12_2 : Bool), v12 = .bool x12_2 ∧ Aside0 (laws_sameFloat.j0 kq a0 a1 x12_2 = some r) ∧ Aside0 (kq ≤ k) ∧ Drawn0 w wc)
  case first =>
    have H := HC3.out
    clear HC3
    by_cases c4 : (fcmp .neq .f64 a0 a0) = true
    · rw [if_pos c4] at H
      have c4b0 : (fcmp .neq .f64 a0 a0) = true := c4
      clear c4
      (first | rw [c4b0] | (simp only [i64_w, i32_w]; rw [c4b0]) | skip)
      have H' := Aside0.mk H
      clear H
      go_wp2
      go_meet
      case rel => exact ⟨_, (true), (by first | rfl | (simp; done) | (simp [*]; done)), H', ⟨by first | omega | exact Nat.le_refl _⟩, by repeat (first | exact Drawn0.refl _ | apply Drawn0.step)⟩
    · rw [if_neg c4] at H
      have c4b0 : (fcmp .neq .f64 a0 a0) = false := by simpa using c4
      clear c4
      (first | rw [c4b0] | (simp only [i64_w, i32_w]; rw [c4b0]) | skip)
      have H' := Aside0.mk H
      clear H
      go_wp2
      go_meet
      case rel => exact ⟨_, ((fcmp .neq .f64 a1 a1)), (by first | rfl | (simp; done) | (simp [*]; done)), H', ⟨by first | omega | exact Nat.le_refl _⟩, by repeat (first | exact Drawn0.refl _ | apply Drawn0.step)⟩
  case rest =>
    clear HC3
    try clear p2
    try clear c4
    try clear c4b0
    obtain ⟨kq, x12_2, rfl, HA, HJ2, ⟨mc2, rfl⟩⟩ := hcut
    cases kq with
    | zero => exact absurd HA.out (by simp [laws_sameFloat.j0])
    | succ kj2 =>
      have H := HA.out
      clear HA
      simp only [laws_sameFloat.j0] at H
      by_cases c5 : x12_2 = true
      · subst c5
        have H1 : (if (fcmp .neq .f64 a0 a0) = true then (some (fcmp .neq .f64 a1 a1)) else (some false)) = some r := by rw [if_pos rfl] at H; exact H
        clear H
        have H := H1
        clear H1
        by_cases c6 : (fcmp .neq .f64 a0 a0) = true
        · rw [if_pos c6] at H
          have c6b0 : (fcmp .neq .f64 a0 a0) = true := c6
          clear c6
          obtain rfl := Option.some.inj H
          go_wp2
          go_ret
          exact ⟨by first | rfl | (simp; done) | (simp [*]; done), by repeat (first | exact Drawn0.refl _ | apply Drawn0.step)⟩
        · rw [if_neg c6] at H
          have c6b0 : (fcmp .neq .f64 a0 a0) = false := by simpa using c6
          clear c6
          obtain rfl := Option.some.inj H
          go_wp2
          go_ret
          exact ⟨by first | rfl | (simp; done) | (simp [*]; done), by repeat (first | exact Drawn0.refl _ | apply Drawn0.step)⟩
      · replace c5 := Bool.eq_false_iff.mpr c5
        subst c5
        have H1 : (if (fcmp .eql .f64 a0 (cn .f64 0)) = true then (if (fcmp .eql .f64 a1 (cn .f64 0)) = true then (some ((fcmp .gtr .f64 (fop .quo .f64 (cn .f64 4607182418800017408) a0) (cn .f64 0)) == (fcmp .gtr .f64 (fop .quo .f64 (cn .f64 4607182418800017408) a1) (cn .f64 0)))) else (some (fcmp .eql .f64 a0 a1))) else (some (fcmp .eql .f64 a0 a1))) = some r := by rw [if_neg (show ¬ (false = true) by decide)] at H; exact H
        clear H
        have H := H1
        clear H1
        by_cases c7 : (fcmp .eql .f64 a0 (cn .f64 0)) = true
        · rw [if_pos c7] at H
          have c7b0 : (fcmp .eql .f64 a0 (cn .f64 0)) = true := c7
          clear c7
          by_cases c8 : (fcmp .eql .f64 a1 (cn .f64 0)) = true
          · rw [if_pos c8] at H
            have c8b0 : (fcmp .eql .f64 a1 (cn .f64 0)) = true := c8
            clear c8
            obtain ⟨ft104, hft104⟩ : ∃ y_ : Fl, y_ = (fop .quo .f64 (cn .f64 4607182418800017408) a0) := ⟨_, rfl⟩
            replace H : (some ((fcmp .gtr .f64 ft104 (cn .f64 0)) == (fcmp .gtr .f64 (fop .quo .f64 (cn .f64 4607182418800017408) a1) (cn .f64 0)))) = some r := by first | (rw [hft104]; with_reducible exact H) | (have H2_ := (Option.bind_some _ _).symm.trans H; rw [hft104]; with_reducible exact H2_) | (have H2_ := (Option.bind_some _ _).symm.trans H; with_reducible exact H2_) | with_reducible exact H | (rw [hft104]; exact H) | exact H
            have Nft104 := Aside0.mk hft104
            clear hft104
            obtain ⟨ft105, hft105⟩ : ∃ y_ : Fl, y_ = (fop .quo .f64 (cn .f64 4607182418800017408) a1) := ⟨_, rfl⟩
            replace H : (some ((fcmp .gtr .f64 ft104 (cn .f64 0)) == (fcmp .gtr .f64 ft105 (cn .f64 0)))) = some r := by first | (rw [hft105]; with_reducible exact H) | (have H2_ := (Option.bind_some _ _).symm.trans H; rw [hft105]; with_reducible exact H2_) | (have H2_ := (Option.bind_some _ _).symm.trans H; with_reducible exact H2_) | with_reducible exact H | (rw [hft105]; exact H) | exact H
            have Nft105 := Aside0.mk hft105
            clear hft105
            obtain rfl := Option.some.inj H
            go_wp2_with (first | ((with_reducible refine gate_dst (N := 28) rfl ?_); refine fop_event rfl (N := 28) rfl (op := .quo) (by simp) rfl .f64 4607182418800017408 b_a0 (cn .f64 4607182418800017408) a0 rfl rfl rfl hF_a0 ?_; intro b_ft104 nf_ hF_; replace hF_ := hF_.trans Nft104.out.symm; have hF_ft104 := hF_; clear hF_) | ((with_reducible refine gate_dst (N := 31) rfl ?_); refine fop_event rfl (N := 31) rfl (op := .quo) (by simp) rfl .f64 4607182418800017408 b_a1 (cn .f64 4607182418800017408) a1 rfl rfl rfl hF_a1 ?_; intro b_ft105 nf_ hF_; replace hF_ := hF_.trans Nft105.out.symm; have hF_ft105 := hF_; clear hF_))
            go_ret
            exact ⟨by first | rfl | (simp; done) | (simp [*]; done), by repeat (first | exact Drawn0.refl _ | apply Drawn0.step)⟩
          · rw [if_neg c8] at H
            have c8b0 : (fcmp .eql .f64 a1 (cn .f64 0)) = false := by simpa using c8
            clear c8
            obtain rfl := Option.some.inj H
            go_wp2
            go_ret
            exact ⟨by first | rfl | (simp; done) | (simp [*]; done), by repeat (first | exact Drawn0.refl _ | apply Drawn0.step)⟩
        · rw [if_neg c7] at H
          have c7b0 : (fcmp .eql .f64 a0 (cn .f64 0)) = false := by simpa using c7
          clear c7
          obtain rfl := Option.some.inj H
          go_wp2
          go_ret
          exact ⟨by first | rfl | (simp; done) | (simp [*]; done), by repeat (first | exact Drawn0.refl _ | apply Drawn0.step)⟩

/-! ### laws_eqCx: function 23 -/
def laws_eqCx.f (k : Nat) (a0_0 : Fl) (a0_1 : Fl) (a1_0 : Fl) (a1_1 : Fl) : Option (Bool) := (laws_sameFloat.f k a0_0 a1_0).bind fun t108 => (if t108 = true then ((laws_sameFloat.f k a0_1 a1_1).bind fun t109 => (if t109 = true then (some true) else (some false))) else (some false))
theorem laws_eqCx.mono : ∀ a0 a1 a2 a3 k, LeO (laws_eqCx.f k a0 a1 a2 a3) (laws_eqCx.f (k + 1) a0 a1 a2 a3) := by
  intro a0 a1 a2 a3 k
  unfold laws_eqCx.f
  repeat' first
      | (with_reducible exact laws_sameFloat.mono _ _ _)
      | (with_reducible exact LeO.refl _)
      | (with_reducible exact LeO.none _)
      | (with_reducible refine LeO.ite ?_ ?_)
      | (with_reducible refine LeO.bind ?_ (fun _ => ?_))
      | exact laws_sameFloat.mono _ _ _
      | exact LeO.none _
      | refine LeO.ite ?_ ?_
      | refine LeO.bind ?_ (fun _ => ?_)
set_option maxHeartbeats 8000000 in
set_option maxRecDepth 100000 in
theorem laws_eqCx.calls (k : Nat) (b_a0_0 : Nat) (a0_0 : Fl) (b_a0_1 : Nat) (a0_1 : Fl) (b_a1_0 : Nat) (a1_0 : Fl) (b_a1_1 : Nat) (a1_1 : Fl) (r : Bool) (w : World) (hF_a0_0 : cn .f64 b_a0_0 = a0_0) (hF_a0_1 : cn .f64 b_a0_1 = a0_1) (hF_a1_0 : cn .f64 b_a1_0 = a1_0) (hF_a1_1 : cn .f64 b_a1_1 = a1_1) (h : laws_eqCx.f k a0_0 a0_1 a1_0 a1_1 = some r) :
    Calls Try.prog 23 #[.agg #[.float .f64 b_a0_0, .float .f64 b_a0_1], .agg #[.float .f64 b_a1_0, .float .f64 b_a1_1]] w fun e w' => e = .returned (.bool r) ∧ Below w.heap.size w w' := by
  have hu26 := Try.underlying26
  have HB := Aside0.mk (Below.refl w.heap.size w)
  have H : ((laws_sameFloat.f k a0_0 a1_0).bind fun t108 => (if t108 = true then ((laws_sameFloat.f k a0_1 a1_1).bind fun t109 => (if t109 = true then (some true) else (some false))) else (some false))) = some r := h
  clear h
  replace H := Option.bind_eq_some_iff.mp H
  obtain ⟨t108, A30, H⟩ := H
  replace H : (if t108 = true then ((laws_sameFloat.f k a0_1 a1_1).bind fun t109 => (if t109 = true then (some true) else (some false))) else (some false)) = some r := H
  have A3 := Aside0.mk A30
  clear A30
  by_cases c4 : t108 = true
  · subst c4
    have H1 : ((laws_sameFloat.f k a0_1 a1_1).bind fun t109 => (if t109 = true then (some true) else (some false))) = some r := by rw [if_pos rfl] at H; exact H
    clear H
    have H := H1
    clear H1
    replace H := Option.bind_eq_some_iff.mp H
    obtain ⟨t109, A50, H⟩ := H
    replace H : (if t109 = true then (some true) else (some false)) = some r := H
    have A5 := Aside0.mk A50
    clear A50
    by_cases c6 : t109 = true
    · subst c6
      have H1 : (some true) = some r := by rw [if_pos rfl] at H; exact H
      clear H
      have H := H1
      clear H1
      obtain rfl := Option.some.inj H
      go_enter Try.func23, Try.ntmps23
      go_wp2_with (first | ((with_reducible refine gate_dst (N := 2) rfl ?_); refine box_event ?hg (N := 2) ?hd (cs := #[.float .f64 b_a0_0, .float .f64 b_a0_1]) (t := 26) ?hr ?_; (case hd => rfl); (case hg => rfl); (case hr => first | (go_simp; done) | (go_simp; rfl)); intro gb106 hg w7 hbox hb; have n0_ := Aside0.mk (below_step (by repeat (first | (with_reducible first | exact HB.out | apply below_alloc | apply pw_below_drewN | apply below_drew1) | exact HB.out)) hb); have n1_ := Aside0.mk (hbox); have n2_ := Aside0.mk ((by rw [hg]; exact (below_size (by repeat (first | (with_reducible first | exact HB.out | apply below_alloc | apply pw_below_drewN | apply below_drew1) | exact HB.out))) : w.heap.size ≤ gb106)); have n3_ := Aside0.mk ((by rw [hg]; exact (below_size (by repeat (first | (with_reducible first | exact HB.out | apply below_alloc | apply pw_below_drewN | apply below_drew1) | exact HB.out))) : w.heap.size ≤ gb106)); clear HB; have HB := n0_; have BK106 := n1_; have GW106 := n2_; have GE106 := n3_; clear n0_ n1_ n2_ n3_; clear hb hbox hg) | ((with_reducible refine gate_dst (N := 3) rfl ?_); refine box_event ?hg (N := 3) ?hd (cs := #[.float .f64 b_a1_0, .float .f64 b_a1_1]) (t := 26) ?hr ?_; (case hd => rfl); (case hg => rfl); (case hr => first | (go_simp; done) | (go_simp; rfl)); intro gb107 hg w8 hbox hb; have n0_ := Aside0.mk (blk_below (g := gb106) (o := .cells #[.float .f64 b_a0_0, .float .f64 b_a0_1] 26 (0, 0)) (by (with_reducible repeat (first | refine blk_drewN ?_ _ | refine blk_drew ?_ | refine blk_alloc ?_ _)); exact BK106.out) hb); have n1_ := Aside0.mk (below_step (by repeat (first | (with_reducible first | exact HB.out | apply below_alloc | apply pw_below_drewN | apply below_drew1 | refine below_set ?_ GE106.out) | exact HB.out)) hb); have n2_ := Aside0.mk (hbox); have n3_ := Aside0.mk ((by rw [hg]; exact (below_size (by repeat (first | (with_reducible first | exact HB.out | apply below_alloc | apply pw_below_drewN | apply below_drew1 | refine below_set ?_ GE106.out) | exact HB.out))) : w.heap.size ≤ gb107)); have n4_ := Aside0.mk ((by rw [hg]; exact (below_size (by repeat (first | (with_reducible first | exact HB.out | apply below_alloc | apply pw_below_drewN | apply below_drew1 | refine below_set ?_ GE106.out) | exact HB.out))) : w.heap.size ≤ gb107)); have n5_ := Aside0.mk ((by rw [hg]; exact Nat.ne_of_lt (blk_lt (g := gb106) (o := .cells #[.float .f64 b_a0_0, .float .f64 b_a0_1] 26 (0, 0)) (by (with_reducible repeat (first | refine blk_drewN ?_ _ | refine blk_drew ?_ | refine blk_alloc ?_ _)); exact BK106.out)) : gb106 ≠ gb107)); have n6_ := Aside0.mk ((by rw [hg]; exact Nat.ne_of_gt (blk_lt (g := gb106) (o := .cells #[.float .f64 b_a0_0, .float .f64 b_a0_1] 26 (0, 0)) (by (with_reducible repeat (first | refine blk_drewN ?_ _ | refine blk_drew ?_ | refine blk_alloc ?_ _)); exact BK106.out)) : gb107 ≠ gb106)); clear BK106; clear HB; have BK106 := n0_; have HB := n1_; have BK107 := n2_; have GW107 := n3_; have GE107 := n4_; have NB106_107 := n5_; have NB107_106 := n6_; clear n0_ n1_ n2_ n3_ n4_ n5_ n6_; clear hb hbox hg; have hnb9 := NB106_107.out; have hnc9 := NB107_106.out; have hcz10_0 : w8.cell? ⟨gb106, 0, none⟩ = some (.float .f64 b_a0_0) := (blk_cell BK106.out 0).trans rfl; have hcz10_1 : w8.cell? ⟨gb106, 1, none⟩ = some (.float .f64 b_a0_1) := (blk_cell BK106.out 1).trans rfl; have hfz10_0 := blk_frozen BK106.out 0; have hfz10_1 := blk_frozen BK106.out 1; have hcz11_0 : w8.cell? ⟨gb107, 0, none⟩ = some (.float .f64 b_a1_0) := (blk_cell BK107.out 0).trans rfl; have hcz11_1 : w8.cell? ⟨gb107, 1, none⟩ = some (.float .f64 b_a1_1) := (blk_cell BK107.out 1).trans rfl; have hfz11_0 := blk_frozen BK107.out 0; have hfz11_1 := blk_frozen BK107.out 1) | ((with_reducible refine gate_callee (f := 42) rfl ?_); refine goesL_ (some 9) rfl rfl Try.func42 (by kernel_rfl) rfl #[.float .f64 b_a0_0, .float .f64 b_a1_0] rfl (by (try simp only [List.map_toArray, List.map_cons, List.map_nil]); first | done | rfl | (simp only [List.length_drop, List.length_take]; rfl)) ?_; (with_reducible refine (laws_sameFloat.calls k b_a0_0 a0_0 b_a1_0 a1_0 true _ ?side1 ?side2 A3.out).mono ?_); (case side1 => exact hF_a0_0); (case side2 => exact hF_a1_0); rintro e w' ⟨rfl, ⟨nd, rfl⟩⟩; refine ⟨_, rfl, ?_⟩) | ((with_reducible refine gate_callee (f := 42) rfl ?_); refine goesL_ (some 15) rfl rfl Try.func42 (by kernel_rfl) rfl #[.float .f64 b_a0_1, .float .f64 b_a1_1] rfl (by (try simp only [List.map_toArray, List.map_cons, List.map_nil]); first | done | rfl | (simp only [List.length_drop, List.length_take]; rfl)) ?_; (with_reducible refine (laws_sameFloat.calls k b_a0_1 a0_1 b_a1_1 a1_1 true _ ?side1 ?side2 A5.out).mono ?_); (case side1 => exact hF_a0_1); (case side2 => exact hF_a1_1); rintro e w' ⟨rfl, ⟨nd, rfl⟩⟩; refine ⟨_, rfl, ?_⟩))
      go_ret
      exact ⟨by first | rfl | (simp [errW_none, errW_some] <;> rfl) | (simp [*, errW_none, errW_some] <;> rfl), by repeat (first | (with_reducible first | exact HB.out | apply below_alloc | apply pw_below_drewN | apply below_drew1 | refine below_set ?_ GE106.out | refine below_set ?_ GE107.out) | exact HB.out)⟩
    · replace c6 := Bool.eq_false_iff.mpr c6
      subst c6
      have H1 : (some false) = some r := by rw [if_neg (show ¬ (false = true) by decide)] at H; exact H
      clear H
      have H := H1
      clear H1
      obtain rfl := Option.some.inj H
      go_enter Try.func23, Try.ntmps23
      go_wp2_with (first | ((with_reducible refine gate_dst (N := 2) rfl ?_); refine box_event ?hg (N := 2) ?hd (cs := #[.float .f64 b_a0_0, .float .f64 b_a0_1]) (t := 26) ?hr ?_; (case hd => rfl); (case hg => rfl); (case hr => first | (go_simp; done) | (go_simp; rfl)); intro gb106 hg w12 hbox hb; have n0_ := Aside0.mk (below_step (by repeat (first | (with_reducible first | exact HB.out | apply below_alloc | apply pw_below_drewN | apply below_drew1) | exact HB.out)) hb); have n1_ := Aside0.mk (hbox); have n2_ := Aside0.mk ((by rw [hg]; exact (below_size (by repeat (first | (with_reducible first | exact HB.out | apply below_alloc | apply pw_below_drewN | apply below_drew1) | exact HB.out))) : w.heap.size ≤ gb106)); have n3_ := Aside0.mk ((by rw [hg]; exact (below_size (by repeat (first | (with_reducible first | exact HB.out | apply below_alloc | apply pw_below_drewN | apply below_drew1) | exact HB.out))) : w.heap.size ≤ gb106)); clear HB; have HB := n0_; have BK106 := n1_; have GW106 := n2_; have GE106 := n3_; clear n0_ n1_ n2_ n3_; clear hb hbox hg) | ((with_reducible refine gate_dst (N := 3) rfl ?_); refine box_event ?hg (N := 3) ?hd (cs := #[.float .f64 b_a1_0, .float .f64 b_a1_1]) (t := 26) ?hr ?_; (case hd => rfl); (case hg => rfl); (case hr => first | (go_simp; done) | (go_simp; rfl)); intro gb107 hg w13 hbox hb; have n0_ := Aside0.mk (blk_below (g := gb106) (o := .cells #[.float .f64 b_a0_0, .float .f64 b_a0_1] 26 (0, 0)) (by (with_reducible repeat (first | refine blk_drewN ?_ _ | refine blk_drew ?_ | refine blk_alloc ?_ _)); exact BK106.out) hb); have n1_ := Aside0.mk (below_step (by repeat (first | (with_reducible first | exact HB.out | apply below_alloc | apply pw_below_drewN | apply below_drew1 | refine below_set ?_ GE106.out) | exact HB.out)) hb); have n2_ := Aside0.mk (hbox); have n3_ := Aside0.mk ((by rw [hg]; exact (below_size (by repeat (first | (with_reducible first | exact HB.out | apply below_alloc | apply pw_below_drewN | apply below_drew1 | refine below_set ?_ GE106.out) | exact HB.out))) : w.heap.size ≤ gb107)); have n4_ := Aside0.mk ((by rw [hg]; exact (below_size (by repeat (first | (with_reducible first | exact HB.out | apply below_alloc | apply pw_below_drewN | apply below_drew1 | refine below_set ?_ GE106.out) | exact HB.out))) : w.heap.size ≤ gb107)); have n5_ := Aside0.mk ((by rw [hg]; exact Nat.ne_of_lt (blk_lt (g := gb106) (o := .cells #[.float .f64 b_a0_0, .float .f64 b_a0_1] 26 (0, 0)) (by (with_reducible repeat (first | refine blk_drewN ?_ _ | refine blk_drew ?_ | refine blk_alloc ?_ _)); exact BK106.out)) : gb106 ≠ gb107)); have n6_ := Aside0.mk ((by rw [hg]; exact Nat.ne_of_gt (blk_lt (g := gb106) (o := .cells #[.float .f64 b_a0_0, .float .f64 b_a0_1] 26 (0, 0)) (by (with_reducible repeat (first | refine blk_drewN ?_ _ | refine blk_drew ?_ | refine blk_alloc ?_ _)); exact BK106.out)) : gb107 ≠ gb106)); clear BK106; clear HB; have BK106 := n0_; have HB := n1_; have BK107 := n2_; have GW107 := n3_; have GE107 := n4_; have NB106_107 := n5_; have NB107_106 := n6_; clear n0_ n1_ n2_ n3_ n4_ n5_ n6_; clear hb hbox hg; have hnb14 := NB106_107.out; have hnc14 := NB107_106.out; have hcz15_0 : w13.cell? ⟨gb106, 0, none⟩ = some (.float .f64 b_a0_0) := (blk_cell BK106.out 0).trans rfl; have hcz15_1 : w13.cell? ⟨gb106, 1, none⟩ = some (.float .f64 b_a0_1) := (blk_cell BK106.out 1).trans rfl; have hfz15_0 := blk_frozen BK106.out 0; have hfz15_1 := blk_frozen BK106.out 1; have hcz16_0 : w13.cell? ⟨gb107, 0, none⟩ = some (.float .f64 b_a1_0) := (blk_cell BK107.out 0).trans rfl; have hcz16_1 : w13.cell? ⟨gb107, 1, none⟩ = some (.float .f64 b_a1_1) := (blk_cell BK107.out 1).trans rfl; have hfz16_0 := blk_frozen BK107.out 0; have hfz16_1 := blk_frozen BK107.out 1) | ((with_reducible refine gate_callee (f := 42) rfl ?_); refine goesL_ (some 9) rfl rfl Try.func42 (by kernel_rfl) rfl #[.float .f64 b_a0_0, .float .f64 b_a1_0] rfl (by (try simp only [List.map_toArray, List.map_cons, List.map_nil]); first | done | rfl | (simp only [List.length_drop, List.length_take]; rfl)) ?_; (with_reducible refine (laws_sameFloat.calls k b_a0_0 a0_0 b_a1_0 a1_0 true _ ?side1 ?side2 A3.out).mono ?_); (case side1 => exact hF_a0_0); (case side2 => exact hF_a1_0); rintro e w' ⟨rfl, ⟨nd, rfl⟩⟩; refine ⟨_, rfl, ?_⟩) | ((with_reducible refine gate_callee (f := 42) rfl ?_); refine goesL_ (some 15) rfl rfl Try.func42 (by kernel_rfl) rfl #[.float .f64 b_a0_1, .float .f64 b_a1_1] rfl (by (try simp only [List.map_toArray, List.map_cons, List.map_nil]); first | done | rfl | (simp only [List.length_drop, List.length_take]; rfl)) ?_; (with_reducible refine (laws_sameFloat.calls k b_a0_1 a0_1 b_a1_1 a1_1 false _ ?side1 ?side2 A5.out).mono ?_); (case side1 => exact hF_a0_1); (case side2 => exact hF_a1_1); rintro e w' ⟨rfl, ⟨nd, rfl⟩⟩; refine ⟨_, rfl, ?_⟩))
      go_ret
      exact ⟨by first | rfl | (simp [errW_none, errW_some] <;> rfl) | (simp [*, errW_none, errW_some] <;> rfl), by repeat (first | (with_reducible first | exact HB.out | apply below_alloc | apply pw_below_drewN | apply below_drew1 | refine below_set ?_ GE106.out | refine below_set ?_ GE107.out) | exact HB.out)⟩
  · replace c4 := Bool.eq_false_iff.mpr c4
    subst c4
    have H1 : (some false) = some r := by rw [if_neg (show ¬ (false = true) by decide)] at H; exact H
    clear H
    have H := H1
    clear H1
    obtain rfl := Option.some.inj H
    go_enter Try.func23, Try.ntmps23
    go_wp2_with (first | ((with_reducible refine gate_dst (N := 2) rfl ?_); refine box_event ?hg (N := 2) ?hd (cs := #[.float .f64 b_a0_0, .float .f64 b_a0_1]) (t := 26) ?hr ?_; (case hd => rfl); (case hg => rfl); (case hr => first | (go_simp; done) | (go_simp; rfl)); intro gb106 hg w17 hbox hb; have n0_ := Aside0.mk (below_step (by repeat (first | (with_reducible first | exact HB.out | apply below_alloc | apply pw_below_drewN | apply below_drew1) | exact HB.out)) hb); have n1_ := Aside0.mk (hbox); have n2_ := Aside0.mk ((by rw [hg]; exact (below_size (by repeat (first | (with_reducible first | exact HB.out | apply below_alloc | apply pw_below_drewN | apply below_drew1) | exact HB.out))) : w.heap.size ≤ gb106)); have n3_ := Aside0.mk ((by rw [hg]; exact (below_size (by repeat (first | (with_reducible first | exact HB.out | apply below_alloc | apply pw_below_drewN | apply below_drew1) | exact HB.out))) : w.heap.size ≤ gb106)); clear HB; have HB := n0_; have BK106 := n1_; have GW106 := n2_; have GE106 := n3_; clear n0_ n1_ n2_ n3_; clear hb hbox hg) | ((with_reducible refine gate_dst (N := 3) rfl ?_); refine box_event ?hg (N := 3) ?hd (cs := #[.float .f64 b_a1_0, .float .f64 b_a1_1]) (t := 26) ?hr ?_; (case hd => rfl); (case hg => rfl); (case hr => first | (go_simp; done) | (go_simp; rfl)); intro gb107 hg w18 hbox hb; have n0_ := Aside0.mk (blk_below (g := gb106) (o := .cells #[.float .f64 b_a0_0, .float .f64 b_a0_1] 26 (0, 0)) (by (with_reducible repeat (first | refine blk_drewN ?_ _ | refine blk_drew ?_ | refine blk_alloc ?_ _)); exact BK106.out) hb); have n1_ := Aside0.mk (below_step (by repeat (first | (with_reducible first | exact HB.out | apply below_alloc | apply pw_below_drewN | apply below_drew1 | refine below_set ?_ GE106.out) | exact HB.out)) hb); have n2_ := Aside0.mk (hbox); have n3_ := Aside0.mk ((by rw [hg]; exact (below_size (by repeat (first | (with_reducible first | exact HB.out | apply below_alloc | apply pw_below_drewN | apply below_drew1 | refine below_set ?_ GE106.out) | exact HB.out))) : w.heap.size ≤ gb107)); have n4_ := Aside0.mk ((by rw [hg]; exact (below_size (by repeat (first | (with_reducible first | exact HB.out | apply below_alloc | apply pw_below_drewN | apply below_drew1 | refine below_set ?_ GE106.out) | exact HB.out))) : w.heap.size ≤ gb107)); have n5_ := Aside0.mk ((by rw [hg]; exact Nat.ne_of_lt (blk_lt (g := gb106) (o := .cells #[.float .f64 b_a0_0, .float .f64 b_a0_1] 26 (0, 0)) (by (with_reducible repeat (first | refine blk_drewN ?_ _ | refine blk_drew ?_ | refine blk_alloc ?_ _)); exact BK106.out)) : gb106 ≠ gb107)); have n6_ := Aside0.mk ((by rw [hg]; exact Nat.ne_of_gt (blk_lt (g := gb106) (o := .cells #[.float .f64 b_a0_0, .float .f64 b_a0_1] 26 (0, 0)) (by (with_reducible repeat (first | refine blk_drewN ?_ _ | refine blk_drew ?_ | refine blk_alloc ?_ _)); exact BK106.out)) : gb107 ≠ gb106)); clear BK106; clear HB; have BK106 := n0_; have HB := n1_; have BK107 := n2_; have GW107 := n3_; have GE107 := n4_; have NB106_107 := n5_; have NB107_106 := n6_; clear n0_ n1_ n2_ n3_ n4_ n5_ n6_; clear hb hbox hg; have hnb19 := NB106_107.out; have hnc19 := NB107_106.out; have hcz20_0 : w18.cell? ⟨gb106, 0, none⟩ = some (.float .f64 b_a0_0) := (blk_cell BK106.out 0).trans rfl; have hcz20_1 : w18.cell? ⟨gb106, 1, none⟩ = some (.float .f64 b_a0_1) := (blk_cell BK106.out 1).trans rfl; have hfz20_0 := blk_frozen BK106.out 0; have hfz20_1 := blk_frozen BK106.out 1; have hcz21_0 : w18.cell? ⟨gb107, 0, none⟩ = some (.float .f64 b_a1_0) := (blk_cell BK107.out 0).trans rfl; have hcz21_1 : w18.cell? ⟨gb107, 1, none⟩ = some (.float .f64 b_a1_1) := (blk_cell BK107.out 1).trans rfl; have hfz21_0 := blk_frozen BK107.out 0; have hfz21_1 := blk_frozen BK107.out 1) | ((with_reducible refine gate_callee (f := 42) rfl ?_); refine goesL_ (some 9) rfl rfl Try.func42 (by kernel_rfl) rfl #[.float .f64 b_a0_0, .float .f64 b_a1_0] rfl (by (try simp only [List.map_toArray, List.map_cons, List.map_nil]); first | done | rfl | (simp only [List.length_drop, List.length_take]; rfl)) ?_; (with_reducible refine (laws_sameFloat.calls k b_a0_0 a0_0 b_a1_0 a1_0 false _ ?side1 ?side2 A3.out).mono ?_); (case side1 => exact hF_a0_0); (case side2 => exact hF_a1_0); rintro e w' ⟨rfl, ⟨nd, rfl⟩⟩; refine ⟨_, rfl, ?_⟩))
    go_ret
    exact ⟨by first | rfl | (simp [errW_none, errW_some] <;> rfl) | (simp [*, errW_none, errW_some] <;> rfl), by repeat (first | (with_reducible first | exact HB.out | apply below_alloc | apply pw_below_drewN | apply below_drew1 | refine below_set ?_ GE106.out | refine below_set ?_ GE107.out) | exact HB.out)⟩

/-! ### spec_CxTimes: function 32 -/
def spec_CxTimes.f (a0_0 : Fl) (a0_1 : Fl) (a1_0 : Fl) (a1_1 : Fl) : Option (Fl × Fl) := some ((fop .sub .f64 (fop .mul .f64 a0_0 a1_0) (fop .mul .f64 a0_1 a1_1)), (fop .add .f64 (fop .mul .f64 a0_0 a1_1) (fop .mul .f64 a0_1 a1_0)))
set_option maxHeartbeats 8000000 in
set_option maxRecDepth 100000 in
theorem spec_CxTimes.calls (b_a0_0 : Nat) (a0_0 : Fl) (b_a0_1 : Nat) (a0_1 : Fl) (b_a1_0 : Nat) (a1_0 : Fl) (b_a1_1 : Nat) (a1_1 : Fl) (r1 : Fl) (r2 : Fl) (w : World) (hF_a0_0 : cn .f64 b_a0_0 = a0_0) (hF_a0_1 : cn .f64 b_a0_1 = a0_1) (hF_a1_0 : cn .f64 b_a1_0 = a1_0) (hF_a1_1 : cn .f64 b_a1_1 = a1_1) (h : spec_CxTimes.f a0_0 a0_1 a1_0 a1_1 = some (r1, r2)) :
    Calls Try.prog 32 #[.agg #[.float .f64 b_a0_0, .float .f64 b_a0_1], .agg #[.float .f64 b_a1_0, .float .f64 b_a1_1]] w fun e w' => ∃ b_r1 b_r2 : Nat, e = .returned (.agg #[.float .f64 b_r1, .float .f64 b_r2]) ∧ cn .f64 b_r1 = r1 ∧ cn .f64 b_r2 = r2 ∧ Below w.heap.size w w' := by
  have hu26 := Try.underlying26
  have HB := Aside0.mk (Below.refl w.heap.size w)
  have H : (some ((fop .sub .f64 (fop .mul .f64 a0_0 a1_0) (fop .mul .f64 a0_1 a1_1)), (fop .add .f64 (fop .mul .f64 a0_0 a1_1) (fop .mul .f64 a0_1 a1_0)))) = some (r1, r2) := h
  clear h
  obtain ⟨ft113, hft113⟩ : ∃ y_ : Fl, y_ = (fop .mul .f64 a0_0 a1_0) := ⟨_, rfl⟩
  replace H : (some ((fop .sub .f64 ft113 (fop .mul .f64 a0_1 a1_1)), (fop .add .f64 (fop .mul .f64 a0_0 a1_1) (fop .mul .f64 a0_1 a1_0)))) = some (r1, r2) := by first | (rw [hft113]; with_reducible exact H) | (have H2_ := (Option.bind_some _ _).symm.trans H; rw [hft113]; with_reducible exact H2_) | (have H2_ := (Option.bind_some _ _).symm.trans H; with_reducible exact H2_) | with_reducible exact H | (rw [hft113]; exact H) | exact H
  have Nft113 := Aside0.mk hft113
  clear hft113
  obtain ⟨ft114, hft114⟩ : ∃ y_ : Fl, y_ = (fop .mul .f64 a0_1 a1_1) := ⟨_, rfl⟩
  replace H : (some ((fop .sub .f64 ft113 ft114), (fop .add .f64 (fop .mul .f64 a0_0 a1_1) (fop .mul .f64 a0_1 a1_0)))) = some (r1, r2) := by first | (rw [hft114]; with_reducible exact H) | (have H2_ := (Option.bind_some _ _).symm.trans H; rw [hft114]; with_reducible exact H2_) | (have H2_ := (Option.bind_some _ _).symm.trans H; with_reducible exact H2_) | with_reducible exact H | (rw [hft114]; exact H) | exact H
  have Nft114 := Aside0.mk hft114
  clear hft114
  obtain ⟨ft115, hft115⟩ : ∃ y_ : Fl, y_ = (fop .mul .f64 a0_0 a1_1) := ⟨_, rfl⟩
  replace H : (some ((fop .sub .f64 ft113 ft114), (fop .add .f64 ft115 (fop .mul .f64 a0_1 a1_0)))) = some (r1, r2) := by first | (rw [hft115]; with_reducible exact H) | (have H2_ := (Option.bind_some _ _).symm.trans H; rw [hft115]; with_reducible exact H2_) | (have H2_ := (Option.bind_some _ _).symm.trans H; with_reducible exact H2_) | with_reducible exact H | (rw [hft115]; exact H) | exact H
  have Nft115 := Aside0.mk hft115
  clear hft115
  obtain ⟨ft116, hft116⟩ : ∃ y_ : Fl, y_ = (fop .mul .f64 a0_1 a1_0) := ⟨_, rfl⟩
  replace H : (some ((fop .sub .f64 ft113 ft114), (fop .add .f64 ft115 ft116))) = some (r1, r2) := by first | (rw [hft116]; with_reducible exact H) | (have H2_ := (Option.bind_some _ _).symm.trans H; rw [hft116]; with_reducible exact H2_) | (have H2_ := (Option.bind_some _ _).symm.trans H; with_reducible exact H2_) | with_reducible exact H | (rw [hft116]; exact H) | exact H
  have Nft116 := Aside0.mk hft116
  clear hft116
  obtain ⟨ft117, hft117⟩ : ∃ y_ : Fl, y_ = (fop .sub .f64 ft113 ft114) := ⟨_, rfl⟩
  replace H : (some (ft117, (fop .add .f64 ft115 ft116))) = some (r1, r2) := by first | (rw [hft117]; with_reducible exact H) | (have H2_ := (Option.bind_some _ _).symm.trans H; rw [hft117]; with_reducible exact H2_) | (have H2_ := (Option.bind_some _ _).symm.trans H; with_reducible exact H2_) | with_reducible exact H | (rw [hft117]; exact H) | exact H
  have Nft117 := Aside0.mk hft117
  clear hft117
  obtain ⟨ft118, hft118⟩ : ∃ y_ : Fl, y_ = (fop .add .f64 ft115 ft116) := ⟨_, rfl⟩
  replace H : (some (ft117, ft118)) = some (r1, r2) := by first | (rw [hft118]; with_reducible exact H) | (have H2_ := (Option.bind_some _ _).symm.trans H; rw [hft118]; with_reducible exact H2_) | (have H2_ := (Option.bind_some _ _).symm.trans H; with_reducible exact H2_) | with_reducible exact H | (rw [hft118]; exact H) | exact H
  have Nft118 := Aside0.mk hft118
  clear hft118
  simp only [Option.some.injEq, Prod.mk.injEq] at H
  obtain ⟨rfl, rfl⟩ := H
  go_enter Try.func32, Try.ntmps32
  go_wp2_with (first | ((with_reducible refine gate_dst (N := 2) rfl ?_); refine box_event ?hg (N := 2) ?hd (cs := #[.float .f64 b_a0_0, .float .f64 b_a0_1]) (t := 26) ?hr ?_; (case hd => rfl); (case hg => rfl); (case hr => first | (go_simp; done) | (go_simp; rfl)); intro gb110 hg w3 hbox hb; have n0_ := Aside0.mk (below_step (by repeat (first | (with_reducible first | exact HB.out | apply below_alloc | apply pw_below_drewN | apply below_drew1) | exact HB.out)) hb); have n1_ := Aside0.mk (hbox); have n2_ := Aside0.mk ((by rw [hg]; exact (below_size (by repeat (first | (with_reducible first | exact HB.out | apply below_alloc | apply pw_below_drewN | apply below_drew1) | exact HB.out))) : w.heap.size ≤ gb110)); have n3_ := Aside0.mk ((by rw [hg]; exact (below_size (by repeat (first | (with_reducible first | exact HB.out | apply below_alloc | apply pw_below_drewN | apply below_drew1) | exact HB.out))) : w.heap.size ≤ gb110)); clear HB; have HB := n0_; have BK110 := n1_; have GW110 := n2_; have GE110 := n3_; clear n0_ n1_ n2_ n3_; clear hb hbox hg) | ((with_reducible refine gate_dst (N := 3) rfl ?_); refine box_event ?hg (N := 3) ?hd (cs := #[.float .f64 b_a1_0, .float .f64 b_a1_1]) (t := 26) ?hr ?_; (case hd => rfl); (case hg => rfl); (case hr => first | (go_simp; done) | (go_simp; rfl)); intro gb111 hg w4 hbox hb; have n0_ := Aside0.mk (blk_below (g := gb110) (o := .cells #[.float .f64 b_a0_0, .float .f64 b_a0_1] 26 (0, 0)) (by (with_reducible repeat (first | refine blk_drewN ?_ _ | refine blk_drew ?_ | refine blk_alloc ?_ _)); exact BK110.out) hb); have n1_ := Aside0.mk (below_step (by repeat (first | (with_reducible first | exact HB.out | apply below_alloc | apply pw_below_drewN | apply below_drew1 | refine below_set ?_ GE110.out) | exact HB.out)) hb); have n2_ := Aside0.mk (hbox); have n3_ := Aside0.mk ((by rw [hg]; exact (below_size (by repeat (first | (with_reducible first | exact HB.out | apply below_alloc | apply pw_below_drewN | apply below_drew1 | refine below_set ?_ GE110.out) | exact HB.out))) : w.heap.size ≤ gb111)); have n4_ := Aside0.mk ((by rw [hg]; exact (below_size (by repeat (first | (with_reducible first | exact HB.out | apply below_alloc | apply pw_below_drewN | apply below_drew1 | refine below_set ?_ GE110.out) | exact HB.out))) : w.heap.size ≤ gb111)); have n5_ := Aside0.mk ((by rw [hg]; exact Nat.ne_of_lt (blk_lt (g := gb110) (o := .cells #[.float .f64 b_a0_0, .float .f64 b_a0_1] 26 (0, 0)) (by (with_reducible repeat (first | refine blk_drewN ?_ _ | refine blk_drew ?_ | refine blk_alloc ?_ _)); exact BK110.out)) : gb110 ≠ gb111)); have n6_ := Aside0.mk ((by rw [hg]; exact Nat.ne_of_gt (blk_lt (g := gb110) (o := .cells #[.float .f64 b_a0_0, .float .f64 b_a0_1] 26 (0, 0)) (by (with_reducible repeat (first | refine blk_drewN ?_ _ | refine blk_drew ?_ | refine blk_alloc ?_ _)); exact BK110.out)) : gb111 ≠ gb110)); clear BK110; clear HB; have BK110 := n0_; have HB := n1_; have BK111 := n2_; have GW111 := n3_; have GE111 := n4_; have NB110_111 := n5_; have NB111_110 := n6_; clear n0_ n1_ n2_ n3_ n4_ n5_ n6_; clear hb hbox hg) | ((with_reducible refine gate_dst (N := 4) rfl ?_); refine box_event ?hg (N := 4) ?hd (cs := #[.float .f64 0, .float .f64 0]) (t := 26) ?hr ?_; (case hd => rfl); (case hg => rfl); (case hr => first | (go_simp; done) | (go_simp; rfl)); intro gb112 hg w5 hbox hb; have n0_ := Aside0.mk (blk_below (g := gb110) (o := .cells #[.float .f64 b_a0_0, .float .f64 b_a0_1] 26 (0, 0)) (by (with_reducible repeat (first | refine blk_drewN ?_ _ | refine blk_drew ?_ | refine blk_alloc ?_ _)); exact BK110.out) hb); have n1_ := Aside0.mk (blk_below (g := gb111) (o := .cells #[.float .f64 b_a1_0, .float .f64 b_a1_1] 26 (0, 0)) (by (with_reducible repeat (first | refine blk_drewN ?_ _ | refine blk_drew ?_ | refine blk_alloc ?_ _)); exact BK111.out) hb); have n2_ := Aside0.mk (below_step (by repeat (first | (with_reducible first | exact HB.out | apply below_alloc | apply pw_below_drewN | apply below_drew1 | refine below_set ?_ GE110.out | refine below_set ?_ GE111.out) | exact HB.out)) hb); have n3_ := Aside0.mk (hbox); have n4_ := Aside0.mk ((by rw [hg]; exact (below_size (by repeat (first | (with_reducible first | exact HB.out | apply below_alloc | apply pw_below_drewN | apply below_drew1 | refine below_set ?_ GE110.out | refine below_set ?_ GE111.out) | exact HB.out))) : w.heap.size ≤ gb112)); have n5_ := Aside0.mk ((by rw [hg]; exact (below_size (by repeat (first | (with_reducible first | exact HB.out | apply below_alloc | apply pw_below_drewN | apply below_drew1 | refine below_set ?_ GE110.out | refine below_set ?_ GE111.out) | exact HB.out))) : w.heap.size ≤ gb112)); have n6_ := Aside0.mk ((by rw [hg]; exact Nat.ne_of_lt (blk_lt (g := gb110) (o := .cells #[.float .f64 b_a0_0, .float .f64 b_a0_1] 26 (0, 0)) (by (with_reducible repeat (first | refine blk_drewN ?_ _ | refine blk_drew ?_ | refine blk_alloc ?_ _)); exact BK110.out)) : gb110 ≠ gb112)); have n7_ := Aside0.mk ((by rw [hg]; exact Nat.ne_of_gt (blk_lt (g := gb110) (o := .cells #[.float .f64 b_a0_0, .float .f64 b_a0_1] 26 (0, 0)) (by (with_reducible repeat (first | refine blk_drewN ?_ _ | refine blk_drew ?_ | refine blk_alloc ?_ _)); exact BK110.out)) : gb112 ≠ gb110)); have n8_ := Aside0.mk ((by rw [hg]; exact Nat.ne_of_lt (blk_lt (g := gb111) (o := .cells #[.float .f64 b_a1_0, .float .f64 b_a1_1] 26 (0, 0)) (by (with_reducible repeat (first | refine blk_drewN ?_ _ | refine blk_drew ?_ | refine blk_alloc ?_ _)); exact BK111.out)) : gb111 ≠ gb112)); have n9_ := Aside0.mk ((by rw [hg]; exact Nat.ne_of_gt (blk_lt (g := gb111) (o := .cells #[.float .f64 b_a1_0, .float .f64 b_a1_1] 26 (0, 0)) (by (with_reducible repeat (first | refine blk_drewN ?_ _ | refine blk_drew ?_ | refine blk_alloc ?_ _)); exact BK111.out)) : gb112 ≠ gb111)); clear BK110; clear BK111; clear HB; have BK110 := n0_; have BK111 := n1_; have HB := n2_; have BK112 := n3_; have GW112 := n4_; have GE112 := n5_; have NB110_112 := n6_; have NB112_110 := n7_; have NB111_112 := n8_; have NB112_111 := n9_; clear n0_ n1_ n2_ n3_ n4_ n5_ n6_ n7_ n8_ n9_; clear hb hbox hg; have hnb6 := NB110_111.out; have hnc6 := NB111_110.out; have hnb7 := NB110_112.out; have hnc7 := NB112_110.out; have hcz8_0 : w5.cell? ⟨gb110, 0, none⟩ = some (.float .f64 b_a0_0) := (blk_cell BK110.out 0).trans rfl; have hcz8_1 : w5.cell? ⟨gb110, 1, none⟩ = some (.float .f64 b_a0_1) := (blk_cell BK110.out 1).trans rfl; have hfz8_0 := blk_frozen BK110.out 0; have hfz8_1 := blk_frozen BK110.out 1; have hnb9 := NB111_112.out; have hnc9 := NB112_111.out; have hcz10_0 : w5.cell? ⟨gb111, 0, none⟩ = some (.float .f64 b_a1_0) := (blk_cell BK111.out 0).trans rfl; have hcz10_1 : w5.cell? ⟨gb111, 1, none⟩ = some (.float .f64 b_a1_1) := (blk_cell BK111.out 1).trans rfl; have hfz10_0 := blk_frozen BK111.out 0; have hfz10_1 := blk_frozen BK111.out 1) | ((with_reducible refine gate_dst (N := 13) rfl ?_); refine fop_event rfl (N := 13) rfl (op := .mul) (by simp) rfl .f64 b_a0_0 b_a1_0 a0_0 a1_0 rfl rfl hF_a0_0 hF_a1_0 ?_; intro b_ft113 nf_ hF_; replace hF_ := hF_.trans Nft113.out.symm; have hF_ft113 := hF_; clear hF_) | ((with_reducible refine gate_dst (N := 18) rfl ?_); refine fop_event rfl (N := 18) rfl (op := .mul) (by simp) rfl .f64 b_a0_1 b_a1_1 a0_1 a1_1 rfl rfl hF_a0_1 hF_a1_1 ?_; intro b_ft114 nf_ hF_; replace hF_ := hF_.trans Nft114.out.symm; have hF_ft114 := hF_; clear hF_) | ((with_reducible refine gate_dst (N := 23) rfl ?_); refine fop_event rfl (N := 23) rfl (op := .mul) (by simp) rfl .f64 b_a0_0 b_a1_1 a0_0 a1_1 rfl rfl hF_a0_0 hF_a1_1 ?_; intro b_ft115 nf_ hF_; replace hF_ := hF_.trans Nft115.out.symm; have hF_ft115 := hF_; clear hF_) | ((with_reducible refine gate_dst (N := 28) rfl ?_); refine fop_event rfl (N := 28) rfl (op := .mul) (by simp) rfl .f64 b_a0_1 b_a1_0 a0_1 a1_0 rfl rfl hF_a0_1 hF_a1_0 ?_; intro b_ft116 nf_ hF_; replace hF_ := hF_.trans Nft116.out.symm; have hF_ft116 := hF_; clear hF_) | ((with_reducible refine gate_dst (N := 31) rfl ?_); refine fop_event rfl (N := 31) rfl (op := .sub) (by simp) rfl .f64 b_ft113 b_ft114 ft113 ft114 rfl rfl hF_ft113 hF_ft114 ?_; intro b_ft117 nf_ hF_; replace hF_ := hF_.trans Nft117.out.symm; have hF_ft117 := hF_; clear hF_) | ((with_reducible refine gate_dst (N := 34) rfl ?_); refine fop_event rfl (N := 34) rfl (op := .add) (by simp) rfl .f64 b_ft115 b_ft116 ft115 ft116 rfl rfl hF_ft115 hF_ft116 ?_; intro b_ft118 nf_ hF_; replace hF_ := hF_.trans Nft118.out.symm; have hF_ft118 := hF_; clear hF_; have hcz11_0 : w5.cell? ⟨gb112, 0, none⟩ = some (.float .f64 0) := (blk_cell BK112.out 0).trans rfl; have hcz11_1 : w5.cell? ⟨gb112, 1, none⟩ = some (.float .f64 0) := (blk_cell BK112.out 1).trans rfl; have hfz11_0 := blk_frozen BK112.out 0; have hfz11_1 := blk_frozen BK112.out 1))
  refine bodyPost_ret (results_cell_row rfl _ _ gb112 26 #[.float .f64 b_ft117, .float .f64 b_ft118] (0, 0) _ rfl (by (with_reducible repeat (first | refine blk_drewN ?_ _ | refine blk_drew ?_ | refine blk_alloc ?_ _)); refine blk_put (cs := #[.float .f64 b_ft117, .float .f64 0]) ?_ 1 _ rfl; (with_reducible repeat (first | refine blk_drewN ?_ _ | refine blk_drew ?_ | refine blk_alloc ?_ _)); refine blk_put (cs := #[.float .f64 0, .float .f64 0]) ?_ 0 _ rfl; (with_reducible repeat (first | refine blk_drewN ?_ _ | refine blk_drew ?_ | refine blk_alloc ?_ _)); exact BK112.out) Try.underlying26 rfl (by kernel_rfl)) rfl ?_
  exact ⟨b_ft117, b_ft118, by first | rfl | (simp [errW_none, errW_some] <;> rfl) | (simp [*, errW_none, errW_some] <;> rfl), hF_ft117, hF_ft118, by repeat (first | (with_reducible first | exact HB.out | apply below_alloc | apply pw_below_drewN | apply below_drew1 | refine below_set ?_ GE110.out | refine below_set ?_ GE111.out | refine below_set ?_ GE112.out) | exact HB.out)⟩

/-! ### spec_l4Finite: function 51 -/
def spec_l4Finite.f (a0 : Fl) : Option (Bool) := some (fcmp .eql .f64 (fop .sub .f64 a0 a0) (cn .f64 0))
set_option maxHeartbeats 8000000 in
set_option maxRecDepth 100000 in
theorem spec_l4Finite.calls (b_a0 : Nat) (a0 : Fl) (r : Bool) (w : World) (hF_a0 : cn .f64 b_a0 = a0) (h : spec_l4Finite.f a0 = some r) :
    Calls Try.prog 51 #[.float .f64 b_a0] w fun e w' => e = .returned (.bool r) ∧ Drawn0 w w' := by
  have H : (some (fcmp .eql .f64 (fop .sub .f64 a0 a0) (cn .f64 0))) = some r := h
  clear h
  obtain ⟨ft119, hft119⟩ : ∃ y_ : Fl, y_ = (fop .sub .f64 a0 a0) := ⟨_, rfl⟩
  replace H : (some (fcmp .eql .f64 ft119 (cn .f64 0))) = some r := by first | (rw [hft119]; with_reducible exact H) | (have H2_ := (Option.bind_some _ _).symm.trans H; rw [hft119]; with_reducible exact H2_) | (have H2_ := (Option.bind_some _ _).symm.trans H; with_reducible exact H2_) | with_reducible exact H | (rw [hft119]; exact H) | exact H
  have Nft119 := Aside0.mk hft119
  clear hft119
  obtain rfl := Option.some.inj H
  go_enter Try.func51, Try.ntmps51
  go_wp2_with (first | ((with_reducible refine gate_dst (N := 5) rfl ?_); refine fop_event rfl (N := 5) rfl (op := .sub) (by simp) rfl .f64 b_a0 b_a0 a0 a0 rfl rfl hF_a0 hF_a0 ?_; intro b_ft119 nf_ hF_; replace hF_ := hF_.trans Nft119.out.symm; have hF_ft119 := hF_; clear hF_))
  go_ret
  exact ⟨by first | rfl | (simp; done) | (simp [*]; done), by repeat (first | exact Drawn0.refl _ | apply Drawn0.step)⟩

/-! ### spec_CxOver: function 43 -/
def spec_CxOver.j0 : Nat → Fl → Bool → Fl → Fl → Fl → Fl → Option (Fl × Fl × Bool)
  | 0, _, _, _, _, _, _ => none
  | k + 1, x8, x53, x121000, x121001, x122000, x122001 => if x53 = true then (some ((cn .f64 0), (cn .f64 0), false)) else ((spec_CxTimes.f x121000 x121001 x122000 (fneg .f64 x122001)).bind fun bt132 => (some ((fop .quo .f64 bt132.1 x8), (fop .quo .f64 bt132.2 x8), true)))
def spec_CxOver.f (k : Nat) (a0_0 : Fl) (a0_1 : Fl) (a1_0 : Fl) (a1_1 : Fl) : Option (Fl × Fl × Bool) := (some (fop .add .f64 (fop .mul .f64 a1_0 a1_0) (fop .mul .f64 a1_1 a1_1) : Fl)).bind fun ft125 => ((spec_l4Finite.f a0_0).bind fun t126 => (if t126 = true then ((spec_l4Finite.f a0_1).bind fun t127 => (if t127 = true then ((spec_l4Finite.f a1_0).bind fun t128 => (if t128 = true then ((spec_l4Finite.f a1_1).bind fun t129 => (if t129 = true then ((spec_l4Finite.f ft125).bind fun t130 => (if t130 = true then (spec_CxOver.j0 k ft125 (fcmp .eql .f64 ft125 (cn .f64 0)) a0_0 a0_1 a1_0 a1_1) else (spec_CxOver.j0 k ft125 true a0_0 a0_1 a1_0 a1_1))) else (spec_CxOver.j0 k ft125 true a0_0 a0_1 a1_0 a1_1))) else (spec_CxOver.j0 k ft125 true a0_0 a0_1 a1_0 a1_1))) else (spec_CxOver.j0 k ft125 true a0_0 a0_1 a1_0 a1_1))) else (spec_CxOver.j0 k ft125 true a0_0 a0_1 a1_0 a1_1)))
theorem spec_CxOver.mono_l : ∀ k, (∀ y0 y1 y2 y3 y4 y5, LeO (spec_CxOver.j0 k y0 y1 y2 y3 y4 y5) (spec_CxOver.j0 (k + 1) y0 y1 y2 y3 y4 y5))
  | 0 => fun _ _ _ _ _ _ r h => by simp [spec_CxOver.j0] at h
  | k + 1 => by
    have ih0 := spec_CxOver.mono_l k
    · intro y0 y1 y2 y3 y4 y5
      unfold spec_CxOver.j0
      repeat' first
      | (with_reducible exact ih0 _ _ _ _ _ _)
      | (with_reducible exact LeO.refl _)
      | (with_reducible exact LeO.none _)
      | (with_reducible refine LeO.ite ?_ ?_)
      | (with_reducible refine LeO.bind ?_ (fun _ => ?_))
      | exact ih0 _ _ _ _ _ _
      | exact LeO.none _
      | refine LeO.ite ?_ ?_
      | refine LeO.bind ?_ (fun _ => ?_)
theorem spec_CxOver.mono : ∀ a0 a1 a2 a3 k, LeO (spec_CxOver.f k a0 a1 a2 a3) (spec_CxOver.f (k + 1) a0 a1 a2 a3) := by
  intro a0 a1 a2 a3 k
  have ih0 := spec_CxOver.mono_l k
  unfold spec_CxOver.f
  repeat' first
      | (with_reducible exact ih0 _ _ _ _ _ _)
      | (with_reducible exact LeO.refl _)
      | (with_reducible exact LeO.none _)
      | (with_reducible refine LeO.ite ?_ ?_)
      | (with_reducible refine LeO.bind ?_ (fun _ => ?_))
      | exact ih0 _ _ _ _ _ _
      | exact LeO.none _
      | refine LeO.ite ?_ ?_
      | refine LeO.bind ?_ (fun _ => ?_)
set_option maxHeartbeats 8000000 in
set_option maxRecDepth 100000 in
theorem spec_CxOver.calls (k : Nat) (b_a0_0 : Nat) (a0_0 : Fl) (b_a0_1 : Nat) (a0_1 : Fl) (b_a1_0 : Nat) (a1_0 : Fl) (b_a1_1 : Nat) (a1_1 : Fl) (r1 : Fl) (r2 : Fl) (r3 : Bool) (w : World) (hF_a0_0 : cn .f64 b_a0_0 = a0_0) (hF_a0_1 : cn .f64 b_a0_1 = a0_1) (hF_a1_0 : cn .f64 b_a1_0 = a1_0) (hF_a1_1 : cn .f64 b_a1_1 = a1_1) (h : spec_CxOver.f k a0_0 a0_1 a1_0 a1_1 = some (r1, r2, r3)) :
    Calls Try.prog 43 #[.agg #[.float .f64 b_a0_0, .float .f64 b_a0_1], .agg #[.float .f64 b_a1_0, .float .f64 b_a1_1]] w fun e w' => ∃ b_r1 b_r2 : Nat, e = .returned (.tuple #[.agg #[.float .f64 b_r1, .float .f64 b_r2], .bool r3]) ∧ cn .f64 b_r1 = r1 ∧ cn .f64 b_r2 = r2 ∧ Below w.heap.size w w' := by
  have hu26 := Try.underlying26
  have HB := Aside0.mk (Below.refl w.heap.size w)
  have H : ((some (fop .add .f64 (fop .mul .f64 a1_0 a1_0) (fop .mul .f64 a1_1 a1_1) : Fl)).bind fun ft125 => ((spec_l4Finite.f a0_0).bind fun t126 => (if t126 = true then ((spec_l4Finite.f a0_1).bind fun t127 => (if t127 = true then ((spec_l4Finite.f a1_0).bind fun t128 => (if t128 = true then ((spec_l4Finite.f a1_1).bind fun t129 => (if t129 = true then ((spec_l4Finite.f ft125).bind fun t130 => (if t130 = true then (spec_CxOver.j0 k ft125 (fcmp .eql .f64 ft125 (cn .f64 0)) a0_0 a0_1 a1_0 a1_1) else (spec_CxOver.j0 k ft125 true a0_0 a0_1 a1_0 a1_1))) else (spec_CxOver.j0 k ft125 true a0_0 a0_1 a1_0 a1_1))) else (spec_CxOver.j0 k ft125 true a0_0 a0_1 a1_0 a1_1))) else (spec_CxOver.j0 k ft125 true a0_0 a0_1 a1_0 a1_1))) else (spec_CxOver.j0 k ft125 true a0_0 a0_1 a1_0 a1_1)))) = some (r1, r2, r3) := h
  clear h
  obtain ⟨ft123, hft123⟩ : ∃ y_ : Fl, y_ = (fop .mul .f64 a1_0 a1_0) := ⟨_, rfl⟩
  replace H : ((some (fop .add .f64 ft123 (fop .mul .f64 a1_1 a1_1) : Fl)).bind fun ft125 => ((spec_l4Finite.f a0_0).bind fun t126 => (if t126 = true then ((spec_l4Finite.f a0_1).bind fun t127 => (if t127 = true then ((spec_l4Finite.f a1_0).bind fun t128 => (if t128 = true then ((spec_l4Finite.f a1_1).bind fun t129 => (if t129 = true then ((spec_l4Finite.f ft125).bind fun t130 => (if t130 = true then (spec_CxOver.j0 k ft125 (fcmp .eql .f64 ft125 (cn .f64 0)) a0_0 a0_1 a1_0 a1_1) else (spec_CxOver.j0 k ft125 true a0_0 a0_1 a1_0 a1_1))) else (spec_CxOver.j0 k ft125 true a0_0 a0_1 a1_0 a1_1))) else (spec_CxOver.j0 k ft125 true a0_0 a0_1 a1_0 a1_1))) else (spec_CxOver.j0 k ft125 true a0_0 a0_1 a1_0 a1_1))) else (spec_CxOver.j0 k ft125 true a0_0 a0_1 a1_0 a1_1)))) = some (r1, r2, r3) := by first | (rw [hft123]; with_reducible exact H) | (have H2_ := (Option.bind_some _ _).symm.trans H; rw [hft123]; with_reducible exact H2_) | (have H2_ := (Option.bind_some _ _).symm.trans H; with_reducible exact H2_) | with_reducible exact H | (rw [hft123]; exact H) | exact H
  have Nft123 := Aside0.mk hft123
  clear hft123
  obtain ⟨ft124, hft124⟩ : ∃ y_ : Fl, y_ = (fop .mul .f64 a1_1 a1_1) := ⟨_, rfl⟩
  replace H : ((some (fop .add .f64 ft123 ft124 : Fl)).bind fun ft125 => ((spec_l4Finite.f a0_0).bind fun t126 => (if t126 = true then ((spec_l4Finite.f a0_1).bind fun t127 => (if t127 = true then ((spec_l4Finite.f a1_0).bind fun t128 => (if t128 = true then ((spec_l4Finite.f a1_1).bind fun t129 => (if t129 = true then ((spec_l4Finite.f ft125).bind fun t130 => (if t130 = true then (spec_CxOver.j0 k ft125 (fcmp .eql .f64 ft125 (cn .f64 0)) a0_0 a0_1 a1_0 a1_1) else (spec_CxOver.j0 k ft125 true a0_0 a0_1 a1_0 a1_1))) else (spec_CxOver.j0 k ft125 true a0_0 a0_1 a1_0 a1_1))) else (spec_CxOver.j0 k ft125 true a0_0 a0_1 a1_0 a1_1))) else (spec_CxOver.j0 k ft125 true a0_0 a0_1 a1_0 a1_1))) else (spec_CxOver.j0 k ft125 true a0_0 a0_1 a1_0 a1_1)))) = some (r1, r2, r3) := by first | (rw [hft124]; with_reducible exact H) | (have H2_ := (Option.bind_some _ _).symm.trans H; rw [hft124]; with_reducible exact H2_) | (have H2_ := (Option.bind_some _ _).symm.trans H; with_reducible exact H2_) | with_reducible exact H | (rw [hft124]; exact H) | exact H
  have Nft124 := Aside0.mk hft124
  clear hft124
  obtain ⟨ft125, hft125⟩ : ∃ y_ : Fl, y_ = (fop .add .f64 ft123 ft124) := ⟨_, rfl⟩
  replace H : ((spec_l4Finite.f a0_0).bind fun t126 => (if t126 = true then ((spec_l4Finite.f a0_1).bind fun t127 => (if t127 = true then ((spec_l4Finite.f a1_0).bind fun t128 => (if t128 = true then ((spec_l4Finite.f a1_1).bind fun t129 => (if t129 = true then ((spec_l4Finite.f ft125).bind fun t130 => (if t130 = true then (spec_CxOver.j0 k ft125 (fcmp .eql .f64 ft125 (cn .f64 0)) a0_0 a0_1 a1_0 a1_1) else (spec_CxOver.j0 k ft125 true a0_0 a0_1 a1_0 a1_1))) else (spec_CxOver.j0 k ft125 true a0_0 a0_1 a1_0 a1_1))) else (spec_CxOver.j0 k ft125 true a0_0 a0_1 a1_0 a1_1))) else (spec_CxOver.j0 k ft125 true a0_0 a0_1 a1_0 a1_1))) else (spec_CxOver.j0 k ft125 true a0_0 a0_1 a1_0 a1_1))) = some (r1, r2, r3) := by first | (rw [hft125]; with_reducible exact H) | (have H2_ := (Option.bind_some _ _).symm.trans H; rw [hft125]; with_reducible exact H2_) | (have H2_ := (Option.bind_some _ _).symm.trans H; with_reducible exact H2_) | with_reducible exact H | (rw [hft125]; exact H) | exact H
  have Nft125 := Aside0.mk hft125
  clear hft125
  have HC3 := Aside0.mk H
  clear H
  go_enter Try.func43, Try.ntmps43
  go_upto_region 4 with (first | ((with_reducible refine gate_dst (N := 2) rfl ?_); refine box_event ?hg (N := 2) ?hd (cs := #[.float .f64 b_a0_0, .float .f64 b_a0_1]) (t := 26) ?hr ?_; (case hd => rfl); (case hg => rfl); (case hr => first | (go_simp; done) | (go_simp; rfl)); intro gb120 hg w4 hbox hb; have n0_ := Aside0.mk (below_step (by repeat (first | (with_reducible first | exact HB.out | apply below_alloc | apply pw_below_drewN | apply below_drew1) | exact HB.out)) hb); have n1_ := Aside0.mk (hbox); have n2_ := Aside0.mk ((by rw [hg]; exact (below_size (by repeat (first | (with_reducible first | exact HB.out | apply below_alloc | apply pw_below_drewN | apply below_drew1) | exact HB.out))) : w.heap.size ≤ gb120)); have n3_ := Aside0.mk ((by rw [hg]; exact (below_size (by repeat (first | (with_reducible first | exact HB.out | apply below_alloc | apply pw_below_drewN | apply below_drew1) | exact HB.out))) : w.heap.size ≤ gb120)); clear HB; have HB := n0_; have BK120 := n1_; have GW120 := n2_; have GE120 := n3_; clear n0_ n1_ n2_ n3_; clear hb hbox hg) | ((with_reducible refine gate_dst (N := 3) rfl ?_); refine box_event ?hg (N := 3) ?hd (cs := #[.float .f64 b_a1_0, .float .f64 b_a1_1]) (t := 26) ?hr ?_; (case hd => rfl); (case hg => rfl); (case hr => first | (go_simp; done) | (go_simp; rfl)); intro gb121 hg w5 hbox hb; have n0_ := Aside0.mk (blk_below (g := gb120) (o := .cells #[.float .f64 b_a0_0, .float .f64 b_a0_1] 26 (0, 0)) (by (with_reducible repeat (first | refine blk_drewN ?_ _ | refine blk_drew ?_ | refine blk_alloc ?_ _)); exact BK120.out) hb); have n1_ := Aside0.mk (below_step (by repeat (first | (with_reducible first | exact HB.out | apply below_alloc | apply pw_below_drewN | apply below_drew1 | refine below_set ?_ GE120.out) | exact HB.out)) hb); have n2_ := Aside0.mk (hbox); have n3_ := Aside0.mk ((by rw [hg]; exact (below_size (by repeat (first | (with_reducible first | exact HB.out | apply below_alloc | apply pw_below_drewN | apply below_drew1 | refine below_set ?_ GE120.out) | exact HB.out))) : w.heap.size ≤ gb121)); have n4_ := Aside0.mk ((by rw [hg]; exact (below_size (by repeat (first | (with_reducible first | exact HB.out | apply below_alloc | apply pw_below_drewN | apply below_drew1 | refine below_set ?_ GE120.out) | exact HB.out))) : w.heap.size ≤ gb121)); have n5_ := Aside0.mk ((by rw [hg]; exact Nat.ne_of_lt (blk_lt (g := gb120) (o := .cells #[.float .f64 b_a0_0, .float .f64 b_a0_1] 26 (0, 0)) (by (with_reducible repeat (first | refine blk_drewN ?_ _ | refine blk_drew ?_ | refine blk_alloc ?_ _)); exact BK120.out)) : gb120 ≠ gb121)); have n6_ := Aside0.mk ((by rw [hg]; exact Nat.ne_of_gt (blk_lt (g := gb120) (o := .cells #[.float .f64 b_a0_0, .float .f64 b_a0_1] 26 (0, 0)) (by (with_reducible repeat (first | refine blk_drewN ?_ _ | refine blk_drew ?_ | refine blk_alloc ?_ _)); exact BK120.out)) : gb121 ≠ gb120)); clear BK120; clear HB; have BK120 := n0_; have HB := n1_; have BK121 := n2_; have GW121 := n3_; have GE121 := n4_; have NB120_121 := n5_; have NB121_120 := n6_; clear n0_ n1_ n2_ n3_ n4_ n5_ n6_; clear hb hbox hg) | ((with_reducible refine gate_dst (N := 4) rfl ?_); refine box_event ?hg (N := 4) ?hd (cs := #[.float .f64 0, .float .f64 0]) (t := 26) ?hr ?_; (case hd => rfl); (case hg => rfl); (case hr => first | (go_simp; done) | (go_simp; rfl)); intro gb122 hg w6 hbox hb; have n0_ := Aside0.mk (blk_below (g := gb120) (o := .cells #[.float .f64 b_a0_0, .float .f64 b_a0_1] 26 (0, 0)) (by (with_reducible repeat (first | refine blk_drewN ?_ _ | refine blk_drew ?_ | refine blk_alloc ?_ _)); exact BK120.out) hb); have n1_ := Aside0.mk (blk_below (g := gb121) (o := .cells #[.float .f64 b_a1_0, .float .f64 b_a1_1] 26 (0, 0)) (by (with_reducible repeat (first | refine blk_drewN ?_ _ | refine blk_drew ?_ | refine blk_alloc ?_ _)); exact BK121.out) hb); have n2_ := Aside0.mk (below_step (by repeat (first | (with_reducible first | exact HB.out | apply below_alloc | apply pw_below_drewN | apply below_drew1 | refine below_set ?_ GE120.out | refine below_set ?_ GE121.out) | exact HB.out)) hb); have n3_ := Aside0.mk (hbox); have n4_ := Aside0.mk ((by rw [hg]; exact (below_size (by repeat (first | (with_reducible first | exact HB.out | apply below_alloc | apply pw_below_drewN | apply below_drew1 | refine below_set ?_ GE120.out | refine below_set ?_ GE121.out) | exact HB.out))) : w.heap.size ≤ gb122)); have n5_ := Aside0.mk ((by rw [hg]; exact (below_size (by repeat (first | (with_reducible first | exact HB.out | apply below_alloc | apply pw_below_drewN | apply below_drew1 | refine below_set ?_ GE120.out | refine below_set ?_ GE121.out) | exact HB.out))) : w.heap.size ≤ gb122)); have n6_ := Aside0.mk ((by rw [hg]; exact Nat.ne_of_lt (blk_lt (g := gb120) (o := .cells #[.float .f64 b_a0_0, .float .f64 b_a0_1] 26 (0, 0)) (by (with_reducible repeat (first | refine blk_drewN ?_ _ | refine blk_drew ?_ | refine blk_alloc ?_ _)); exact BK120.out)) : gb120 ≠ gb122)); have n7_ := Aside0.mk ((by rw [hg]; exact Nat.ne_of_gt (blk_lt (g := gb120) (o := .cells #[.float .f64 b_a0_0, .float .f64 b_a0_1] 26 (0, 0)) (by (with_reducible repeat (first | refine blk_drewN ?_ _ | refine blk_drew ?_ | refine blk_alloc ?_ _)); exact BK120.out)) : gb122 ≠ gb120)); have n8_ := Aside0.mk ((by rw [hg]; exact Nat.ne_of_lt (blk_lt (g := gb121) (o := .cells #[.float .f64 b_a1_0, .float .f64 b_a1_1] 26 (0, 0)) (by (with_reducible repeat (first | refine blk_drewN ?_ _ | refine blk_drew ?_ | refine blk_alloc ?_ _)); exact BK121.out)) : gb121 ≠ gb122)); have n9_ := Aside0.mk ((by rw [hg]; exact Nat.ne_of_gt (blk_lt (g := gb121) (o := .cells #[.float .f64 b_a1_0, .float .f64 b_a1_1] 26 (0, 0)) (by (with_reducible repeat (first | refine blk_drewN ?_ _ | refine blk_drew ?_ | refine blk_alloc ?_ _)); exact BK121.out)) : gb122 ≠ gb121)); clear BK120; clear BK121; clear HB; have BK120 := n0_; have BK121 := n1_; have HB := n2_; have BK122 := n3_; have GW122 := n4_; have GE122 := n5_; have NB120_122 := n6_; have NB122_120 := n7_; have NB121_122 := n8_; have NB122_121 := n9_; clear n0_ n1_ n2_ n3_ n4_ n5_ n6_ n7_ n8_ n9_; clear hb hbox hg; have hnb7 := NB121_120.out; have hnc7 := NB120_121.out; have hnb8 := NB121_122.out; have hnc8 := NB122_121.out; have hcz9_0 : w6.cell? ⟨gb121, 0, none⟩ = some (.float .f64 b_a1_0) := (blk_cell BK121.out 0).trans rfl; have hcz9_1 : w6.cell? ⟨gb121, 1, none⟩ = some (.float .f64 b_a1_1) := (blk_cell BK121.out 1).trans rfl; have hfz9_0 := blk_frozen BK121.out 0; have hfz9_1 := blk_frozen BK121.out 1) | ((with_reducible refine gate_dst (N := 14) rfl ?_); refine fop_event rfl (N := 14) rfl (op := .mul) (by simp) rfl .f64 b_a1_0 b_a1_0 a1_0 a1_0 rfl rfl hF_a1_0 hF_a1_0 ?_; intro b_ft123 nf_ hF_; replace hF_ := hF_.trans Nft123.out.symm; have hF_ft123 := hF_; clear hF_) | ((with_reducible refine gate_dst (N := 19) rfl ?_); refine fop_event rfl (N := 19) rfl (op := .mul) (by simp) rfl .f64 b_a1_1 b_a1_1 a1_1 a1_1 rfl rfl hF_a1_1 hF_a1_1 ?_; intro b_ft124 nf_ hF_; replace hF_ := hF_.trans Nft124.out.symm; have hF_ft124 := hF_; clear hF_) | ((with_reducible refine gate_dst (N := 22) rfl ?_); refine fop_event rfl (N := 22) rfl (op := .add) (by simp) rfl .f64 b_ft123 b_ft124 ft123 ft124 rfl rfl hF_ft123 hF_ft124 ?_; intro b_ft125 nf_ hF_; replace hF_ := hF_.trans Nft125.out.symm; have hF_ft125 := hF_; clear hF_))
  (try simp only [Act.put, List.setIfInBounds_toArray, List.set_cons_zero, List.set_cons_succ])
  go_cut [53] (fun v53 wc => ∃ (kq : Nat) (x53_2 : Bool), v53 = .bool x53_2 ∧ Aside0 (spec_CxOver.j0 kq ft125 x53_2 a0_0 a0_1 a1_0 a1_1 = some (r1, r2, r3)) ∧ Aside0 (kq ≤ k) ∧ Aside0 (wc.heap[gb120]? = some (.cells #[.float .f64 b_a0_0, .float .f64 b_a0_1] 26 (0, 0))) ∧ Aside0 (wc.heap[gb121]? = some (.cells #[.float .f64 b_a1_0, .float .f64 b_a1_1] 26 (0, 0))) ∧ Aside0 (wc.heap[gb122]? = some (.cells #[.float .f64 0, .float .f64 0] 26 (0, 0))) ∧ Aside0 (Below w.heap.size w wc))
  case first =>
    have H := HC3.out
    clear HC3
    replace H := Option.bind_eq_some_iff.mp H
    obtain ⟨t126, A100, H⟩ := H
    replace H : (if t126 = true then ((spec_l4Finite.f a0_1).bind fun t127 => (if t127 = true then ((spec_l4Finite.f a1_0).bind fun t128 => (if t128 = true then ((spec_l4Finite.f a1_1).bind fun t129 => (if t129 = true then ((spec_l4Finite.f ft125).bind fun t130 => (if t130 = true then (spec_CxOver.j0 k ft125 (fcmp .eql .f64 ft125 (cn .f64 0)) a0_0 a0_1 a1_0 a1_1) else (spec_CxOver.j0 k ft125 true a0_0 a0_1 a1_0 a1_1))) else (spec_CxOver.j0 k ft125 true a0_0 a0_1 a1_0 a1_1))) else (spec_CxOver.j0 k ft125 true a0_0 a0_1 a1_0 a1_1))) else (spec_CxOver.j0 k ft125 true a0_0 a0_1 a1_0 a1_1))) else (spec_CxOver.j0 k ft125 true a0_0 a0_1 a1_0 a1_1)) = some (r1, r2, r3) := H
    have A10 := Aside0.mk A100
    clear A100
    by_cases c11 : t126 = true
    · subst c11
      have H1 : ((spec_l4Finite.f a0_1).bind fun t127 => (if t127 = true then ((spec_l4Finite.f a1_0).bind fun t128 => (if t128 = true then ((spec_l4Finite.f a1_1).bind fun t129 => (if t129 = true then ((spec_l4Finite.f ft125).bind fun t130 => (if t130 = true then (spec_CxOver.j0 k ft125 (fcmp .eql .f64 ft125 (cn .f64 0)) a0_0 a0_1 a1_0 a1_1) else (spec_CxOver.j0 k ft125 true a0_0 a0_1 a1_0 a1_1))) else (spec_CxOver.j0 k ft125 true a0_0 a0_1 a1_0 a1_1))) else (spec_CxOver.j0 k ft125 true a0_0 a0_1 a1_0 a1_1))) else (spec_CxOver.j0 k ft125 true a0_0 a0_1 a1_0 a1_1))) = some (r1, r2, r3) := by rw [if_pos rfl] at H; exact H
      clear H
      have H := H1
      clear H1
      replace H := Option.bind_eq_some_iff.mp H
      obtain ⟨t127, A120, H⟩ := H
      replace H : (if t127 = true then ((spec_l4Finite.f a1_0).bind fun t128 => (if t128 = true then ((spec_l4Finite.f a1_1).bind fun t129 => (if t129 = true then ((spec_l4Finite.f ft125).bind fun t130 => (if t130 = true then (spec_CxOver.j0 k ft125 (fcmp .eql .f64 ft125 (cn .f64 0)) a0_0 a0_1 a1_0 a1_1) else (spec_CxOver.j0 k ft125 true a0_0 a0_1 a1_0 a1_1))) else (spec_CxOver.j0 k ft125 true a0_0 a0_1 a1_0 a1_1))) else (spec_CxOver.j0 k ft125 true a0_0 a0_1 a1_0 a1_1))) else (spec_CxOver.j0 k ft125 true a0_0 a0_1 a1_0 a1_1)) = some (r1, r2, r3) := H
      have A12 := Aside0.mk A120
      clear A120
      by_cases c13 : t127 = true
      · subst c13
        have H1 : ((spec_l4Finite.f a1_0).bind fun t128 => (if t128 = true then ((spec_l4Finite.f a1_1).bind fun t129 => (if t129 = true then ((spec_l4Finite.f ft125).bind fun t130 => (if t130 = true then (spec_CxOver.j0 k ft125 (fcmp .eql .f64 ft125 (cn .f64 0)) a0_0 a0_1 a1_0 a1_1) else (spec_CxOver.j0 k ft125 true a0_0 a0_1 a1_0 a1_1))) else (spec_CxOver.j0 k ft125 true a0_0 a0_1 a1_0 a1_1))) else (spec_CxOver.j0 k ft125 true a0_0 a0_1 a1_0 a1_1))) = some (r1, r2, r3) := by rw [if_pos rfl] at H; exact H
        clear H
        have H := H1
        clear H1
        replace H := Option.bind_eq_some_iff.mp H
        obtain ⟨t128, A140, H⟩ := H
        replace H : (if t128 = true then ((spec_l4Finite.f a1_1).bind fun t129 => (if t129 = true then ((spec_l4Finite.f ft125).bind fun t130 => (if t130 = true then (spec_CxOver.j0 k ft125 (fcmp .eql .f64 ft125 (cn .f64 0)) a0_0 a0_1 a1_0 a1_1) else (spec_CxOver.j0 k ft125 true a0_0 a0_1 a1_0 a1_1))) else (spec_CxOver.j0 k ft125 true a0_0 a0_1 a1_0 a1_1))) else (spec_CxOver.j0 k ft125 true a0_0 a0_1 a1_0 a1_1)) = some (r1, r2, r3) := H
        have A14 := Aside0.mk A140
        clear A140
        by_cases c15 : t128 = true
        · subst c15
          have H1 : ((spec_l4Finite.f a1_1).bind fun t129 => (if t129 = true then ((spec_l4Finite.f ft125).bind fun t130 => (if t130 = true then (spec_CxOver.j0 k ft125 (fcmp .eql .f64 ft125 (cn .f64 0)) a0_0 a0_1 a1_0 a1_1) else (spec_CxOver.j0 k ft125 true a0_0 a0_1 a1_0 a1_1))) else (spec_CxOver.j0 k ft125 true a0_0 a0_1 a1_0 a1_1))) = some (r1, r2, r3) := by rw [if_pos rfl] at H; exact H
          clear H
          have H := H1
          clear H1
          replace H := Option.bind_eq_some_iff.mp H
          obtain ⟨t129, A160, H⟩ := H
          replace H : (if t129 = true then ((spec_l4Finite.f ft125).bind fun t130 => (if t130 = true then (spec_CxOver.j0 k ft125 (fcmp .eql .f64 ft125 (cn .f64 0)) a0_0 a0_1 a1_0 a1_1) else (spec_CxOver.j0 k ft125 true a0_0 a0_1 a1_0 a1_1))) else (spec_CxOver.j0 k ft125 true a0_0 a0_1 a1_0 a1_1)) = some (r1, r2, r3) := H
          have A16 := Aside0.mk A160
          clear A160
          by_cases c17 : t129 = true
          · subst c17
            have H1 : ((spec_l4Finite.f ft125).bind fun t130 => (if t130 = true then (spec_CxOver.j0 k ft125 (fcmp .eql .f64 ft125 (cn .f64 0)) a0_0 a0_1 a1_0 a1_1) else (spec_CxOver.j0 k ft125 true a0_0 a0_1 a1_0 a1_1))) = some (r1, r2, r3) := by rw [if_pos rfl] at H; exact H
            clear H
            have H := H1
            clear H1
            replace H := Option.bind_eq_some_iff.mp H
            obtain ⟨t130, A180, H⟩ := H
            replace H : (if t130 = true then (spec_CxOver.j0 k ft125 (fcmp .eql .f64 ft125 (cn .f64 0)) a0_0 a0_1 a1_0 a1_1) else (spec_CxOver.j0 k ft125 true a0_0 a0_1 a1_0 a1_1)) = some (r1, r2, r3) := H
            have A18 := Aside0.mk A180
            clear A180
            by_cases c19 : t130 = true
            · subst c19
              have H1 : (spec_CxOver.j0 k ft125 (fcmp .eql .f64 ft125 (cn .f64 0)) a0_0 a0_1 a1_0 a1_1) = some (r1, r2, r3) := by rw [if_pos rfl] at H; exact H
              clear H
              have H := H1
              clear H1
              have H' := Aside0.mk H
              clear H
              have hnb20 := NB120_121.out
              have hnc20 := NB121_120.out
              have hnb21 := NB120_122.out
              have hnc21 := NB122_120.out
              have hcz22_0 : w6.cell? ⟨gb120, 0, none⟩ = some (.float .f64 b_a0_0) := (blk_cell BK120.out 0).trans rfl
              have hcz22_1 : w6.cell? ⟨gb120, 1, none⟩ = some (.float .f64 b_a0_1) := (blk_cell BK120.out 1).trans rfl
              have hfz22_0 := blk_frozen BK120.out 0
              have hfz22_1 := blk_frozen BK120.out 1
              go_wp2_with (first | ((with_reducible refine gate_callee (f := 51) rfl ?_); refine goesL_ (some 25) rfl rfl Try.func51 (by kernel_rfl) rfl #[.float .f64 b_a0_0] rfl (by (try simp only [List.map_toArray, List.map_cons, List.map_nil]); first | done | rfl | (simp only [List.length_drop, List.length_take]; rfl)) ?_; (with_reducible refine (spec_l4Finite.calls b_a0_0 a0_0 true _ ?side1 A10.out).mono ?_); (case side1 => exact hF_a0_0); rintro e w' ⟨rfl, ⟨nd, rfl⟩⟩; refine ⟨_, rfl, ?_⟩) | (go_at_call 51; (with_reducible refine (spec_l4Finite.calls b_a0_1 a0_1 true _ ?side1 A12.out).mono ?_); (case side1 => exact hF_a0_1); rintro e w' ⟨rfl, ⟨nd, rfl⟩⟩; have hnb23 := NB121_122.out; have hnc23 := NB122_121.out; have hcz24_0 : w6.cell? ⟨gb121, 0, none⟩ = some (.float .f64 b_a1_0) := (blk_cell BK121.out 0).trans rfl; have hcz24_1 : w6.cell? ⟨gb121, 1, none⟩ = some (.float .f64 b_a1_1) := (blk_cell BK121.out 1).trans rfl; have hfz24_0 := blk_frozen BK121.out 0; have hfz24_1 := blk_frozen BK121.out 1) | (go_at_call 51; (with_reducible refine (spec_l4Finite.calls b_a1_0 a1_0 true _ ?side1 A14.out).mono ?_); (case side1 => exact hF_a1_0); rintro e w' ⟨rfl, ⟨nd, rfl⟩⟩) | (go_at_call 51; (with_reducible refine (spec_l4Finite.calls b_a1_1 a1_1 true _ ?side1 A16.out).mono ?_); (case side1 => exact hF_a1_1); rintro e w' ⟨rfl, ⟨nd, rfl⟩⟩) | (go_at_call 51; (with_reducible refine (spec_l4Finite.calls b_ft125 ft125 true _ ?side1 A18.out).mono ?_); (case side1 => exact hF_ft125); rintro e w' ⟨rfl, ⟨nd, rfl⟩⟩))
              go_meet
              case rel => exact ⟨_, ((fcmp .eql .f64 ft125 (cn .f64 0))), (by first | rfl | (simp; done) | (simp [*]; done)), H', ⟨by first | omega | exact Nat.le_refl _⟩, ⟨by (with_reducible repeat (first | refine blk_drewN ?_ _ | refine blk_drew ?_ | refine blk_alloc ?_ _)); exact BK120.out⟩, ⟨by (with_reducible repeat (first | refine blk_drewN ?_ _ | refine blk_drew ?_ | refine blk_alloc ?_ _)); exact BK121.out⟩, ⟨by (with_reducible repeat (first | refine blk_drewN ?_ _ | refine blk_drew ?_ | refine blk_alloc ?_ _)); exact BK122.out⟩, ⟨by repeat (first | (with_reducible first | exact HB.out | apply below_alloc | apply pw_below_drewN | apply below_drew1 | refine below_set ?_ GE120.out | refine below_set ?_ GE121.out | refine below_set ?_ GE122.out) | exact HB.out)⟩⟩
            · replace c19 := Bool.eq_false_iff.mpr c19
              subst c19
              have H1 : (spec_CxOver.j0 k ft125 true a0_0 a0_1 a1_0 a1_1) = some (r1, r2, r3) := by rw [if_neg (show ¬ (false = true) by decide)] at H; exact H
              clear H
              have H := H1
              clear H1
              have H' := Aside0.mk H
              clear H
              have hnb25 := NB120_121.out
              have hnc25 := NB121_120.out
              have hnb26 := NB120_122.out
              have hnc26 := NB122_120.out
              have hcz27_0 : w6.cell? ⟨gb120, 0, none⟩ = some (.float .f64 b_a0_0) := (blk_cell BK120.out 0).trans rfl
              have hcz27_1 : w6.cell? ⟨gb120, 1, none⟩ = some (.float .f64 b_a0_1) := (blk_cell BK120.out 1).trans rfl
              have hfz27_0 := blk_frozen BK120.out 0
              have hfz27_1 := blk_frozen BK120.out 1
              go_wp2_with (first | ((with_reducible refine gate_callee (f := 51) rfl ?_); refine goesL_ (some 25) rfl rfl Try.func51 (by kernel_rfl) rfl #[.float .f64 b_a0_0] rfl (by (try simp only [List.map_toArray, List.map_cons, List.map_nil]); first | done | rfl | (simp only [List.length_drop, List.length_take]; rfl)) ?_; (with_reducible refine (spec_l4Finite.calls b_a0_0 a0_0 true _ ?side1 A10.out).mono ?_); (case side1 => exact hF_a0_0); rintro e w' ⟨rfl, ⟨nd, rfl⟩⟩; refine ⟨_, rfl, ?_⟩) | (go_at_call 51; (with_reducible refine (spec_l4Finite.calls b_a0_1 a0_1 true _ ?side1 A12.out).mono ?_); (case side1 => exact hF_a0_1); rintro e w' ⟨rfl, ⟨nd, rfl⟩⟩; have hnb28 := NB121_122.out; have hnc28 := NB122_121.out; have hcz29_0 : w6.cell? ⟨gb121, 0, none⟩ = some (.float .f64 b_a1_0) := (blk_cell BK121.out 0).trans rfl; have hcz29_1 : w6.cell? ⟨gb121, 1, none⟩ = some (.float .f64 b_a1_1) := (blk_cell BK121.out 1).trans rfl; have hfz29_0 := blk_frozen BK121.out 0; have hfz29_1 := blk_frozen BK121.out 1) | (go_at_call 51; (with_reducible refine (spec_l4Finite.calls b_a1_0 a1_0 true _ ?side1 A14.out).mono ?_); (case side1 => exact hF_a1_0); rintro e w' ⟨rfl, ⟨nd, rfl⟩⟩) | (go_at_call 51; (with_reducible refine (spec_l4Finite.calls b_a1_1 a1_1 true _ ?side1 A16.out).mono ?_); (case side1 => exact hF_a1_1); rintro e w' ⟨rfl, ⟨nd, rfl⟩⟩) | (go_at_call 51; (with_reducible refine (spec_l4Finite.calls b_ft125 ft125 false _ ?side1 A18.out).mono ?_); (case side1 => exact hF_ft125); rintro e w' ⟨rfl, ⟨nd, rfl⟩⟩))
              go_meet
              case rel => exact ⟨_, (true), (by first | rfl | (simp; done) | (simp [*]; done)), H', ⟨by first | omega | exact Nat.le_refl _⟩, ⟨by (with_reducible repeat (first | refine blk_drewN ?_ _ | refine blk_drew ?_ | refine blk_alloc ?_ _)); exact BK120.out⟩, ⟨by (with_reducible repeat (first | refine blk_drewN ?_ _ | refine blk_drew ?_ | refine blk_alloc ?_ _)); exact BK121.out⟩, ⟨by (with_reducible repeat (first | refine blk_drewN ?_ _ | refine blk_drew ?_ | refine blk_alloc ?_ _)); exact BK122.out⟩, ⟨by repeat (first | (with_reducible first | exact HB.out | apply below_alloc | apply pw_below_drewN | apply below_drew1 | refine below_set ?_ GE120.out | refine below_set ?_ GE121.out | refine below_set ?_ GE122.out) | exact HB.out)⟩⟩
          · replace c17 := Bool.eq_false_iff.mpr c17
            subst c17
            have H1 : (spec_CxOver.j0 k ft125 true a0_0 a0_1 a1_0 a1_1) = some (r1, r2, r3) := by rw [if_neg (show ¬ (false = true) by decide)] at H; exact H
            clear H
            have H := H1
            clear H1
            have H' := Aside0.mk H
            clear H
            have hnb30 := NB120_121.out
            have hnc30 := NB121_120.out
            have hnb31 := NB120_122.out
            have hnc31 := NB122_120.out
            have hcz32_0 : w6.cell? ⟨gb120, 0, none⟩ = some (.float .f64 b_a0_0) := (blk_cell BK120.out 0).trans rfl
            have hcz32_1 : w6.cell? ⟨gb120, 1, none⟩ = some (.float .f64 b_a0_1) := (blk_cell BK120.out 1).trans rfl
            have hfz32_0 := blk_frozen BK120.out 0
            have hfz32_1 := blk_frozen BK120.out 1
            go_wp2_with (first | ((with_reducible refine gate_callee (f := 51) rfl ?_); refine goesL_ (some 25) rfl rfl Try.func51 (by kernel_rfl) rfl #[.float .f64 b_a0_0] rfl (by (try simp only [List.map_toArray, List.map_cons, List.map_nil]); first | done | rfl | (simp only [List.length_drop, List.length_take]; rfl)) ?_; (with_reducible refine (spec_l4Finite.calls b_a0_0 a0_0 true _ ?side1 A10.out).mono ?_); (case side1 => exact hF_a0_0); rintro e w' ⟨rfl, ⟨nd, rfl⟩⟩; refine ⟨_, rfl, ?_⟩) | (go_at_call 51; (with_reducible refine (spec_l4Finite.calls b_a0_1 a0_1 true _ ?side1 A12.out).mono ?_); (case side1 => exact hF_a0_1); rintro e w' ⟨rfl, ⟨nd, rfl⟩⟩; have hnb33 := NB121_122.out; have hnc33 := NB122_121.out; have hcz34_0 : w6.cell? ⟨gb121, 0, none⟩ = some (.float .f64 b_a1_0) := (blk_cell BK121.out 0).trans rfl; have hcz34_1 : w6.cell? ⟨gb121, 1, none⟩ = some (.float .f64 b_a1_1) := (blk_cell BK121.out 1).trans rfl; have hfz34_0 := blk_frozen BK121.out 0; have hfz34_1 := blk_frozen BK121.out 1) | (go_at_call 51; (with_reducible refine (spec_l4Finite.calls b_a1_0 a1_0 true _ ?side1 A14.out).mono ?_); (case side1 => exact hF_a1_0); rintro e w' ⟨rfl, ⟨nd, rfl⟩⟩) | (go_at_call 51; (with_reducible refine (spec_l4Finite.calls b_a1_1 a1_1 false _ ?side1 A16.out).mono ?_); (case side1 => exact hF_a1_1); rintro e w' ⟨rfl, ⟨nd, rfl⟩⟩))
            go_meet
            case rel => exact ⟨_, (true), (by first | rfl | (simp; done) | (simp [*]; done)), H', ⟨by first | omega | exact Nat.le_refl _⟩, ⟨by (with_reducible repeat (first | refine blk_drewN ?_ _ | refine blk_drew ?_ | refine blk_alloc ?_ _)); exact BK120.out⟩, ⟨by (with_reducible repeat (first | refine blk_drewN ?_ _ | refine blk_drew ?_ | refine blk_alloc ?_ _)); exact BK121.out⟩, ⟨by (with_reducible repeat (first | refine blk_drewN ?_ _ | refine blk_drew ?_ | refine blk_alloc ?_ _)); exact BK122.out⟩, ⟨by repeat (first | (with_reducible first | exact HB.out | apply below_alloc | apply pw_below_drewN | apply below_drew1 | refine below_set ?_ GE120.out | refine below_set ?_ GE121.out | refine below_set ?_ GE122.out) | exact HB.out)⟩⟩
        · replace c15 := Bool.eq_false_iff.mpr c15
          subst c15
          have H1 : (spec_CxOver.j0 k ft125 true a0_0 a0_1 a1_0 a1_1) = some (r1, r2, r3) := by rw [if_neg (show ¬ (false = true) by decide)] at H; exact H
          clear H
          have H := H1
          clear H1
          have H' := Aside0.mk H
          clear H
          have hnb35 := NB120_121.out
          have hnc35 := NB121_120.out
          have hnb36 := NB120_122.out
          have hnc36 := NB122_120.out
          have hcz37_0 : w6.cell? ⟨gb120, 0, none⟩ = some (.float .f64 b_a0_0) := (blk_cell BK120.out 0).trans rfl
          have hcz37_1 : w6.cell? ⟨gb120, 1, none⟩ = some (.float .f64 b_a0_1) := (blk_cell BK120.out 1).trans rfl
          have hfz37_0 := blk_frozen BK120.out 0
          have hfz37_1 := blk_frozen BK120.out 1
          go_wp2_with (first | ((with_reducible refine gate_callee (f := 51) rfl ?_); refine goesL_ (some 25) rfl rfl Try.func51 (by kernel_rfl) rfl #[.float .f64 b_a0_0] rfl (by (try simp only [List.map_toArray, List.map_cons, List.map_nil]); first | done | rfl | (simp only [List.length_drop, List.length_take]; rfl)) ?_; (with_reducible refine (spec_l4Finite.calls b_a0_0 a0_0 true _ ?side1 A10.out).mono ?_); (case side1 => exact hF_a0_0); rintro e w' ⟨rfl, ⟨nd, rfl⟩⟩; refine ⟨_, rfl, ?_⟩) | (go_at_call 51; (with_reducible refine (spec_l4Finite.calls b_a0_1 a0_1 true _ ?side1 A12.out).mono ?_); (case side1 => exact hF_a0_1); rintro e w' ⟨rfl, ⟨nd, rfl⟩⟩; have hnb38 := NB121_122.out; have hnc38 := NB122_121.out; have hcz39_0 : w6.cell? ⟨gb121, 0, none⟩ = some (.float .f64 b_a1_0) := (blk_cell BK121.out 0).trans rfl; have hcz39_1 : w6.cell? ⟨gb121, 1, none⟩ = some (.float .f64 b_a1_1) := (blk_cell BK121.out 1).trans rfl; have hfz39_0 := blk_frozen BK121.out 0; have hfz39_1 := blk_frozen BK121.out 1) | (go_at_call 51; (with_reducible refine (spec_l4Finite.calls b_a1_0 a1_0 false _ ?side1 A14.out).mono ?_); (case side1 => exact hF_a1_0); rintro e w' ⟨rfl, ⟨nd, rfl⟩⟩))
          go_meet
          case rel => exact ⟨_, (true), (by first | rfl | (simp; done) | (simp [*]; done)), H', ⟨by first | omega | exact Nat.le_refl _⟩, ⟨by (with_reducible repeat (first | refine blk_drewN ?_ _ | refine blk_drew ?_ | refine blk_alloc ?_ _)); exact BK120.out⟩, ⟨by (with_reducible repeat (first | refine blk_drewN ?_ _ | refine blk_drew ?_ | refine blk_alloc ?_ _)); exact BK121.out⟩, ⟨by (with_reducible repeat (first | refine blk_drewN ?_ _ | refine blk_drew ?_ | refine blk_alloc ?_ _)); exact BK122.out⟩, ⟨by repeat (first | (with_reducible first | exact HB.out | apply below_alloc | apply pw_below_drewN | apply below_drew1 | refine below_set ?_ GE120.out | refine below_set ?_ GE121.out | refine below_set ?_ GE122.out) | exact HB.out)⟩⟩
      · replace c13 := Bool.eq_false_iff.mpr c13
        subst c13
        have H1 : (spec_CxOver.j0 k ft125 true a0_0 a0_1 a1_0 a1_1) = some (r1, r2, r3) := by rw [if_neg (show ¬ (false = true) by decide)] at H; exact H
        clear H
        have H := H1
        clear H1
        have H' := Aside0.mk H
        clear H
        have hnb40 := NB120_121.out
        have hnc40 := NB121_120.out
        have hnb41 := NB120_122.out
        have hnc41 := NB122_120.out
        have hcz42_0 : w6.cell? ⟨gb120, 0, none⟩ = some (.float .f64 b_a0_0) := (blk_cell BK120.out 0).trans rfl
        have hcz42_1 : w6.cell? ⟨gb120, 1, none⟩ = some (.float .f64 b_a0_1) := (blk_cell BK120.out 1).trans rfl
        have hfz42_0 := blk_frozen BK120.out 0
        have hfz42_1 := blk_frozen BK120.out 1
        go_wp2_with (first | ((with_reducible refine gate_callee (f := 51) rfl ?_); refine goesL_ (some 25) rfl rfl Try.func51 (by kernel_rfl) rfl #[.float .f64 b_a0_0] rfl (by (try simp only [List.map_toArray, List.map_cons, List.map_nil]); first | done | rfl | (simp only [List.length_drop, List.length_take]; rfl)) ?_; (with_reducible refine (spec_l4Finite.calls b_a0_0 a0_0 true _ ?side1 A10.out).mono ?_); (case side1 => exact hF_a0_0); rintro e w' ⟨rfl, ⟨nd, rfl⟩⟩; refine ⟨_, rfl, ?_⟩) | (go_at_call 51; (with_reducible refine (spec_l4Finite.calls b_a0_1 a0_1 false _ ?side1 A12.out).mono ?_); (case side1 => exact hF_a0_1); rintro e w' ⟨rfl, ⟨nd, rfl⟩⟩))
        go_meet
        case rel => exact ⟨_, (true), (by first | rfl | (simp; done) | (simp [*]; done)), H', ⟨by first | omega | exact Nat.le_refl _⟩, ⟨by (with_reducible repeat (first | refine blk_drewN ?_ _ | refine blk_drew ?_ | refine blk_alloc ?_ _)); exact BK120.out⟩, ⟨by (with_reducible repeat (first | refine blk_drewN ?_ _ | refine blk_drew ?_ | refine blk_alloc ?_ _)); exact BK121.out⟩, ⟨by (with_reducible repeat (first | refine blk_drewN ?_ _ | refine blk_drew ?_ | refine blk_alloc ?_ _)); exact BK122.out⟩, ⟨by repeat (first | (with_reducible first | exact HB.out | apply below_alloc | apply pw_below_drewN | apply below_drew1 | refine below_set ?_ GE120.out | refine below_set ?_ GE121.out | refine below_set ?_ GE122.out) | exact HB.out)⟩⟩
    · replace c11 := Bool.eq_false_iff.mpr c11
      subst c11
      have H1 : (spec_CxOver.j0 k ft125 true a0_0 a0_1 a1_0 a1_1) = some (r1, r2, r3) := by rw [if_neg (show ¬ (false = true) by decide)] at H; exact H
      clear H
      have H := H1
      clear H1
      have H' := Aside0.mk H
      clear H
      have hnb43 := NB120_121.out
      have hnc43 := NB121_120.out
      have hnb44 := NB120_122.out
      have hnc44 := NB122_120.out
      have hcz45_0 : w6.cell? ⟨gb120, 0, none⟩ = some (.float .f64 b_a0_0) := (blk_cell BK120.out 0).trans rfl
      have hcz45_1 : w6.cell? ⟨gb120, 1, none⟩ = some (.float .f64 b_a0_1) := (blk_cell BK120.out 1).trans rfl
      have hfz45_0 := blk_frozen BK120.out 0
      have hfz45_1 := blk_frozen BK120.out 1
      go_wp2_with (first | ((with_reducible refine gate_callee (f := 51) rfl ?_); refine goesL_ (some 25) rfl rfl Try.func51 (by kernel_rfl) rfl #[.float .f64 b_a0_0] rfl (by (try simp only [List.map_toArray, List.map_cons, List.map_nil]); first | done | rfl | (simp only [List.length_drop, List.length_take]; rfl)) ?_; (with_reducible refine (spec_l4Finite.calls b_a0_0 a0_0 false _ ?side1 A10.out).mono ?_); (case side1 => exact hF_a0_0); rintro e w' ⟨rfl, ⟨nd, rfl⟩⟩; refine ⟨_, rfl, ?_⟩))
      go_meet
      case rel => exact ⟨_, (true), (by first | rfl | (simp; done) | (simp [*]; done)), H', ⟨by first | omega | exact Nat.le_refl _⟩, ⟨by (with_reducible repeat (first | refine blk_drewN ?_ _ | refine blk_drew ?_ | refine blk_alloc ?_ _)); exact BK120.out⟩, ⟨by (with_reducible repeat (first | refine blk_drewN ?_ _ | refine blk_drew ?_ | refine blk_alloc ?_ _)); exact BK121.out⟩, ⟨by (with_reducible repeat (first | refine blk_drewN ?_ _ | refine blk_drew ?_ | refine blk_alloc ?_ _)); exact BK122.out⟩, ⟨by repeat (first | (with_reducible first | exact HB.out | apply below_alloc | apply pw_below_drewN | apply below_drew1 | refine below_set ?_ GE120.out | refine below_set ?_ GE121.out | refine below_set ?_ GE122.out) | exact HB.out)⟩⟩
  case rest =>
    clear HC3
    try clear c1
    try clear c2
    try clear p2
    try clear c3
    try clear c4
    try clear c5
    try clear c6
    try clear c7
    try clear c8
    try clear c11
    try clear c13
    try clear c15
    try clear c17
    try clear c19
    try clear c20
    try clear c21
    try clear c23
    try clear c25
    try clear c26
    try clear c28
    try clear c30
    try clear c31
    try clear c33
    try clear c35
    try clear c36
    try clear c38
    try clear c40
    try clear c41
    try clear c43
    try clear c44
    try clear hcz22_0
    try clear hcz22_1
    try clear hcz24_0
    try clear hcz24_1
    try clear hcz27_0
    try clear hcz27_1
    try clear hcz29_0
    try clear hcz29_1
    try clear hcz32_0
    try clear hcz32_1
    try clear hcz34_0
    try clear hcz34_1
    try clear hcz37_0
    try clear hcz37_1
    try clear hcz39_0
    try clear hcz39_1
    try clear hcz42_0
    try clear hcz42_1
    try clear hcz45_0
    try clear hcz45_1
    try clear hcz9_0
    try clear hcz9_1
    try clear hfz22_0
    try clear hfz22_1
    try clear hfz24_0
    try clear hfz24_1
    try clear hfz27_0
    try clear hfz27_1
    try clear hfz29_0
    try clear hfz29_1
    try clear hfz32_0
    try clear hfz32_1
    try clear hfz34_0
    try clear hfz34_1
    try clear hfz37_0
    try clear hfz37_1
    try clear hfz39_0
    try clear hfz39_1
    try clear hfz42_0
    try clear hfz42_1
    try clear hfz45_0
    try clear hfz45_1
    try clear hfz9_0
    try clear hfz9_1
    obtain ⟨kq, x53_2, rfl, HA, HJ2, BK120, BK121, BK122, HB⟩ := hcut
    cases kq with
    | zero => exact absurd HA.out (by simp [spec_CxOver.j0])
    | succ kj2 =>
      have H := HA.out
      clear HA
      simp only [spec_CxOver.j0] at H
      by_cases c46 : x53_2 = true
      · subst c46
        have H1 : (some ((cn .f64 0), (cn .f64 0), false)) = some (r1, r2, r3) := by rw [if_pos rfl] at H; exact H
        clear H
        have H := H1
        clear H1
        simp only [Option.some.injEq, Prod.mk.injEq] at H
        obtain ⟨rfl, rfl, rfl⟩ := H
        have hnb47 := NB122_120.out
        have hnc47 := NB120_122.out
        have hnb48 := NB122_121.out
        have hnc48 := NB121_122.out
        have hcz49_0 : wc.cell? ⟨gb122, 0, none⟩ = some (.float .f64 0) := (blk_cell BK122.out 0).trans rfl
        have hcz49_1 : wc.cell? ⟨gb122, 1, none⟩ = some (.float .f64 0) := (blk_cell BK122.out 1).trans rfl
        have hfz49_0 := blk_frozen BK122.out 0
        have hfz49_1 := blk_frozen BK122.out 1
        go_wp2
        refine bodyPost_ret (results_ct rfl _ _ gb122 26 #[.float .f64 0, .float .f64 0] (0, 0) _ rfl (by (with_reducible repeat (first | refine blk_drewN ?_ _ | refine blk_drew ?_ | refine blk_alloc ?_ _)); refine blk_put (cs := #[.float .f64 0, .float .f64 0]) ?_ 1 _ rfl; (with_reducible repeat (first | refine blk_drewN ?_ _ | refine blk_drew ?_ | refine blk_alloc ?_ _)); refine blk_put (cs := #[.float .f64 0, .float .f64 0]) ?_ 0 _ rfl; (with_reducible repeat (first | refine blk_drewN ?_ _ | refine blk_drew ?_ | refine blk_alloc ?_ _)); exact BK122.out) Try.underlying26 rfl (by kernel_rfl)) rfl ?_
        exact ⟨0, 0, by first | rfl | (simp [errW_none, errW_some] <;> rfl) | (simp [*, errW_none, errW_some] <;> rfl), rfl, rfl, by repeat (first | (with_reducible first | exact HB.out | apply below_alloc | apply pw_below_drewN | apply below_drew1 | refine below_set ?_ GE120.out | refine below_set ?_ GE121.out | refine below_set ?_ GE122.out) | exact HB.out)⟩
      · replace c46 := Bool.eq_false_iff.mpr c46
        subst c46
        have H1 : ((spec_CxTimes.f a0_0 a0_1 a1_0 (fneg .f64 a1_1)).bind fun bt132 => (some ((fop .quo .f64 bt132.1 ft125), (fop .quo .f64 bt132.2 ft125), true))) = some (r1, r2, r3) := by rw [if_neg (show ¬ (false = true) by decide)] at H; exact H
        clear H
        have H := H1
        clear H1
        obtain ⟨ft131, hft131⟩ : ∃ y_ : Fl, y_ = (fneg .f64 a1_1) := ⟨_, rfl⟩
        replace H : ((spec_CxTimes.f a0_0 a0_1 a1_0 ft131).bind fun bt132 => (some ((fop .quo .f64 bt132.1 ft125), (fop .quo .f64 bt132.2 ft125), true))) = some (r1, r2, r3) := by first | (rw [hft131]; with_reducible exact H) | (have H2_ := (Option.bind_some _ _).symm.trans H; rw [hft131]; with_reducible exact H2_) | (have H2_ := (Option.bind_some _ _).symm.trans H; with_reducible exact H2_) | with_reducible exact H | (rw [hft131]; exact H) | exact H
        have Nft131 := Aside0.mk hft131
        clear hft131
        replace H := Option.bind_eq_some_iff.mp H
        obtain ⟨⟨t132, t133⟩, A500, H⟩ := H
        replace H : (some ((fop .quo .f64 t132 ft125), (fop .quo .f64 t133 ft125), true)) = some (r1, r2, r3) := H
        have A50 := Aside0.mk A500
        clear A500
        obtain ⟨ft135, hft135⟩ : ∃ y_ : Fl, y_ = (fop .quo .f64 t132 ft125) := ⟨_, rfl⟩
        replace H : (some (ft135, (fop .quo .f64 t133 ft125), true)) = some (r1, r2, r3) := by first | (rw [hft135]; with_reducible exact H) | (have H2_ := (Option.bind_some _ _).symm.trans H; rw [hft135]; with_reducible exact H2_) | (have H2_ := (Option.bind_some _ _).symm.trans H; with_reducible exact H2_) | with_reducible exact H | (rw [hft135]; exact H) | exact H
        have Nft135 := Aside0.mk hft135
        clear hft135
        obtain ⟨ft136, hft136⟩ : ∃ y_ : Fl, y_ = (fop .quo .f64 t133 ft125) := ⟨_, rfl⟩
        replace H : (some (ft135, ft136, true)) = some (r1, r2, r3) := by first | (rw [hft136]; with_reducible exact H) | (have H2_ := (Option.bind_some _ _).symm.trans H; rw [hft136]; with_reducible exact H2_) | (have H2_ := (Option.bind_some _ _).symm.trans H; with_reducible exact H2_) | with_reducible exact H | (rw [hft136]; exact H) | exact H
        have Nft136 := Aside0.mk hft136
        clear hft136
        simp only [Option.some.injEq, Prod.mk.injEq] at H
        obtain ⟨rfl, rfl, rfl⟩ := H
        have hnb51 := NB120_121.out
        have hnc51 := NB121_120.out
        have hnb52 := NB120_122.out
        have hnc52 := NB122_120.out
        have hcz53_0 : wc.cell? ⟨gb120, 0, none⟩ = some (.float .f64 b_a0_0) := (blk_cell BK120.out 0).trans rfl
        have hcz53_1 : wc.cell? ⟨gb120, 1, none⟩ = some (.float .f64 b_a0_1) := (blk_cell BK120.out 1).trans rfl
        have hfz53_0 := blk_frozen BK120.out 0
        have hfz53_1 := blk_frozen BK120.out 1
        have hnb54 := NB121_122.out
        have hnc54 := NB122_121.out
        have hcz55_0 : wc.cell? ⟨gb121, 0, none⟩ = some (.float .f64 b_a1_0) := (blk_cell BK121.out 0).trans rfl
        have hcz55_1 : wc.cell? ⟨gb121, 1, none⟩ = some (.float .f64 b_a1_1) := (blk_cell BK121.out 1).trans rfl
        have hfz55_0 := blk_frozen BK121.out 0
        have hfz55_1 := blk_frozen BK121.out 1
        go_wp2_with (first | ((with_reducible refine gate_dst (N := 60) rfl ?_); refine fneg_event rfl (N := 60) rfl rfl .f64 b_a1_1 a1_1 rfl hF_a1_1 ?_; intro b_ft131 nf_ hF_; replace hF_ := hF_.trans Nft131.out.symm; have hF_ft131 := hF_; clear hF_) | ((with_reducible refine gate_callee (f := 32) rfl ?_); refine goesL_ (some 62) rfl rfl Try.func32 (by kernel_rfl) rfl #[.agg #[.float .f64 b_a0_0, .float .f64 b_a0_1], .agg #[.float .f64 b_a1_0, .float .f64 b_ft131]] rfl (by (try simp only [List.map_toArray, List.map_cons, List.map_nil]); first | done | rfl | (simp only [List.length_drop, List.length_take]; rfl)) ?_; (with_reducible refine (spec_CxTimes.calls b_a0_0 a0_0 b_a0_1 a0_1 b_a1_0 a1_0 b_ft131 ft131 t132 t133 _ ?side1 ?side2 ?side3 ?side4 A50.out).mono ?_); (case side1 => exact hF_a0_0); (case side2 => exact hF_a0_1); (case side3 => exact hF_a1_0); (case side4 => exact hF_ft131); rintro e w56 ⟨b_t132, b_t133, rfl, hF_t132, hF_t133, hb⟩; refine ⟨_, rfl, ?_⟩; have n0_ := Aside0.mk (blk_below (g := gb120) (o := .cells #[.float .f64 b_a0_0, .float .f64 b_a0_1] 26 (0, 0)) (by (with_reducible repeat (first | refine blk_drewN ?_ _ | refine blk_drew ?_ | refine blk_alloc ?_ _)); exact BK120.out) hb); have n1_ := Aside0.mk (blk_below (g := gb121) (o := .cells #[.float .f64 b_a1_0, .float .f64 b_a1_1] 26 (0, 0)) (by (with_reducible repeat (first | refine blk_drewN ?_ _ | refine blk_drew ?_ | refine blk_alloc ?_ _)); exact BK121.out) hb); have n2_ := Aside0.mk (blk_below (g := gb122) (o := .cells #[.float .f64 0, .float .f64 0] 26 (0, 0)) (by (with_reducible repeat (first | refine blk_drewN ?_ _ | refine blk_drew ?_ | refine blk_alloc ?_ _)); exact BK122.out) hb); have n3_ := Aside0.mk (below_step (by repeat (first | (with_reducible first | exact HB.out | apply below_alloc | apply pw_below_drewN | apply below_drew1 | refine below_set ?_ GE120.out | refine below_set ?_ GE121.out | refine below_set ?_ GE122.out) | exact HB.out)) hb); clear BK120; clear BK121; clear BK122; clear HB; have BK120 := n0_; have BK121 := n1_; have BK122 := n2_; have HB := n3_; clear n0_ n1_ n2_ n3_; (try clear hb); (try clear hb2); (try clear hk); (try clear hi)) | ((with_reducible refine gate_dst (N := 9) rfl ?_); refine box_event ?hg (N := 9) ?hd (cs := #[.float .f64 0, .float .f64 0]) (t := 26) ?hr ?_; (case hd => rfl); (case hg => rfl); (case hr => first | (go_simp; done) | (go_simp; rfl)); intro gb134 hg w57 hbox hb; have n0_ := Aside0.mk (blk_below (g := gb120) (o := .cells #[.float .f64 b_a0_0, .float .f64 b_a0_1] 26 (0, 0)) (by (with_reducible repeat (first | refine blk_drewN ?_ _ | refine blk_drew ?_ | refine blk_alloc ?_ _)); exact BK120.out) hb); have n1_ := Aside0.mk (blk_below (g := gb121) (o := .cells #[.float .f64 b_a1_0, .float .f64 b_a1_1] 26 (0, 0)) (by (with_reducible repeat (first | refine blk_drewN ?_ _ | refine blk_drew ?_ | refine blk_alloc ?_ _)); exact BK121.out) hb); have n2_ := Aside0.mk (blk_below (g := gb122) (o := .cells #[.float .f64 0, .float .f64 0] 26 (0, 0)) (by (with_reducible repeat (first | refine blk_drewN ?_ _ | refine blk_drew ?_ | refine blk_alloc ?_ _)); exact BK122.out) hb); have n3_ := Aside0.mk (below_step (by repeat (first | (with_reducible first | exact HB.out | apply below_alloc | apply pw_below_drewN | apply below_drew1 | refine below_set ?_ GE120.out | refine below_set ?_ GE121.out | refine below_set ?_ GE122.out) | exact HB.out)) hb); have n4_ := Aside0.mk (hbox); have n5_ := Aside0.mk ((by rw [hg]; exact (below_size (by repeat (first | (with_reducible first | exact HB.out | apply below_alloc | apply pw_below_drewN | apply below_drew1 | refine below_set ?_ GE120.out | refine below_set ?_ GE121.out | refine below_set ?_ GE122.out) | exact HB.out))) : w.heap.size ≤ gb134)); have n6_ := Aside0.mk ((by rw [hg]; exact (below_size (by repeat (first | (with_reducible first | exact HB.out | apply below_alloc | apply pw_below_drewN | apply below_drew1 | refine below_set ?_ GE120.out | refine below_set ?_ GE121.out | refine below_set ?_ GE122.out) | exact HB.out))) : w.heap.size ≤ gb134)); have n7_ := Aside0.mk ((by rw [hg]; exact Nat.ne_of_lt (blk_lt (g := gb120) (o := .cells #[.float .f64 b_a0_0, .float .f64 b_a0_1] 26 (0, 0)) (by (with_reducible repeat (first | refine blk_drewN ?_ _ | refine blk_drew ?_ | refine blk_alloc ?_ _)); exact BK120.out)) : gb120 ≠ gb134)); have n8_ := Aside0.mk ((by rw [hg]; exact Nat.ne_of_gt (blk_lt (g := gb120) (o := .cells #[.float .f64 b_a0_0, .float .f64 b_a0_1] 26 (0, 0)) (by (with_reducible repeat (first | refine blk_drewN ?_ _ | refine blk_drew ?_ | refine blk_alloc ?_ _)); exact BK120.out)) : gb134 ≠ gb120)); have n9_ := Aside0.mk ((by rw [hg]; exact Nat.ne_of_lt (blk_lt (g := gb121) (o := .cells #[.float .f64 b_a1_0, .float .f64 b_a1_1] 26 (0, 0)) (by (with_reducible repeat (first | refine blk_drewN ?_ _ | refine blk_drew ?_ | refine blk_alloc ?_ _)); exact BK121.out)) : gb121 ≠ gb134)); have n10_ := Aside0.mk ((by rw [hg]; exact Nat.ne_of_gt (blk_lt (g := gb121) (o := .cells #[.float .f64 b_a1_0, .float .f64 b_a1_1] 26 (0, 0)) (by (with_reducible repeat (first | refine blk_drewN ?_ _ | refine blk_drew ?_ | refine blk_alloc ?_ _)); exact BK121.out)) : gb134 ≠ gb121)); have n11_ := Aside0.mk ((by rw [hg]; exact Nat.ne_of_lt (blk_lt (g := gb122) (o := .cells #[.float .f64 0, .float .f64 0] 26 (0, 0)) (by (with_reducible repeat (first | refine blk_drewN ?_ _ | refine blk_drew ?_ | refine blk_alloc ?_ _)); exact BK122.out)) : gb122 ≠ gb134)); have n12_ := Aside0.mk ((by rw [hg]; exact Nat.ne_of_gt (blk_lt (g := gb122) (o := .cells #[.float .f64 0, .float .f64 0] 26 (0, 0)) (by (with_reducible repeat (first | refine blk_drewN ?_ _ | refine blk_drew ?_ | refine blk_alloc ?_ _)); exact BK122.out)) : gb134 ≠ gb122)); clear BK120; clear BK121; clear BK122; clear HB; have BK120 := n0_; have BK121 := n1_; have BK122 := n2_; have HB := n3_; have BK134 := n4_; have GW134 := n5_; have GE134 := n6_; have NB120_134 := n7_; have NB134_120 := n8_; have NB121_134 := n9_; have NB134_121 := n10_; have NB122_134 := n11_; have NB134_122 := n12_; clear n0_ n1_ n2_ n3_ n4_ n5_ n6_ n7_ n8_ n9_ n10_ n11_ n12_; clear hb hbox hg; have hnb58 := NB134_120.out; have hnc58 := NB120_134.out; have hnb59 := NB134_121.out; have hnc59 := NB121_134.out; have hnb60 := NB134_122.out; have hnc60 := NB122_134.out; have hcz61_0 : w57.cell? ⟨gb134, 0, none⟩ = some (.float .f64 0) := (blk_cell BK134.out 0).trans rfl; have hcz61_1 : w57.cell? ⟨gb134, 1, none⟩ = some (.float .f64 0) := (blk_cell BK134.out 1).trans rfl; have hfz61_0 := blk_frozen BK134.out 0; have hfz61_1 := blk_frozen BK134.out 1) | ((with_reducible refine gate_dst (N := 66) rfl ?_); refine fop_event rfl (N := 66) rfl (op := .quo) (by simp) rfl .f64 b_t132 b_ft125 t132 ft125 rfl rfl hF_t132 hF_ft125 ?_; intro b_ft135 nf_ hF_; replace hF_ := hF_.trans Nft135.out.symm; have hF_ft135 := hF_; clear hF_) | ((with_reducible refine gate_dst (N := 70) rfl ?_); refine fop_event rfl (N := 70) rfl (op := .quo) (by simp) rfl .f64 b_t133 b_ft125 t133 ft125 rfl rfl hF_t133 hF_ft125 ?_; intro b_ft136 nf_ hF_; replace hF_ := hF_.trans Nft136.out.symm; have hF_ft136 := hF_; clear hF_; have hcz62_0 : w57.cell? ⟨gb122, 0, none⟩ = some (.float .f64 0) := (blk_cell BK122.out 0).trans rfl; have hcz62_1 : w57.cell? ⟨gb122, 1, none⟩ = some (.float .f64 0) := (blk_cell BK122.out 1).trans rfl; have hfz62_0 := blk_frozen BK122.out 0; have hfz62_1 := blk_frozen BK122.out 1))
        refine bodyPost_ret (results_ct rfl _ _ gb122 26 #[.float .f64 b_ft135, .float .f64 b_ft136] (0, 0) _ rfl (by (with_reducible repeat (first | refine blk_drewN ?_ _ | refine blk_drew ?_ | refine blk_alloc ?_ _)); refine blk_put (cs := #[.float .f64 b_ft135, .float .f64 0]) ?_ 1 _ rfl; (with_reducible repeat (first | refine blk_drewN ?_ _ | refine blk_drew ?_ | refine blk_alloc ?_ _)); refine blk_put (cs := #[.float .f64 0, .float .f64 0]) ?_ 0 _ rfl; (with_reducible repeat (first | refine blk_drewN ?_ _ | refine blk_drew ?_ | refine blk_alloc ?_ _)); refine blk_far ?_ NB122_134.out _; (with_reducible repeat (first | refine blk_drewN ?_ _ | refine blk_drew ?_ | refine blk_alloc ?_ _)); refine blk_far ?_ NB122_134.out _; (with_reducible repeat (first | refine blk_drewN ?_ _ | refine blk_drew ?_ | refine blk_alloc ?_ _)); exact BK122.out) Try.underlying26 rfl (by kernel_rfl)) rfl ?_
        exact ⟨b_ft135, b_ft136, by first | rfl | (simp [errW_none, errW_some] <;> rfl) | (simp [*, errW_none, errW_some] <;> rfl), hF_ft135, hF_ft136, by repeat (first | (with_reducible first | exact HB.out | apply below_alloc | apply pw_below_drewN | apply below_drew1 | refine below_set ?_ GE120.out | refine below_set ?_ GE121.out | refine below_set ?_ GE122.out | refine below_set ?_ GE134.out) | exact HB.out)⟩

/-! ### impl_CxTimes: function 33 -/
def impl_CxTimes.f (a0_0 : Fl) (a0_1 : Fl) (a1_0 : Fl) (a1_1 : Fl) : Option (Fl × Fl) := some ((fop .sub .f64 (fop .mul .f64 a0_0 a1_0) (fop .mul .f64 a0_1 a1_1)), (fop .add .f64 (fop .mul .f64 a0_0 a1_1) (fop .mul .f64 a0_1 a1_0)))
set_option maxHeartbeats 8000000 in
set_option maxRecDepth 100000 in
theorem impl_CxTimes.calls (b_a0_0 : Nat) (a0_0 : Fl) (b_a0_1 : Nat) (a0_1 : Fl) (b_a1_0 : Nat) (a1_0 : Fl) (b_a1_1 : Nat) (a1_1 : Fl) (r1 : Fl) (r2 : Fl) (w : World) (hF_a0_0 : cn .f64 b_a0_0 = a0_0) (hF_a0_1 : cn .f64 b_a0_1 = a0_1) (hF_a1_0 : cn .f64 b_a1_0 = a1_0) (hF_a1_1 : cn .f64 b_a1_1 = a1_1) (h : impl_CxTimes.f a0_0 a0_1 a1_0 a1_1 = some (r1, r2)) :
    Calls Try.prog 33 #[.agg #[.float .f64 b_a0_0, .float .f64 b_a0_1], .agg #[.float .f64 b_a1_0, .float .f64 b_a1_1]] w fun e w' => ∃ b_r1 b_r2 : Nat, e = .returned (.agg #[.float .f64 b_r1, .float .f64 b_r2]) ∧ cn .f64 b_r1 = r1 ∧ cn .f64 b_r2 = r2 ∧ Below w.heap.size w w' := by
  have hu26 := Try.underlying26
  have HB := Aside0.mk (Below.refl w.heap.size w)
  have H : (some ((fop .sub .f64 (fop .mul .f64 a0_0 a1_0) (fop .mul .f64 a0_1 a1_1)), (fop .add .f64 (fop .mul .f64 a0_0 a1_1) (fop .mul .f64 a0_1 a1_0)))) = some (r1, r2) := h
  clear h
  obtain ⟨ft140, hft140⟩ : ∃ y_ : Fl, y_ = (fop .mul .f64 a0_0 a1_0) := ⟨_, rfl⟩
  replace H : (some ((fop .sub .f64 ft140 (fop .mul .f64 a0_1 a1_1)), (fop .add .f64 (fop .mul .f64 a0_0 a1_1) (fop .mul .f64 a0_1 a1_0)))) = some (r1, r2) := by first | (rw [hft140]; with_reducible exact H) | (have H2_ := (Option.bind_some _ _).symm.trans H; rw [hft140]; with_reducible exact H2_) | (have H2_ := (Option.bind_some _ _).symm.trans H; with_reducible exact H2_) | with_reducible exact H | (rw [hft140]; exact H) | exact H
  have Nft140 := Aside0.mk hft140
  clear hft140
  obtain ⟨ft141, hft141⟩ : ∃ y_ : Fl, y_ = (fop .mul .f64 a0_1 a1_1) := ⟨_, rfl⟩
  replace H : (some ((fop .sub .f64 ft140 ft141), (fop .add .f64 (fop .mul .f64 a0_0 a1_1) (fop .mul .f64 a0_1 a1_0)))) = some (r1, r2) := by first | (rw [hft141]; with_reducible exact H) | (have H2_ := (Option.bind_some _ _).symm.trans H; rw [hft141]; with_reducible exact H2_) | (have H2_ := (Option.bind_some _ _).symm.trans H; with_reducible exact H2_) | with_reducible exact H | (rw [hft141]; exact H) | exact H
  have Nft141 := Aside0.mk hft141
  clear hft141
  obtain ⟨ft142, hft142⟩ : ∃ y_ : Fl, y_ = (fop .sub .f64 ft140 ft141) := ⟨_, rfl⟩
  replace H : (some (ft142, (fop .add .f64 (fop .mul .f64 a0_0 a1_1) (fop .mul .f64 a0_1 a1_0)))) = some (r1, r2) := by first | (rw [hft142]; with_reducible exact H) | (have H2_ := (Option.bind_some _ _).symm.trans H; rw [hft142]; with_reducible exact H2_) | (have H2_ := (Option.bind_some _ _).symm.trans H; with_reducible exact H2_) | with_reducible exact H | (rw [hft142]; exact H) | exact H
  have Nft142 := Aside0.mk hft142
  clear hft142
  obtain ⟨ft143, hft143⟩ : ∃ y_ : Fl, y_ = (fop .mul .f64 a0_0 a1_1) := ⟨_, rfl⟩
  replace H : (some (ft142, (fop .add .f64 ft143 (fop .mul .f64 a0_1 a1_0)))) = some (r1, r2) := by first | (rw [hft143]; with_reducible exact H) | (have H2_ := (Option.bind_some _ _).symm.trans H; rw [hft143]; with_reducible exact H2_) | (have H2_ := (Option.bind_some _ _).symm.trans H; with_reducible exact H2_) | with_reducible exact H | (rw [hft143]; exact H) | exact H
  have Nft143 := Aside0.mk hft143
  clear hft143
  obtain ⟨ft144, hft144⟩ : ∃ y_ : Fl, y_ = (fop .mul .f64 a0_1 a1_0) := ⟨_, rfl⟩
  replace H : (some (ft142, (fop .add .f64 ft143 ft144))) = some (r1, r2) := by first | (rw [hft144]; with_reducible exact H) | (have H2_ := (Option.bind_some _ _).symm.trans H; rw [hft144]; with_reducible exact H2_) | (have H2_ := (Option.bind_some _ _).symm.trans H; with_reducible exact H2_) | with_reducible exact H | (rw [hft144]; exact H) | exact H
  have Nft144 := Aside0.mk hft144
  clear hft144
  obtain ⟨ft145, hft145⟩ : ∃ y_ : Fl, y_ = (fop .add .f64 ft143 ft144) := ⟨_, rfl⟩
  replace H : (some (ft142, ft145)) = some (r1, r2) := by first | (rw [hft145]; with_reducible exact H) | (have H2_ := (Option.bind_some _ _).symm.trans H; rw [hft145]; with_reducible exact H2_) | (have H2_ := (Option.bind_some _ _).symm.trans H; with_reducible exact H2_) | with_reducible exact H | (rw [hft145]; exact H) | exact H
  have Nft145 := Aside0.mk hft145
  clear hft145
  simp only [Option.some.injEq, Prod.mk.injEq] at H
  obtain ⟨rfl, rfl⟩ := H
  go_enter Try.func33, Try.ntmps33
  go_wp2_with (first | ((with_reducible refine gate_dst (N := 2) rfl ?_); refine box_event ?hg (N := 2) ?hd (cs := #[.float .f64 b_a0_0, .float .f64 b_a0_1]) (t := 26) ?hr ?_; (case hd => rfl); (case hg => rfl); (case hr => first | (go_simp; done) | (go_simp; rfl)); intro gb137 hg w3 hbox hb; have n0_ := Aside0.mk (below_step (by repeat (first | (with_reducible first | exact HB.out | apply below_alloc | apply pw_below_drewN | apply below_drew1) | exact HB.out)) hb); have n1_ := Aside0.mk (hbox); have n2_ := Aside0.mk ((by rw [hg]; exact (below_size (by repeat (first | (with_reducible first | exact HB.out | apply below_alloc | apply pw_below_drewN | apply below_drew1) | exact HB.out))) : w.heap.size ≤ gb137)); have n3_ := Aside0.mk ((by rw [hg]; exact (below_size (by repeat (first | (with_reducible first | exact HB.out | apply below_alloc | apply pw_below_drewN | apply below_drew1) | exact HB.out))) : w.heap.size ≤ gb137)); clear HB; have HB := n0_; have BK137 := n1_; have GW137 := n2_; have GE137 := n3_; clear n0_ n1_ n2_ n3_; clear hb hbox hg) | ((with_reducible refine gate_dst (N := 3) rfl ?_); refine box_event ?hg (N := 3) ?hd (cs := #[.float .f64 b_a1_0, .float .f64 b_a1_1]) (t := 26) ?hr ?_; (case hd => rfl); (case hg => rfl); (case hr => first | (go_simp; done) | (go_simp; rfl)); intro gb138 hg w4 hbox hb; have n0_ := Aside0.mk (blk_below (g := gb137) (o := .cells #[.float .f64 b_a0_0, .float .f64 b_a0_1] 26 (0, 0)) (by (with_reducible repeat (first | refine blk_drewN ?_ _ | refine blk_drew ?_ | refine blk_alloc ?_ _)); exact BK137.out) hb); have n1_ := Aside0.mk (below_step (by repeat (first | (with_reducible first | exact HB.out | apply below_alloc | apply pw_below_drewN | apply below_drew1 | refine below_set ?_ GE137.out) | exact HB.out)) hb); have n2_ := Aside0.mk (hbox); have n3_ := Aside0.mk ((by rw [hg]; exact (below_size (by repeat (first | (with_reducible first | exact HB.out | apply below_alloc | apply pw_below_drewN | apply below_drew1 | refine below_set ?_ GE137.out) | exact HB.out))) : w.heap.size ≤ gb138)); have n4_ := Aside0.mk ((by rw [hg]; exact (below_size (by repeat (first | (with_reducible first | exact HB.out | apply below_alloc | apply pw_below_drewN | apply below_drew1 | refine below_set ?_ GE137.out) | exact HB.out))) : w.heap.size ≤ gb138)); have n5_ := Aside0.mk ((by rw [hg]; exact Nat.ne_of_lt (blk_lt (g := gb137) (o := .cells #[.float .f64 b_a0_0, .float .f64 b_a0_1] 26 (0, 0)) (by (with_reducible repeat (first | refine blk_drewN ?_ _ | refine blk_drew ?_ | refine blk_alloc ?_ _)); exact BK137.out)) : gb137 ≠ gb138)); have n6_ := Aside0.mk ((by rw [hg]; exact Nat.ne_of_gt (blk_lt (g := gb137) (o := .cells #[.float .f64 b_a0_0, .float .f64 b_a0_1] 26 (0, 0)) (by (with_reducible repeat (first | refine blk_drewN ?_ _ | refine blk_drew ?_ | refine blk_alloc ?_ _)); exact BK137.out)) : gb138 ≠ gb137)); clear BK137; clear HB; have BK137 := n0_; have HB := n1_; have BK138 := n2_; have GW138 := n3_; have GE138 := n4_; have NB137_138 := n5_; have NB138_137 := n6_; clear n0_ n1_ n2_ n3_ n4_ n5_ n6_; clear hb hbox hg) | ((with_reducible refine gate_dst (N := 4) rfl ?_); refine box_event ?hg (N := 4) ?hd (cs := #[.float .f64 0, .float .f64 0]) (t := 26) ?hr ?_; (case hd => rfl); (case hg => rfl); (case hr => first | (go_simp; done) | (go_simp; rfl)); intro gb139 hg w5 hbox hb; have n0_ := Aside0.mk (blk_below (g := gb137) (o := .cells #[.float .f64 b_a0_0, .float .f64 b_a0_1] 26 (0, 0)) (by (with_reducible repeat (first | refine blk_drewN ?_ _ | refine blk_drew ?_ | refine blk_alloc ?_ _)); exact BK137.out) hb); have n1_ := Aside0.mk (blk_below (g := gb138) (o := .cells #[.float .f64 b_a1_0, .float .f64 b_a1_1] 26 (0, 0)) (by (with_reducible repeat (first | refine blk_drewN ?_ _ | refine blk_drew ?_ | refine blk_alloc ?_ _)); exact BK138.out) hb); have n2_ := Aside0.mk (below_step (by repeat (first | (with_reducible first | exact HB.out | apply below_alloc | apply pw_below_drewN | apply below_drew1 | refine below_set ?_ GE137.out | refine below_set ?_ GE138.out) | exact HB.out)) hb); have n3_ := Aside0.mk (hbox); have n4_ := Aside0.mk ((by rw [hg]; exact (below_size (by repeat (first | (with_reducible first | exact HB.out | apply below_alloc | apply pw_below_drewN | apply below_drew1 | refine below_set ?_ GE137.out | refine below_set ?_ GE138.out) | exact HB.out))) : w.heap.size ≤ gb139)); have n5_ := Aside0.mk ((by rw [hg]; exact (below_size (by repeat (first | (with_reducible first | exact HB.out | apply below_alloc | apply pw_below_drewN | apply below_drew1 | refine below_set ?_ GE137.out | refine below_set ?_ GE138.out) | exact HB.out))) : w.heap.size ≤ gb139)); have n6_ := Aside0.mk ((by rw [hg]; exact Nat.ne_of_lt (blk_lt (g := gb137) (o := .cells #[.float .f64 b_a0_0, .float .f64 b_a0_1] 26 (0, 0)) (by (with_reducible repeat (first | refine blk_drewN ?_ _ | refine blk_drew ?_ | refine blk_alloc ?_ _)); exact BK137.out)) : gb137 ≠ gb139)); have n7_ := Aside0.mk ((by rw [hg]; exact Nat.ne_of_gt (blk_lt (g := gb137) (o := .cells #[.float .f64 b_a0_0, .float .f64 b_a0_1] 26 (0, 0)) (by (with_reducible repeat (first | refine blk_drewN ?_ _ | refine blk_drew ?_ | refine blk_alloc ?_ _)); exact BK137.out)) : gb139 ≠ gb137)); have n8_ := Aside0.mk ((by rw [hg]; exact Nat.ne_of_lt (blk_lt (g := gb138) (o := .cells #[.float .f64 b_a1_0, .float .f64 b_a1_1] 26 (0, 0)) (by (with_reducible repeat (first | refine blk_drewN ?_ _ | refine blk_drew ?_ | refine blk_alloc ?_ _)); exact BK138.out)) : gb138 ≠ gb139)); have n9_ := Aside0.mk ((by rw [hg]; exact Nat.ne_of_gt (blk_lt (g := gb138) (o := .cells #[.float .f64 b_a1_0, .float .f64 b_a1_1] 26 (0, 0)) (by (with_reducible repeat (first | refine blk_drewN ?_ _ | refine blk_drew ?_ | refine blk_alloc ?_ _)); exact BK138.out)) : gb139 ≠ gb138)); clear BK137; clear BK138; clear HB; have BK137 := n0_; have BK138 := n1_; have HB := n2_; have BK139 := n3_; have GW139 := n4_; have GE139 := n5_; have NB137_139 := n6_; have NB139_137 := n7_; have NB138_139 := n8_; have NB139_138 := n9_; clear n0_ n1_ n2_ n3_ n4_ n5_ n6_ n7_ n8_ n9_; clear hb hbox hg; have hnb6 := NB137_138.out; have hnc6 := NB138_137.out; have hnb7 := NB137_139.out; have hnc7 := NB139_137.out; have hcz8_0 : w5.cell? ⟨gb137, 0, none⟩ = some (.float .f64 b_a0_0) := (blk_cell BK137.out 0).trans rfl; have hcz8_1 : w5.cell? ⟨gb137, 1, none⟩ = some (.float .f64 b_a0_1) := (blk_cell BK137.out 1).trans rfl; have hfz8_0 := blk_frozen BK137.out 0; have hfz8_1 := blk_frozen BK137.out 1; have hnb9 := NB138_139.out; have hnc9 := NB139_138.out; have hcz10_0 : w5.cell? ⟨gb138, 0, none⟩ = some (.float .f64 b_a1_0) := (blk_cell BK138.out 0).trans rfl; have hcz10_1 : w5.cell? ⟨gb138, 1, none⟩ = some (.float .f64 b_a1_1) := (blk_cell BK138.out 1).trans rfl; have hfz10_0 := blk_frozen BK138.out 0; have hfz10_1 := blk_frozen BK138.out 1) | ((with_reducible refine gate_dst (N := 9) rfl ?_); refine fop_event rfl (N := 9) rfl (op := .mul) (by simp) rfl .f64 b_a0_0 b_a1_0 a0_0 a1_0 rfl rfl hF_a0_0 hF_a1_0 ?_; intro b_ft140 nf_ hF_; replace hF_ := hF_.trans Nft140.out.symm; have hF_ft140 := hF_; clear hF_) | ((with_reducible refine gate_dst (N := 14) rfl ?_); refine fop_event rfl (N := 14) rfl (op := .mul) (by simp) rfl .f64 b_a0_1 b_a1_1 a0_1 a1_1 rfl rfl hF_a0_1 hF_a1_1 ?_; intro b_ft141 nf_ hF_; replace hF_ := hF_.trans Nft141.out.symm; have hF_ft141 := hF_; clear hF_) | ((with_reducible refine gate_dst (N := 15) rfl ?_); refine fop_event rfl (N := 15) rfl (op := .sub) (by simp) rfl .f64 b_ft140 b_ft141 ft140 ft141 rfl rfl hF_ft140 hF_ft141 ?_; intro b_ft142 nf_ hF_; replace hF_ := hF_.trans Nft142.out.symm; have hF_ft142 := hF_; clear hF_) | ((with_reducible refine gate_dst (N := 20) rfl ?_); refine fop_event rfl (N := 20) rfl (op := .mul) (by simp) rfl .f64 b_a0_0 b_a1_1 a0_0 a1_1 rfl rfl hF_a0_0 hF_a1_1 ?_; intro b_ft143 nf_ hF_; replace hF_ := hF_.trans Nft143.out.symm; have hF_ft143 := hF_; clear hF_) | ((with_reducible refine gate_dst (N := 25) rfl ?_); refine fop_event rfl (N := 25) rfl (op := .mul) (by simp) rfl .f64 b_a0_1 b_a1_0 a0_1 a1_0 rfl rfl hF_a0_1 hF_a1_0 ?_; intro b_ft144 nf_ hF_; replace hF_ := hF_.trans Nft144.out.symm; have hF_ft144 := hF_; clear hF_) | ((with_reducible refine gate_dst (N := 26) rfl ?_); refine fop_event rfl (N := 26) rfl (op := .add) (by simp) rfl .f64 b_ft143 b_ft144 ft143 ft144 rfl rfl hF_ft143 hF_ft144 ?_; intro b_ft145 nf_ hF_; replace hF_ := hF_.trans Nft145.out.symm; have hF_ft145 := hF_; clear hF_; have hcz11_0 : w5.cell? ⟨gb139, 0, none⟩ = some (.float .f64 0) := (blk_cell BK139.out 0).trans rfl; have hcz11_1 : w5.cell? ⟨gb139, 1, none⟩ = some (.float .f64 0) := (blk_cell BK139.out 1).trans rfl; have hfz11_0 := blk_frozen BK139.out 0; have hfz11_1 := blk_frozen BK139.out 1))
  refine bodyPost_ret (results_cell_row rfl _ _ gb139 26 #[.float .f64 b_ft142, .float .f64 b_ft145] (0, 0) _ rfl (by (with_reducible repeat (first | refine blk_drewN ?_ _ | refine blk_drew ?_ | refine blk_alloc ?_ _)); refine blk_put (cs := #[.float .f64 b_ft142, .float .f64 0]) ?_ 1 _ rfl; (with_reducible repeat (first | refine blk_drewN ?_ _ | refine blk_drew ?_ | refine blk_alloc ?_ _)); refine blk_put (cs := #[.float .f64 0, .float .f64 0]) ?_ 0 _ rfl; (with_reducible repeat (first | refine blk_drewN ?_ _ | refine blk_drew ?_ | refine blk_alloc ?_ _)); exact BK139.out) Try.underlying26 rfl (by kernel_rfl)) rfl ?_
  exact ⟨b_ft142, b_ft145, by first | rfl | (simp [errW_none, errW_some] <;> rfl) | (simp [*, errW_none, errW_some] <;> rfl), hF_ft142, hF_ft145, by repeat (first | (with_reducible first | exact HB.out | apply below_alloc | apply pw_below_drewN | apply below_drew1 | refine below_set ?_ GE137.out | refine below_set ?_ GE138.out | refine below_set ?_ GE139.out) | exact HB.out)⟩

/-! ### impl_finite_1: function 56 -/
def impl_finite_1.f (a0 : Fl) : Option (Bool) := some (fcmp .neq .f64 (fop .sub .f64 a0 a0) (cn .f64 0))
set_option maxHeartbeats 8000000 in
set_option maxRecDepth 100000 in
theorem impl_finite_1.calls (b_a0 : Nat) (a0 : Fl) (r : Bool) (w : World) (hF_a0 : cn .f64 b_a0 = a0) (h : impl_finite_1.f a0 = some r) :
    Calls Try.prog 56 #[.float .f64 b_a0] w fun e w' => e = .returned (.bool r) ∧ Drawn0 w w' := by
  have H : (some (fcmp .neq .f64 (fop .sub .f64 a0 a0) (cn .f64 0))) = some r := h
  clear h
  obtain ⟨ft146, hft146⟩ : ∃ y_ : Fl, y_ = (fop .sub .f64 a0 a0) := ⟨_, rfl⟩
  replace H : (some (fcmp .neq .f64 ft146 (cn .f64 0))) = some r := by first | (rw [hft146]; with_reducible exact H) | (have H2_ := (Option.bind_some _ _).symm.trans H; rw [hft146]; with_reducible exact H2_) | (have H2_ := (Option.bind_some _ _).symm.trans H; with_reducible exact H2_) | with_reducible exact H | (rw [hft146]; exact H) | exact H
  have Nft146 := Aside0.mk hft146
  clear hft146
  obtain rfl := Option.some.inj H
  go_enter Try.func56, Try.ntmps56
  go_wp2_with (first | ((with_reducible refine gate_dst (N := 5) rfl ?_); refine fop_event rfl (N := 5) rfl (op := .sub) (by simp) rfl .f64 b_a0 b_a0 a0 a0 rfl rfl hF_a0 hF_a0 ?_; intro b_ft146 nf_ hF_; replace hF_ := hF_.trans Nft146.out.symm; have hF_ft146 := hF_; clear hF_))
  go_ret
  exact ⟨by first | rfl | (simp; done) | (simp [*]; done), by repeat (first | exact Drawn0.refl _ | apply Drawn0.step)⟩

/-! ### slices_IndexFunc_float64_float64: function 57 -/
def slices_IndexFunc_float64_float64.l0 : Nat → List (Fl) → Int → Int → Option (Int)
  | 0, _, _, _ => none
  | k + 1, x0, x7, x8 => if x8 < x7 then (if 0 ≤ x8 then (if x8 < (x0.length : Int) then ((impl_finite_1.f (rdf .f64 x0 x8)).bind fun t148 => (if t148 = true then (some x8) else (slices_IndexFunc_float64_float64.l0 k x0 x7 (wrap64 (x8 + 1))))) else (none)) else (none)) else (some (-1))
def slices_IndexFunc_float64_float64.f (k : Nat) (l0 : List (Fl)) (a1 : Unit) : Option (Int) := slices_IndexFunc_float64_float64.l0 k l0 (l0.length : Int) 0
theorem slices_IndexFunc_float64_float64.mono_l : ∀ k, (∀ y0 y1 y2, LeO (slices_IndexFunc_float64_float64.l0 k y0 y1 y2) (slices_IndexFunc_float64_float64.l0 (k + 1) y0 y1 y2))
  | 0 => fun _ _ _ r h => by simp [slices_IndexFunc_float64_float64.l0] at h
  | k + 1 => by
    have ih0 := slices_IndexFunc_float64_float64.mono_l k
    · intro y0 y1 y2
      unfold slices_IndexFunc_float64_float64.l0
      repeat' first
      | (with_reducible exact ih0 _ _ _)
      | (with_reducible exact LeO.refl _)
      | (with_reducible exact LeO.none _)
      | (with_reducible refine LeO.ite ?_ ?_)
      | (with_reducible refine LeO.bind ?_ (fun _ => ?_))
      | exact ih0 _ _ _
      | exact LeO.none _
      | refine LeO.ite ?_ ?_
      | refine LeO.bind ?_ (fun _ => ?_)
theorem slices_IndexFunc_float64_float64.mono : ∀ a0 a1 k, LeO (slices_IndexFunc_float64_float64.f k a0 a1) (slices_IndexFunc_float64_float64.f (k + 1) a0 a1) := by
  intro a0 a1 k
  have ih0 := slices_IndexFunc_float64_float64.mono_l k
  unfold slices_IndexFunc_float64_float64.f
  repeat' first
      | (with_reducible exact ih0 _ _ _)
      | (with_reducible exact LeO.refl _)
      | (with_reducible exact LeO.none _)
      | (with_reducible refine LeO.ite ?_ ?_)
      | (with_reducible refine LeO.bind ?_ (fun _ => ?_))
      | exact ih0 _ _ _
      | exact LeO.none _
      | refine LeO.ite ?_ ?_
      | refine LeO.bind ?_ (fun _ => ?_)
set_option maxHeartbeats 8000000 in
set_option maxRecDepth 100000 in
theorem slices_IndexFunc_float64_float64.calls (k : Nat) (A0 : Option Addr) (c0 : Nat) (l0 : List (Fl)) (a1 : Unit) (r : Int) (w : World) (hr0 : Kd.C (Kd.fl .f64) w A0 l0.length l0) (hc0 : l0.length ≤ c0) (h : slices_IndexFunc_float64_float64.f k l0 a1 = some r) :
    Calls Try.prog 57 #[.slice A0 l0.length c0, .func (.func 56) #[] #[]] w fun e w' => e = .returned (.int .i64 r) ∧ Drawn0 w w' := by
  have HR0 := Aside0.mk hr0
  have HC0 := Aside0.mk hc0
  clear hr0 hc0
  have H : (slices_IndexFunc_float64_float64.l0 k l0 (l0.length : Int) 0) = some r := h
  clear h
  have H' := Aside0.mk H
  clear H
  go_enter Try.func57, Try.ntmps57
  go_wp2
  go_loopg [8] k (fun kq v8 w' => ∃ (x8_1 : Int), v8 = .int .i64 x8_1 ∧ Aside0 (slices_IndexFunc_float64_float64.l0 kq l0 (l0.length : Int) x8_1 = some r) ∧ Aside0 (kq ≤ k) ∧ Drawn0 w w')
  case atStart => exact ⟨(0), (by first | rfl | (simp; done) | (simp [*]; done)), H', ⟨Nat.le_refl _⟩, by repeat (first | exact Drawn0.refl _ | apply Drawn0.step)⟩
  case round =>
    clear H'
    try clear p2
    obtain ⟨x8_1, rfl, HA, HK1, ⟨m1, rfl⟩⟩ := hrel
    cases gk with
    | zero => exact absurd HA.out (by simp [slices_IndexFunc_float64_float64.l0])
    | succ k1 =>
      have H := HA.out
      clear HA
      simp only [slices_IndexFunc_float64_float64.l0] at H
      by_cases c3 : x8_1 < (l0.length : Int)
      · rw [if_pos c3] at H
        have c3b0 : decide (x8_1 < (l0.length : Int)) = true := decide_eq_true c3
        clear c3
        by_cases c4 : 0 ≤ x8_1
        · rw [if_pos c4] at H
          have c4b0 : decide (0 ≤ x8_1) = true := decide_eq_true c4
          clear c4
          by_cases c5 : x8_1 < (l0.length : Int)
          · rw [if_pos c5] at H
            have c5b0 : decide (x8_1 < (l0.length : Int)) = true := decide_eq_true c5
            clear c5
            obtain ⟨fr147_0, hfr147_0⟩ : ∃ y_ : Fl, y_ = (rdf .f64 l0 x8_1) := ⟨_, rfl⟩
            replace H : ((impl_finite_1.f fr147_0).bind fun t148 => (if t148 = true then (some x8_1) else (slices_IndexFunc_float64_float64.l0 k1 l0 (l0.length : Int) (wrap64 (x8_1 + 1))))) = some r := by first | (rw [hfr147_0]; with_reducible exact H) | (have H2_ := (Option.bind_some _ _).symm.trans H; rw [hfr147_0]; with_reducible exact H2_) | (have H2_ := (Option.bind_some _ _).symm.trans H; with_reducible exact H2_) | with_reducible exact H | (rw [hfr147_0]; exact H) | exact H
            have Nfr147_0 := Aside0.mk hfr147_0
            clear hfr147_0
            replace H := Option.bind_eq_some_iff.mp H
            obtain ⟨t148, A60, H⟩ := H
            replace H : (if t148 = true then (some x8_1) else (slices_IndexFunc_float64_float64.l0 k1 l0 (l0.length : Int) (wrap64 (x8_1 + 1)))) = some r := H
            have A6 := Aside0.mk A60
            clear A60
            by_cases c7 : t148 = true
            · subst c7
              have H1 : (some x8_1) = some r := by rw [if_pos rfl] at H; exact H
              clear H
              have H := H1
              clear H1
              obtain rfl := Option.some.inj H
              have p147 : 0 ≤ (x8_1 : Int) := of_decide_eq_true (by first | (with_reducible assumption) | assumption)
              have q147 : x8_1 < (l0.length : Int) := of_decide_eq_true (by first | (with_reducible assumption) | assumption)
              obtain ⟨ad147, b_fr147_0, e147, hx147_0, hF147_0⟩ := Kd.at_fl HR0.out x8_1 p147 q147
              have hF_fr147_0 := hF147_0.trans Nfr147_0.out.symm
              clear hF147_0
              cases e147
              replace p147 := eq_true p147
              replace q147 := eq_true q147
              go_wp2_with (first | (go_at_call 56; (with_reducible refine (impl_finite_1.calls b_fr147_0 fr147_0 true _ ?side1 A6.out).mono ?_); (case side1 => exact hF_fr147_0); rintro e w' ⟨rfl, ⟨nd, rfl⟩⟩))
              go_ret
              exact ⟨by first | rfl | (simp; done) | (simp [*]; done), by repeat (first | exact Drawn0.refl _ | apply Drawn0.step)⟩
            · replace c7 := Bool.eq_false_iff.mpr c7
              subst c7
              have H1 : (slices_IndexFunc_float64_float64.l0 k1 l0 (l0.length : Int) (wrap64 (x8_1 + 1))) = some r := by rw [if_neg (show ¬ (false = true) by decide)] at H; exact H
              clear H
              have H := H1
              clear H1
              have H' := Aside0.mk H
              clear H
              have p147 : 0 ≤ (x8_1 : Int) := of_decide_eq_true (by first | (with_reducible assumption) | assumption)
              have q147 : x8_1 < (l0.length : Int) := of_decide_eq_true (by first | (with_reducible assumption) | assumption)
              obtain ⟨ad147, b_fr147_0, e147, hx147_0, hF147_0⟩ := Kd.at_fl HR0.out x8_1 p147 q147
              have hF_fr147_0 := hF147_0.trans Nfr147_0.out.symm
              clear hF147_0
              cases e147
              replace p147 := eq_true p147
              replace q147 := eq_true q147
              go_wp2_with (first | (go_at_call 56; (with_reducible refine (impl_finite_1.calls b_fr147_0 fr147_0 false _ ?side1 A6.out).mono ?_); (case side1 => exact hF_fr147_0); rintro e w' ⟨rfl, ⟨nd, rfl⟩⟩))
              go_roundg k1
              case measure => have := HK1.out; omega
              case rel => exact ⟨(wrap64 (x8_1 + 1)), (by first | rfl | (simp; done) | (simp [*]; done)), H', ⟨by have := HK1.out; omega⟩, by repeat (first | exact Drawn0.refl _ | apply Drawn0.step)⟩
          · rw [if_neg c5] at H
            exact absurd H (by simp)
        · rw [if_neg c4] at H
          exact absurd H (by simp)
      · rw [if_neg c3] at H
        have c3b0 : decide (x8_1 < (l0.length : Int)) = false := decide_eq_false c3
        clear c3
        obtain rfl := Option.some.inj H
        go_wp2
        go_ret
        exact ⟨by first | rfl | (simp; done) | (simp [*]; done), by repeat (first | exact Drawn0.refl _ | apply Drawn0.step)⟩

/-! ### slices_ContainsFunc_float64_float64: function 55 -/
def slices_ContainsFunc_float64_float64.f (k : Nat) (l0 : List (Fl)) (a1 : Unit) : Option (Bool) := (slices_IndexFunc_float64_float64.f k l0 a1).bind fun t149 => (some (decide (t149 ≥ 0)))
theorem slices_ContainsFunc_float64_float64.mono : ∀ a0 a1 k, LeO (slices_ContainsFunc_float64_float64.f k a0 a1) (slices_ContainsFunc_float64_float64.f (k + 1) a0 a1) := by
  intro a0 a1 k
  unfold slices_ContainsFunc_float64_float64.f
  repeat' first
      | (with_reducible exact slices_IndexFunc_float64_float64.mono _ _ _)
      | (with_reducible exact LeO.refl _)
      | (with_reducible exact LeO.none _)
      | (with_reducible refine LeO.ite ?_ ?_)
      | (with_reducible refine LeO.bind ?_ (fun _ => ?_))
      | exact slices_IndexFunc_float64_float64.mono _ _ _
      | exact LeO.none _
      | refine LeO.ite ?_ ?_
      | refine LeO.bind ?_ (fun _ => ?_)
set_option maxHeartbeats 8000000 in
set_option maxRecDepth 100000 in
theorem slices_ContainsFunc_float64_float64.calls (k : Nat) (A0 : Option Addr) (c0 : Nat) (l0 : List (Fl)) (a1 : Unit) (r : Bool) (w : World) (hr0 : Kd.C (Kd.fl .f64) w A0 l0.length l0) (hc0 : l0.length ≤ c0) (h : slices_ContainsFunc_float64_float64.f k l0 a1 = some r) :
    Calls Try.prog 55 #[.slice A0 l0.length c0, .func (.func 56) #[] #[]] w fun e w' => e = .returned (.bool r) ∧ Drawn0 w w' := by
  have HR0 := Aside0.mk hr0
  have HC0 := Aside0.mk hc0
  clear hr0 hc0
  have H : ((slices_IndexFunc_float64_float64.f k l0 a1).bind fun t149 => (some (decide (t149 ≥ 0)))) = some r := h
  clear h
  replace H := Option.bind_eq_some_iff.mp H
  obtain ⟨t149, A30, H⟩ := H
  replace H : (some (decide (t149 ≥ 0))) = some r := H
  have A3 := Aside0.mk A30
  clear A30
  obtain rfl := Option.some.inj H
  go_enter Try.func55, Try.ntmps55
  go_wp2_with (first | ((with_reducible refine gate_callee (f := 57) rfl ?_); refine goesL_ (some 7) rfl rfl Try.func57 (by kernel_rfl) rfl #[.slice A0 l0.length c0, .func (.func 56) #[] #[]] rfl (by (try simp only [List.map_toArray, List.map_cons, List.map_nil]); first | done | rfl | (simp only [List.length_drop, List.length_take]; rfl)) ?_; (with_reducible refine (slices_IndexFunc_float64_float64.calls k _ _ l0 a1 t149 _ ?side1 ?side2 A3.out).mono ?_); (case side1 => repeat (first | exact HR0.out | (with_reducible refine Kd.C_alloc ?_ _) | (with_reducible refine Kd.C_drewN ?_ _) | (with_reducible refine Kd.C_drew ?_))); (case side2 => exact HC0.out); rintro e w' ⟨rfl, ⟨nd, rfl⟩⟩; refine ⟨_, rfl, ?_⟩))
  go_ret
  exact ⟨by first | rfl | (simp; done) | (simp [*]; done), by repeat (first | exact Drawn0.refl _ | apply Drawn0.step)⟩

end Go.Proofs.Ytddojikjiebbbaa.QFnExactCxOver
