/- Lean functions that tell what the Go functions used by one law answer, and for each a proof that the Go code comes to just these answers; no condition. Printed by this session's own program over the kit's printer. -/
import Derived.Test.YtddojikjiebbbaaQFnExactStepOncex0
import Derived.Test.YtddojikjiebbbaaQFnExactStepOncex1
namespace Go.Proofs.Ytddojikjiebbbaa.QFnExactStepOnce
open Go.RowKit Go.Proofs.YtddojikjiebbbaaW.PrintWords Go.Proofs.YtddojikjiebbbaaW.PrintLast Go.Proofs.YtddojikjiebbbaaW.PrintMore
attribute [local go_sem] max2_int min2_int max_two min_two max_three min_three max_four min_four   -- for this text's walks alone
attribute [local go_sem high] go_eql go_neq go_lss go_leq go_gtr go_geq go_store   -- for this text's walks alone
set_option linter.unusedVariables false
set_option linter.unusedSimpArgs false

/-! ### laws_FnExactStepOnce: function 11 -/
def laws_FnExactStepOnce.f (k : Nat) (a0_0 : Fl) (a0_1 : Fl) (a0_2 : Fl) (a0_3 : Fl) (a1_0 : Fl) (a1_1 : Fl) (a1_2 : Fl) (a1_3 : Fl) (a1_4 : Fl) (a2 : Fl) (a3 : Fl) : Option (Bool) := (laws_toMotion.f a0_0 a0_1 a0_2 a0_3).bind fun bt155 => ((laws_toForces.f a1_0 a1_1 a1_2 a1_3 a1_4).bind fun bt159 => ((spec_StepOnce.f bt155.1 bt155.2.1 bt155.2.2.1 bt155.2.2.2 bt159.1 bt159.2.1 bt159.2.2.1 bt159.2.2.2.1 bt159.2.2.2.2 a2 a3).bind fun bt164 => ((laws_toMotion.f a0_0 a0_1 a0_2 a0_3).bind fun bt169 => ((laws_toForces.f a1_0 a1_1 a1_2 a1_3 a1_4).bind fun bt173 => ((impl_StepOnce.f bt169.1 bt169.2.1 bt169.2.2.1 bt169.2.2.2 bt173.1 bt173.2.1 bt173.2.2.1 bt173.2.2.2.1 bt173.2.2.2.2 a2 a3).bind fun bt178 => ((laws_eqMotion.f k bt178.1 bt178.2.1 bt178.2.2.1 bt178.2.2.2 bt164.1 bt164.2.1 bt164.2.2.1 bt164.2.2.2).bind fun t183 => (if t183 = true then (some true) else (some false))))))))
theorem laws_FnExactStepOnce.mono : ∀ a0 a1 a2 a3 a4 a5 a6 a7 a8 a9 a10 k, LeO (laws_FnExactStepOnce.f k a0 a1 a2 a3 a4 a5 a6 a7 a8 a9 a10) (laws_FnExactStepOnce.f (k + 1) a0 a1 a2 a3 a4 a5 a6 a7 a8 a9 a10) := by
  intro a0 a1 a2 a3 a4 a5 a6 a7 a8 a9 a10 k
  unfold laws_FnExactStepOnce.f
  repeat' first
      | (with_reducible exact laws_eqMotion.mono _ _ _ _ _ _ _ _ _)
      | (with_reducible exact LeO.refl _)
      | (with_reducible exact LeO.none _)
      | (with_reducible refine LeO.ite ?_ ?_)
      | (with_reducible refine LeO.bind ?_ (fun _ => ?_))
      | exact laws_eqMotion.mono _ _ _ _ _ _ _ _ _
      | exact LeO.none _
      | refine LeO.ite ?_ ?_
      | refine LeO.bind ?_ (fun _ => ?_)
def laws_FnExactStepOnce.T1 : Bool × List (List Nat × List Nat) := (true, [([], []), ([0], [0]), ([], []), ([2, 1], [2]), ([], []), ([], []), ([1, 3, 4, 5, 3], [1, 3, 4, 5]), ([], []), ([7, 6, 6, 0, 1, 2, 3, 4, 5, 6, 7], [6, 7])])
def laws_FnExactStepOnce.B1 : List Nat := [0, 1, 0, 7, 0, 0, 63, 0, 255]
theorem laws_FnExactStepOnce.tab1 : rtab .any (opsOf Try.f11 1) = laws_FnExactStepOnce.T1 := by kernel_rfl
theorem laws_FnExactStepOnce.bits1 : waitsOk laws_FnExactStepOnce.T1.2 laws_FnExactStepOnce.B1 = true := by kernel_rfl
def laws_FnExactStepOnce.T2 : Bool × List (List Nat × List Nat) := (true, [([], []), ([0], [0]), ([], []), ([2, 1], [2]), ([], []), ([], []), ([1, 3, 4, 5, 3], [1, 3, 4, 5]), ([], []), ([7, 6, 6, 0, 1, 2, 3, 4, 5, 6, 7], [6, 7])])
def laws_FnExactStepOnce.B2 : List Nat := [0, 1, 0, 7, 0, 0, 63, 0, 255]
theorem laws_FnExactStepOnce.tab2 : rtab .any (opsOf Try.f11 2) = laws_FnExactStepOnce.T2 := by kernel_rfl
theorem laws_FnExactStepOnce.bits2 : waitsOk laws_FnExactStepOnce.T2.2 laws_FnExactStepOnce.B2 = true := by kernel_rfl
set_option maxHeartbeats 8000000 in
set_option maxRecDepth 100000 in
theorem laws_FnExactStepOnce.calls (k : Nat) (b_a0_0 : Nat) (a0_0 : Fl) (b_a0_1 : Nat) (a0_1 : Fl) (b_a0_2 : Nat) (a0_2 : Fl) (b_a0_3 : Nat) (a0_3 : Fl) (b_a1_0 : Nat) (a1_0 : Fl) (b_a1_1 : Nat) (a1_1 : Fl) (b_a1_2 : Nat) (a1_2 : Fl) (b_a1_3 : Nat) (a1_3 : Fl) (b_a1_4 : Nat) (a1_4 : Fl) (b_a2 : Nat) (a2 : Fl) (b_a3 : Nat) (a3 : Fl) (r : Bool) (w : World) (hF_a0_0 : cn .f64 b_a0_0 = a0_0) (hF_a0_1 : cn .f64 b_a0_1 = a0_1) (hF_a0_2 : cn .f64 b_a0_2 = a0_2) (hF_a0_3 : cn .f64 b_a0_3 = a0_3) (hF_a1_0 : cn .f64 b_a1_0 = a1_0) (hF_a1_1 : cn .f64 b_a1_1 = a1_1) (hF_a1_2 : cn .f64 b_a1_2 = a1_2) (hF_a1_3 : cn .f64 b_a1_3 = a1_3) (hF_a1_4 : cn .f64 b_a1_4 = a1_4) (hF_a2 : cn .f64 b_a2 = a2) (hF_a3 : cn .f64 b_a3 = a3) (h : laws_FnExactStepOnce.f k a0_0 a0_1 a0_2 a0_3 a1_0 a1_1 a1_2 a1_3 a1_4 a2 a3 = some r) :
    Calls Try.prog 11 #[.agg #[.float .f64 b_a0_0, .float .f64 b_a0_1, .float .f64 b_a0_2, .float .f64 b_a0_3], .agg #[.float .f64 b_a1_0, .float .f64 b_a1_1, .float .f64 b_a1_2, .float .f64 b_a1_3, .float .f64 b_a1_4], .float .f64 b_a2, .float .f64 b_a3] w fun e w' => e = .returned (.bool r) ∧ Below w.heap.size w w' := by
  have hu30 := Try.underlying30
  have hu50 := Try.underlying50
  have hu32 := Try.underlying32
  have HB := Aside0.mk (Below.refl w.heap.size w)
  have H : ((laws_toMotion.f a0_0 a0_1 a0_2 a0_3).bind fun bt155 => ((laws_toForces.f a1_0 a1_1 a1_2 a1_3 a1_4).bind fun bt159 => ((spec_StepOnce.f bt155.1 bt155.2.1 bt155.2.2.1 bt155.2.2.2 bt159.1 bt159.2.1 bt159.2.2.1 bt159.2.2.2.1 bt159.2.2.2.2 a2 a3).bind fun bt164 => ((laws_toMotion.f a0_0 a0_1 a0_2 a0_3).bind fun bt169 => ((laws_toForces.f a1_0 a1_1 a1_2 a1_3 a1_4).bind fun bt173 => ((impl_StepOnce.f bt169.1 bt169.2.1 bt169.2.2.1 bt169.2.2.2 bt173.1 bt173.2.1 bt173.2.2.1 bt173.2.2.2.1 bt173.2.2.2.2 a2 a3).bind fun bt178 => ((laws_eqMotion.f k bt178.1 bt178.2.1 bt178.2.2.1 bt178.2.2.2 bt164.1 bt164.2.1 bt164.2.2.1 bt164.2.2.2).bind fun t183 => (if t183 = true then (some true) else (some false))))))))) = some r := h
  clear h
  replace H := Option.bind_eq_some_iff.mp H
  obtain ⟨⟨t155, t156, t157, t158⟩, A50, H⟩ := H
  replace H : ((laws_toForces.f a1_0 a1_1 a1_2 a1_3 a1_4).bind fun bt159 => ((spec_StepOnce.f t155 t156 t157 t158 bt159.1 bt159.2.1 bt159.2.2.1 bt159.2.2.2.1 bt159.2.2.2.2 a2 a3).bind fun bt164 => ((laws_toMotion.f a0_0 a0_1 a0_2 a0_3).bind fun bt169 => ((laws_toForces.f a1_0 a1_1 a1_2 a1_3 a1_4).bind fun bt173 => ((impl_StepOnce.f bt169.1 bt169.2.1 bt169.2.2.1 bt169.2.2.2 bt173.1 bt173.2.1 bt173.2.2.1 bt173.2.2.2.1 bt173.2.2.2.2 a2 a3).bind fun bt178 => ((laws_eqMotion.f k bt178.1 bt178.2.1 bt178.2.2.1 bt178.2.2.2 bt164.1 bt164.2.1 bt164.2.2.1 bt164.2.2.2).bind fun t183 => (if t183 = true then (some true) else (some false)))))))) = some r := H
  have A5 := Aside0.mk A50
  clear A50
  replace H := Option.bind_eq_some_iff.mp H
  obtain ⟨⟨t159, t160, t161, t162, t163⟩, A60, H⟩ := H
  replace H : ((spec_StepOnce.f t155 t156 t157 t158 t159 t160 t161 t162 t163 a2 a3).bind fun bt164 => ((laws_toMotion.f a0_0 a0_1 a0_2 a0_3).bind fun bt169 => ((laws_toForces.f a1_0 a1_1 a1_2 a1_3 a1_4).bind fun bt173 => ((impl_StepOnce.f bt169.1 bt169.2.1 bt169.2.2.1 bt169.2.2.2 bt173.1 bt173.2.1 bt173.2.2.1 bt173.2.2.2.1 bt173.2.2.2.2 a2 a3).bind fun bt178 => ((laws_eqMotion.f k bt178.1 bt178.2.1 bt178.2.2.1 bt178.2.2.2 bt164.1 bt164.2.1 bt164.2.2.1 bt164.2.2.2).bind fun t183 => (if t183 = true then (some true) else (some false))))))) = some r := H
  have A6 := Aside0.mk A60
  clear A60
  replace H := Option.bind_eq_some_iff.mp H
  obtain ⟨⟨t164, t165, t166, t167⟩, A70, H⟩ := H
  replace H : ((laws_toMotion.f a0_0 a0_1 a0_2 a0_3).bind fun bt169 => ((laws_toForces.f a1_0 a1_1 a1_2 a1_3 a1_4).bind fun bt173 => ((impl_StepOnce.f bt169.1 bt169.2.1 bt169.2.2.1 bt169.2.2.2 bt173.1 bt173.2.1 bt173.2.2.1 bt173.2.2.2.1 bt173.2.2.2.2 a2 a3).bind fun bt178 => ((laws_eqMotion.f k bt178.1 bt178.2.1 bt178.2.2.1 bt178.2.2.2 t164 t165 t166 t167).bind fun t183 => (if t183 = true then (some true) else (some false)))))) = some r := H
  have A7 := Aside0.mk A70
  clear A70
  replace H := Option.bind_eq_some_iff.mp H
  obtain ⟨⟨t169, t170, t171, t172⟩, A80, H⟩ := H
  replace H : ((laws_toForces.f a1_0 a1_1 a1_2 a1_3 a1_4).bind fun bt173 => ((impl_StepOnce.f t169 t170 t171 t172 bt173.1 bt173.2.1 bt173.2.2.1 bt173.2.2.2.1 bt173.2.2.2.2 a2 a3).bind fun bt178 => ((laws_eqMotion.f k bt178.1 bt178.2.1 bt178.2.2.1 bt178.2.2.2 t164 t165 t166 t167).bind fun t183 => (if t183 = true then (some true) else (some false))))) = some r := H
  have A8 := Aside0.mk A80
  clear A80
  replace H := Option.bind_eq_some_iff.mp H
  obtain ⟨⟨t173, t174, t175, t176, t177⟩, A90, H⟩ := H
  replace H : ((impl_StepOnce.f t169 t170 t171 t172 t173 t174 t175 t176 t177 a2 a3).bind fun bt178 => ((laws_eqMotion.f k bt178.1 bt178.2.1 bt178.2.2.1 bt178.2.2.2 t164 t165 t166 t167).bind fun t183 => (if t183 = true then (some true) else (some false)))) = some r := H
  have A9 := Aside0.mk A90
  clear A90
  replace H := Option.bind_eq_some_iff.mp H
  obtain ⟨⟨t178, t179, t180, t181⟩, A100, H⟩ := H
  replace H : ((laws_eqMotion.f k t178 t179 t180 t181 t164 t165 t166 t167).bind fun t183 => (if t183 = true then (some true) else (some false))) = some r := H
  have A10 := Aside0.mk A100
  clear A100
  replace H := Option.bind_eq_some_iff.mp H
  obtain ⟨t183, A110, H⟩ := H
  replace H : (if t183 = true then (some true) else (some false)) = some r := H
  have A11 := Aside0.mk A110
  clear A110
  by_cases c12 : t183 = true
  · subst c12
    have H1 : (some true) = some r := by rw [if_pos rfl] at H; exact H
    clear H
    have H := H1
    clear H1
    obtain rfl := Option.some.inj H
    go_enter Try.func11, Try.ntmps11
    try go_wp2_with (first | ((with_reducible refine gate_dst (N := 4) rfl ?_); refine box_event ?hg (N := 4) ?hd (cs := #[.float .f64 b_a0_0, .float .f64 b_a0_1, .float .f64 b_a0_2, .float .f64 b_a0_3]) (t := 30) ?hr ?_; (case hd => rfl); (case hg => rfl); (case hr => first | (go_simp; done) | (go_simp; rfl)); intro gb153 hg w13 hbox hb; have n0_ := Aside0.mk (below_step (by repeat (first | (with_reducible first | exact HB.out | apply below_alloc | apply pw_below_drewN | apply below_drew1) | exact HB.out)) hb); have n1_ := Aside0.mk (hbox); have n2_ := Aside0.mk ((by rw [hg]; exact (below_size (by repeat (first | (with_reducible first | exact HB.out | apply below_alloc | apply pw_below_drewN | apply below_drew1) | exact HB.out))) : w.heap.size ≤ gb153)); have n3_ := Aside0.mk ((by rw [hg]; exact (below_size (by repeat (first | (with_reducible first | exact HB.out | apply below_alloc | apply pw_below_drewN | apply below_drew1) | exact HB.out))) : w.heap.size ≤ gb153)); clear HB; have HB := n0_; have BK153 := n1_; have GW153 := n2_; have GE153 := n3_; clear n0_ n1_ n2_ n3_; clear hb hbox hg) | ((with_reducible refine gate_dst (N := 5) rfl ?_); refine box_event ?hg (N := 5) ?hd (cs := #[.float .f64 b_a1_0, .float .f64 b_a1_1, .float .f64 b_a1_2, .float .f64 b_a1_3, .float .f64 b_a1_4]) (t := 50) ?hr ?_; (case hd => rfl); (case hg => rfl); (case hr => first | (go_simp; done) | (go_simp; rfl)); intro gb154 hg w14 hbox hb; have n0_ := Aside0.mk (blk_below (g := gb153) (o := .cells #[.float .f64 b_a0_0, .float .f64 b_a0_1, .float .f64 b_a0_2, .float .f64 b_a0_3] 30 (0, 0)) (by (with_reducible repeat (first | refine blk_drewN ?_ _ | refine blk_drew ?_ | refine blk_alloc ?_ _)); exact BK153.out) hb); have n1_ := Aside0.mk (below_step (by repeat (first | (with_reducible first | exact HB.out | apply below_alloc | apply pw_below_drewN | apply below_drew1 | refine below_set ?_ GE153.out) | exact HB.out)) hb); have n2_ := Aside0.mk (hbox); have n3_ := Aside0.mk ((by rw [hg]; exact (below_size (by repeat (first | (with_reducible first | exact HB.out | apply below_alloc | apply pw_below_drewN | apply below_drew1 | refine below_set ?_ GE153.out) | exact HB.out))) : w.heap.size ≤ gb154)); have n4_ := Aside0.mk ((by rw [hg]; exact (below_size (by repeat (first | (with_reducible first | exact HB.out | apply below_alloc | apply pw_below_drewN | apply below_drew1 | refine below_set ?_ GE153.out) | exact HB.out))) : w.heap.size ≤ gb154)); have n5_ := Aside0.mk ((by rw [hg]; exact Nat.ne_of_lt (blk_lt (g := gb153) (o := .cells #[.float .f64 b_a0_0, .float .f64 b_a0_1, .float .f64 b_a0_2, .float .f64 b_a0_3] 30 (0, 0)) (by (with_reducible repeat (first | refine blk_drewN ?_ _ | refine blk_drew ?_ | refine blk_alloc ?_ _)); exact BK153.out)) : gb153 ≠ gb154)); have n6_ := Aside0.mk ((by rw [hg]; exact Nat.ne_of_gt (blk_lt (g := gb153) (o := .cells #[.float .f64 b_a0_0, .float .f64 b_a0_1, .float .f64 b_a0_2, .float .f64 b_a0_3] 30 (0, 0)) (by (with_reducible repeat (first | refine blk_drewN ?_ _ | refine blk_drew ?_ | refine blk_alloc ?_ _)); exact BK153.out)) : gb154 ≠ gb153)); clear BK153; clear HB; have BK153 := n0_; have HB := n1_; have BK154 := n2_; have GW154 := n3_; have GE154 := n4_; have NB153_154 := n5_; have NB154_153 := n6_; clear n0_ n1_ n2_ n3_ n4_ n5_ n6_; clear hb hbox hg))
    have n0_ := Aside0.mk (blk_drew BK153.out)
    have n1_ := Aside0.mk (blk_drew BK154.out)
    have n2_ := Aside0.mk (below_drew1 HB.out)
    clear BK153
    clear BK154
    clear HB
    have BK153 := n0_
    have BK154 := n1_
    have HB := n2_
    clear n0_ n1_ n2_
    refine start_ (n := 9) (S := fun w' => True) (ds := []) #[false, false, false, false, false, false, false, false, false] (by kernel_rfl) rfl rfl trivial (fun hHeld => ?_); refine with_tabW laws_FnExactStepOnce.tab1 laws_FnExactStepOnce.bits1 (fun HT_ HW_ => ?_)
    generalize w14.drew = w15 at BK153 BK154 HB hHeld ⊢
    refine pure_ (i := 4) (N := some 15) (v := ?_) (a' := ?_) #[false, false, false, false, true, false, false, false, false] rfl rfl (any_of HT_.out (by kernel_rfl)) (fun _ _ _ h => h) (Or.inl ⟨by rfl, ?_⟩) ?_ ?_
    rotate_left
    · intro w'
      go_simp
      with_reducible rfl
    rotate_left
    · simp only [Act.put, List.setIfInBounds_toArray, List.set_cons_zero, List.set_cons_succ, i64_w, i32_w]
      rfl
    refine pure_ (i := 5) (N := some 16) (v := ?_) (a' := ?_) #[false, false, false, false, true, true, false, false, false] rfl rfl (any_of HT_.out (by kernel_rfl)) (fun _ _ _ h => h) (Or.inl ⟨by rfl, ?_⟩) ?_ ?_
    rotate_left
    · intro w'
      go_simp
      with_reducible rfl
    rotate_left
    · simp only [Act.put, List.setIfInBounds_toArray, List.set_cons_zero, List.set_cons_succ, i64_w, i32_w]
      rfl
    refine inv_at [0, 1, 2, 3, 6, 7, 8] (fun a0_ b a w' => ∃ (b_t155 : Nat) (b_t156 : Nat) (b_t157 : Nat) (b_t158 : Nat) (b_t159 : Nat) (b_t160 : Nat) (b_t161 : Nat) (b_t162 : Nat) (b_t163 : Nat) (b_t164 : Nat) (b_t165 : Nat) (b_t166 : Nat) (b_t167 : Nat) (gb168 : Nat) (m1_ : Value) (m3_ : Value) (m6_ : Value) (m7_ : Value), a = putSel a0_ b [(0, 11, .agg #[.float .f64 b_a0_0, .float .f64 b_a0_1, .float .f64 b_a0_2, .float .f64 b_a0_3]), (1, 12, m1_), (2, 13, .agg #[.float .f64 b_a1_0, .float .f64 b_a1_1, .float .f64 b_a1_2, .float .f64 b_a1_3, .float .f64 b_a1_4]), (3, 14, m3_), (6, 17, m6_), (7, 9, m7_)] ∧ (w'.heap[gb153]? = some (.cells #[.float .f64 b_a0_0, .float .f64 b_a0_1, .float .f64 b_a0_2, .float .f64 b_a0_3] 30 (0, 0))) ∧ (w'.heap[gb154]? = some (.cells #[.float .f64 b_a1_0, .float .f64 b_a1_1, .float .f64 b_a1_2, .float .f64 b_a1_3, .float .f64 b_a1_4] 50 (0, 0))) ∧ (Below w.heap.size w w') ∧ (b 1 = true → cn .f64 b_t155 = t155) ∧ (b 1 = true → cn .f64 b_t156 = t156) ∧ (b 1 = true → cn .f64 b_t157 = t157) ∧ (b 1 = true → cn .f64 b_t158 = t158) ∧ (b 3 = true → cn .f64 b_t159 = t159) ∧ (b 3 = true → cn .f64 b_t160 = t160) ∧ (b 3 = true → cn .f64 b_t161 = t161) ∧ (b 3 = true → cn .f64 b_t162 = t162) ∧ (b 3 = true → cn .f64 b_t163 = t163) ∧ (b 6 = true → cn .f64 b_t164 = t164) ∧ (b 6 = true → cn .f64 b_t165 = t165) ∧ (b 6 = true → cn .f64 b_t166 = t166) ∧ (b 6 = true → cn .f64 b_t167 = t167) ∧ (b 7 = true → b 8 = false → w'.heap[gb168]? = some (.cells #[.float .f64 0, .float .f64 0, .float .f64 0, .float .f64 0] 32 (0, 0))) ∧ (b 7 = true → w.heap.size ≤ gb168) ∧ (b 7 = true → w.heap.size ≤ gb168) ∧ (b 7 = true → gb153 ≠ gb168) ∧ (b 7 = true → gb168 ≠ gb153) ∧ (b 7 = true → gb154 ≠ gb168) ∧ (b 7 = true → gb168 ≠ gb154) ∧ (b 8 = true → w'.heap[gb168]? = some (.cells #[.float .f64 b_t164, .float .f64 b_t165, .float .f64 b_t166, .float .f64 b_t167] 32 (0, 0))) ∧ (b 1 = true → (m1_ : Value) = .agg #[.float .f64 b_t155, .float .f64 b_t156, .float .f64 b_t157, .float .f64 b_t158]) ∧ (b 3 = true → (m3_ : Value) = .agg #[.float .f64 b_t159, .float .f64 b_t160, .float .f64 b_t161, .float .f64 b_t162, .float .f64 b_t163]) ∧ (b 6 = true → (m6_ : Value) = .agg #[.float .f64 b_t164, .float .f64 b_t165, .float .f64 b_t166, .float .f64 b_t167]) ∧ (b 7 = true → (m7_ : Value) = .pointer (some ⟨gb168, 0, none⟩))) HT_.out HW_.out (by kernel_rfl) (by kernel_rfl) ?_ ?_ ?_
    · exact ⟨0, 0, 0, 0, 0, 0, 0, 0, 0, 0, 0, 0, 0, 0, .bool false, .bool false, .bool false, .bool false, by simp only [putSel, Bool.false_eq_true, if_false], BK153.out, BK154.out, HB.out, fun h_ => absurd h_ (by decide), fun h_ => absurd h_ (by decide), fun h_ => absurd h_ (by decide), fun h_ => absurd h_ (by decide), fun h_ => absurd h_ (by decide), fun h_ => absurd h_ (by decide), fun h_ => absurd h_ (by decide), fun h_ => absurd h_ (by decide), fun h_ => absurd h_ (by decide), fun h_ => absurd h_ (by decide), fun h_ => absurd h_ (by decide), fun h_ => absurd h_ (by decide), fun h_ => absurd h_ (by decide), fun h_ => absurd h_ (by decide), fun h_ => absurd h_ (by decide), fun h_ => absurd h_ (by decide), fun h_ => absurd h_ (by decide), fun h_ => absurd h_ (by decide), fun h_ => absurd h_ (by decide), fun h_ => absurd h_ (by decide), fun h_ => absurd h_ (by decide), fun h_ => absurd h_ (by decide), fun h_ => absurd h_ (by decide), fun h_ => absurd h_ (by decide), fun h_ => absurd h_ (by decide)⟩
    · skip
      clear BK153 BK154 HB
      refine steps_cons ?_ ?_
      · rintro b a w' ⟨b_t155, b_t156, b_t157, b_t158, b_t159, b_t160, b_t161, b_t162, b_t163, b_t164, b_t165, b_t166, b_t167, gb168, m1_, m3_, m6_, m7_, ha, Q_BK153, Q_BK154, Q_HB, Q_HF_t155, Q_HF_t156, Q_HF_t157, Q_HF_t158, Q_HF_t159, Q_HF_t160, Q_HF_t161, Q_HF_t162, Q_HF_t163, Q_HF_t164, Q_HF_t165, Q_HF_t166, Q_HF_t167, Q_BK168, Q_GW168, Q_GE168, Q_NB153_168, Q_NB168_153, Q_NB154_168, Q_NB168_154, Q_BK168_e8, Q_X1_, Q_X3_, Q_X6_, Q_X7_⟩ hb_ hon hoff
        refine ⟨_, rfl, fun K hK => ?_⟩
        have e4 : a.tmps[4]? = some (.pointer (some ⟨gb153, 0, none⟩)) := by rw [ha]; exact (putSel_off rfl).trans rfl
        replace ha := Aside0.mk ha
        have BK153 := Aside0.mk Q_BK153
        have BK154 := Aside0.mk Q_BK154
        have HB := Aside0.mk Q_HB
        have hc0_ : w'.cell? ⟨gb153, 0, none⟩ = some (.float .f64 b_a0_0) := (blk_cell BK153.out 0).trans rfl
        have hc1_ : w'.cell? ⟨gb153, 1, none⟩ = some (.float .f64 b_a0_1) := (blk_cell BK153.out 1).trans rfl
        have hc2_ : w'.cell? ⟨gb153, 2, none⟩ = some (.float .f64 b_a0_2) := (blk_cell BK153.out 2).trans rfl
        have hc3_ : w'.cell? ⟨gb153, 3, none⟩ = some (.float .f64 b_a0_3) := (blk_cell BK153.out 3).trans rfl
        refine value_ (w1 := w') (v := .agg #[.float .f64 b_a0_0, .float .f64 b_a0_1, .float .f64 b_a0_2, .float .f64 b_a0_3]) (by rfl) rfl ?_ ?_
        · go_simp
          (try simp only [i64_w])
          try rfl
        refine hK.out _ _ ⟨b_t155, b_t156, b_t157, b_t158, b_t159, b_t160, b_t161, b_t162, b_t163, b_t164, b_t165, b_t166, b_t167, gb168, m1_, m3_, m6_, m7_, (by rw [ha.out]; exact putSel_upk 0 hb_ rfl rfl rfl), Q_BK153, Q_BK154, Q_HB, fun h0_ => absurd ((hoff 1 (by kernel_rfl)).symm.trans h0_) (by decide), fun h0_ => absurd ((hoff 1 (by kernel_rfl)).symm.trans h0_) (by decide), fun h0_ => absurd ((hoff 1 (by kernel_rfl)).symm.trans h0_) (by decide), fun h0_ => absurd ((hoff 1 (by kernel_rfl)).symm.trans h0_) (by decide), fun h0_ => absurd ((hoff 3 (by kernel_rfl)).symm.trans h0_) (by decide), fun h0_ => absurd ((hoff 3 (by kernel_rfl)).symm.trans h0_) (by decide), fun h0_ => absurd ((hoff 3 (by kernel_rfl)).symm.trans h0_) (by decide), fun h0_ => absurd ((hoff 3 (by kernel_rfl)).symm.trans h0_) (by decide), fun h0_ => absurd ((hoff 3 (by kernel_rfl)).symm.trans h0_) (by decide), fun h0_ => absurd ((hoff 6 (by kernel_rfl)).symm.trans h0_) (by decide), fun h0_ => absurd ((hoff 6 (by kernel_rfl)).symm.trans h0_) (by decide), fun h0_ => absurd ((hoff 6 (by kernel_rfl)).symm.trans h0_) (by decide), fun h0_ => absurd ((hoff 6 (by kernel_rfl)).symm.trans h0_) (by decide), Q_BK168, Q_GW168, Q_GE168, Q_NB153_168, Q_NB168_153, Q_NB154_168, Q_NB168_154, fun h0_ => absurd ((hoff 8 (by kernel_rfl)).symm.trans h0_) (by decide), fun h0_ => absurd ((hoff 1 (by kernel_rfl)).symm.trans h0_) (by decide), fun h0_ => absurd ((hoff 3 (by kernel_rfl)).symm.trans h0_) (by decide), fun h0_ => absurd ((hoff 6 (by kernel_rfl)).symm.trans h0_) (by decide), Q_X7_⟩
      refine steps_cons ?_ ?_
      · rintro b a w' ⟨b_t155, b_t156, b_t157, b_t158, b_t159, b_t160, b_t161, b_t162, b_t163, b_t164, b_t165, b_t166, b_t167, gb168, m1_, m3_, m6_, m7_, ha, Q_BK153, Q_BK154, Q_HB, Q_HF_t155, Q_HF_t156, Q_HF_t157, Q_HF_t158, Q_HF_t159, Q_HF_t160, Q_HF_t161, Q_HF_t162, Q_HF_t163, Q_HF_t164, Q_HF_t165, Q_HF_t166, Q_HF_t167, Q_BK168, Q_GW168, Q_GE168, Q_NB153_168, Q_NB168_153, Q_NB154_168, Q_NB168_154, Q_BK168_e8, Q_X1_, Q_X3_, Q_X6_, Q_X7_⟩ hb_ hon hoff
        refine ⟨_, rfl, fun K hK => ?_⟩
        have e11 : a.tmps[11]? = some (.agg #[.float .f64 b_a0_0, .float .f64 b_a0_1, .float .f64 b_a0_2, .float .f64 b_a0_3]) := by rw [ha]; exact putSel_on (e := (0, 11, .agg #[.float .f64 b_a0_0, .float .f64 b_a0_1, .float .f64 b_a0_2, .float .f64 b_a0_3])) 0 rfl rfl (hon 0 (by kernel_rfl)) rfl
        replace ha := Aside0.mk ha
        have BK153 := Aside0.mk Q_BK153
        have BK154 := Aside0.mk Q_BK154
        have HB := Aside0.mk Q_HB
        refine goes_ Try.func19 (by kernel_rfl) rfl #[.agg #[.float .f64 b_a0_0, .float .f64 b_a0_1, .float .f64 b_a0_2, .float .f64 b_a0_3]] (by rfl) rfl rfl (by first | (simp only [List.map_toArray, List.map_cons, List.map_nil, Act.eval, Array.getD_eq_getD_getElem?, Option.getD_some, e11]; done) | (simp only [List.map_toArray, List.map_cons, List.map_nil, Act.eval, Array.getD_eq_getD_getElem?, Option.getD_some, e11]; rfl)) ?_
        with_reducible refine (laws_toMotion.calls b_a0_0 a0_0 b_a0_1 a0_1 b_a0_2 a0_2 b_a0_3 a0_3 t155 t156 t157 t158 _ ?side1 ?side2 ?side3 ?side4 A5.out).mono ?_
        (case side1 => exact hF_a0_0)
        (case side2 => exact hF_a0_1)
        (case side3 => exact hF_a0_2)
        (case side4 => exact hF_a0_3)
        rintro e w16 ⟨b_t155, b_t156, b_t157, b_t158, rfl, hF_t155, hF_t156, hF_t157, hF_t158, hb⟩
        refine ⟨_, rfl, ?_⟩
        have n0_ := Aside0.mk (blk_below (g := gb153) (o := .cells #[.float .f64 b_a0_0, .float .f64 b_a0_1, .float .f64 b_a0_2, .float .f64 b_a0_3] 30 (0, 0)) (by (with_reducible repeat (first | refine blk_drewN ?_ _ | refine blk_drew ?_ | refine blk_alloc ?_ _)); exact BK153.out) hb)
        have n1_ := Aside0.mk (blk_below (g := gb154) (o := .cells #[.float .f64 b_a1_0, .float .f64 b_a1_1, .float .f64 b_a1_2, .float .f64 b_a1_3, .float .f64 b_a1_4] 50 (0, 0)) (by (with_reducible repeat (first | refine blk_drewN ?_ _ | refine blk_drew ?_ | refine blk_alloc ?_ _)); exact BK154.out) hb)
        have n2_ := Aside0.mk (below_step (by repeat (first | (with_reducible first | exact HB.out | apply below_alloc | apply pw_below_drewN | apply below_drew1 | refine below_set ?_ GE153.out | refine below_set ?_ GE154.out) | exact HB.out)) hb)
        have z_BK168 := fun (h0_ : b 7 = true) (h1_ : b 8 = false) => (show w16.heap[gb168]? = some (.cells #[.float .f64 0, .float .f64 0, .float .f64 0, .float .f64 0] 32 (0, 0)) from by first | exact (blk_below (g := gb168) (o := .cells #[.float .f64 0, .float .f64 0, .float .f64 0, .float .f64 0] 32 (0, 0)) (by (with_reducible repeat (first | refine blk_drewN ?_ _ | refine blk_drew ?_ | refine blk_alloc ?_ _)); exact (Q_BK168 h0_ h1_)) hb))
        clear BK153
        clear BK154
        clear HB
        have BK153 := n0_
        have BK154 := n1_
        have HB := n2_
        clear n0_ n1_ n2_
        (try clear hb)
        (try clear hb2)
        (try clear hk)
        (try clear hi)
        refine hK.out _ _ ⟨b_t155, b_t156, b_t157, b_t158, b_t159, b_t160, b_t161, b_t162, b_t163, b_t164, b_t165, b_t166, b_t167, gb168, (.agg #[.float .f64 b_t155, .float .f64 b_t156, .float .f64 b_t157, .float .f64 b_t158]), m3_, m6_, m7_, (by rw [ha.out]; exact putSel_upk 1 hb_ rfl rfl rfl), (by (with_reducible repeat (first | refine blk_drewN ?_ _ | refine blk_drew ?_ | refine blk_alloc ?_ _)); exact BK153.out), (by (with_reducible repeat (first | refine blk_drewN ?_ _ | refine blk_drew ?_ | refine blk_alloc ?_ _)); exact BK154.out), (by repeat (first | (with_reducible first | exact HB.out | apply below_alloc | apply pw_below_drewN | apply below_drew1 | refine below_set ?_ GE153.out | refine below_set ?_ GE154.out) | exact HB.out)), fun _ => hF_t155, fun _ => hF_t156, fun _ => hF_t157, fun _ => hF_t158, fun h0_ => absurd ((hoff 3 (by kernel_rfl)).symm.trans h0_) (by decide), fun h0_ => absurd ((hoff 3 (by kernel_rfl)).symm.trans h0_) (by decide), fun h0_ => absurd ((hoff 3 (by kernel_rfl)).symm.trans h0_) (by decide), fun h0_ => absurd ((hoff 3 (by kernel_rfl)).symm.trans h0_) (by decide), fun h0_ => absurd ((hoff 3 (by kernel_rfl)).symm.trans h0_) (by decide), fun h0_ => absurd ((hoff 6 (by kernel_rfl)).symm.trans h0_) (by decide), fun h0_ => absurd ((hoff 6 (by kernel_rfl)).symm.trans h0_) (by decide), fun h0_ => absurd ((hoff 6 (by kernel_rfl)).symm.trans h0_) (by decide), fun h0_ => absurd ((hoff 6 (by kernel_rfl)).symm.trans h0_) (by decide), z_BK168, Q_GW168, Q_GE168, Q_NB153_168, Q_NB168_153, Q_NB154_168, Q_NB168_154, fun h0_ => absurd ((hoff 8 (by kernel_rfl)).symm.trans h0_) (by decide), fun _ => rfl, fun h0_ => absurd ((hoff 3 (by kernel_rfl)).symm.trans h0_) (by decide), fun h0_ => absurd ((hoff 6 (by kernel_rfl)).symm.trans h0_) (by decide), Q_X7_⟩
      refine steps_cons ?_ ?_
      · rintro b a w' ⟨b_t155, b_t156, b_t157, b_t158, b_t159, b_t160, b_t161, b_t162, b_t163, b_t164, b_t165, b_t166, b_t167, gb168, m1_, m3_, m6_, m7_, ha, Q_BK153, Q_BK154, Q_HB, Q_HF_t155, Q_HF_t156, Q_HF_t157, Q_HF_t158, Q_HF_t159, Q_HF_t160, Q_HF_t161, Q_HF_t162, Q_HF_t163, Q_HF_t164, Q_HF_t165, Q_HF_t166, Q_HF_t167, Q_BK168, Q_GW168, Q_GE168, Q_NB153_168, Q_NB168_153, Q_NB154_168, Q_NB168_154, Q_BK168_e8, Q_X1_, Q_X3_, Q_X6_, Q_X7_⟩ hb_ hon hoff
        refine ⟨_, rfl, fun K hK => ?_⟩
        have e5 : a.tmps[5]? = some (.pointer (some ⟨gb154, 0, none⟩)) := by rw [ha]; exact (putSel_off rfl).trans rfl
        replace ha := Aside0.mk ha
        have BK153 := Aside0.mk Q_BK153
        have BK154 := Aside0.mk Q_BK154
        have HB := Aside0.mk Q_HB
        have hc0_ : w'.cell? ⟨gb154, 0, none⟩ = some (.float .f64 b_a1_0) := (blk_cell BK154.out 0).trans rfl
        have hc1_ : w'.cell? ⟨gb154, 1, none⟩ = some (.float .f64 b_a1_1) := (blk_cell BK154.out 1).trans rfl
        have hc2_ : w'.cell? ⟨gb154, 2, none⟩ = some (.float .f64 b_a1_2) := (blk_cell BK154.out 2).trans rfl
        have hc3_ : w'.cell? ⟨gb154, 3, none⟩ = some (.float .f64 b_a1_3) := (blk_cell BK154.out 3).trans rfl
        have hc4_ : w'.cell? ⟨gb154, 4, none⟩ = some (.float .f64 b_a1_4) := (blk_cell BK154.out 4).trans rfl
        refine value_ (w1 := w') (v := .agg #[.float .f64 b_a1_0, .float .f64 b_a1_1, .float .f64 b_a1_2, .float .f64 b_a1_3, .float .f64 b_a1_4]) (by rfl) rfl ?_ ?_
        · go_simp
          (try simp only [i64_w])
          try rfl
        refine hK.out _ _ ⟨b_t155, b_t156, b_t157, b_t158, b_t159, b_t160, b_t161, b_t162, b_t163, b_t164, b_t165, b_t166, b_t167, gb168, m1_, m3_, m6_, m7_, (by rw [ha.out]; exact putSel_upk 2 hb_ rfl rfl rfl), Q_BK153, Q_BK154, Q_HB, Q_HF_t155, Q_HF_t156, Q_HF_t157, Q_HF_t158, fun h0_ => absurd ((hoff 3 (by kernel_rfl)).symm.trans h0_) (by decide), fun h0_ => absurd ((hoff 3 (by kernel_rfl)).symm.trans h0_) (by decide), fun h0_ => absurd ((hoff 3 (by kernel_rfl)).symm.trans h0_) (by decide), fun h0_ => absurd ((hoff 3 (by kernel_rfl)).symm.trans h0_) (by decide), fun h0_ => absurd ((hoff 3 (by kernel_rfl)).symm.trans h0_) (by decide), fun h0_ => absurd ((hoff 6 (by kernel_rfl)).symm.trans h0_) (by decide), fun h0_ => absurd ((hoff 6 (by kernel_rfl)).symm.trans h0_) (by decide), fun h0_ => absurd ((hoff 6 (by kernel_rfl)).symm.trans h0_) (by decide), fun h0_ => absurd ((hoff 6 (by kernel_rfl)).symm.trans h0_) (by decide), Q_BK168, Q_GW168, Q_GE168, Q_NB153_168, Q_NB168_153, Q_NB154_168, Q_NB168_154, fun h0_ => absurd ((hoff 8 (by kernel_rfl)).symm.trans h0_) (by decide), Q_X1_, fun h0_ => absurd ((hoff 3 (by kernel_rfl)).symm.trans h0_) (by decide), fun h0_ => absurd ((hoff 6 (by kernel_rfl)).symm.trans h0_) (by decide), Q_X7_⟩
      refine steps_cons ?_ ?_
      · rintro b a w' ⟨b_t155, b_t156, b_t157, b_t158, b_t159, b_t160, b_t161, b_t162, b_t163, b_t164, b_t165, b_t166, b_t167, gb168, m1_, m3_, m6_, m7_, ha, Q_BK153, Q_BK154, Q_HB, Q_HF_t155, Q_HF_t156, Q_HF_t157, Q_HF_t158, Q_HF_t159, Q_HF_t160, Q_HF_t161, Q_HF_t162, Q_HF_t163, Q_HF_t164, Q_HF_t165, Q_HF_t166, Q_HF_t167, Q_BK168, Q_GW168, Q_GE168, Q_NB153_168, Q_NB168_153, Q_NB154_168, Q_NB168_154, Q_BK168_e8, Q_X1_, Q_X3_, Q_X6_, Q_X7_⟩ hb_ hon hoff
        refine ⟨_, rfl, fun K hK => ?_⟩
        have e13 : a.tmps[13]? = some (.agg #[.float .f64 b_a1_0, .float .f64 b_a1_1, .float .f64 b_a1_2, .float .f64 b_a1_3, .float .f64 b_a1_4]) := by rw [ha]; exact putSel_on (e := (2, 13, .agg #[.float .f64 b_a1_0, .float .f64 b_a1_1, .float .f64 b_a1_2, .float .f64 b_a1_3, .float .f64 b_a1_4])) 2 rfl rfl (hon 2 (by kernel_rfl)) rfl
        replace ha := Aside0.mk ha
        have BK153 := Aside0.mk Q_BK153
        have BK154 := Aside0.mk Q_BK154
        have HB := Aside0.mk Q_HB
        have HF_t155 := Aside0.mk (Q_HF_t155 (hon 1 (by kernel_rfl)))
        have HF_t156 := Aside0.mk (Q_HF_t156 (hon 1 (by kernel_rfl)))
        have HF_t157 := Aside0.mk (Q_HF_t157 (hon 1 (by kernel_rfl)))
        have HF_t158 := Aside0.mk (Q_HF_t158 (hon 1 (by kernel_rfl)))
        have hF_t155 := HF_t155.out
        have hF_t156 := HF_t156.out
        have hF_t157 := HF_t157.out
        have hF_t158 := HF_t158.out
        refine goes_ Try.func37 (by kernel_rfl) rfl #[.agg #[.float .f64 b_a1_0, .float .f64 b_a1_1, .float .f64 b_a1_2, .float .f64 b_a1_3, .float .f64 b_a1_4]] (by rfl) rfl rfl (by first | (simp only [List.map_toArray, List.map_cons, List.map_nil, Act.eval, Array.getD_eq_getD_getElem?, Option.getD_some, e13]; done) | (simp only [List.map_toArray, List.map_cons, List.map_nil, Act.eval, Array.getD_eq_getD_getElem?, Option.getD_some, e13]; rfl)) ?_
        with_reducible refine (laws_toForces.calls b_a1_0 a1_0 b_a1_1 a1_1 b_a1_2 a1_2 b_a1_3 a1_3 b_a1_4 a1_4 t159 t160 t161 t162 t163 _ ?side1 ?side2 ?side3 ?side4 ?side5 A6.out).mono ?_
        (case side1 => exact hF_a1_0)
        (case side2 => exact hF_a1_1)
        (case side3 => exact hF_a1_2)
        (case side4 => exact hF_a1_3)
        (case side5 => exact hF_a1_4)
        rintro e w18 ⟨b_t159, b_t160, b_t161, b_t162, b_t163, rfl, hF_t159, hF_t160, hF_t161, hF_t162, hF_t163, hb⟩
        refine ⟨_, rfl, ?_⟩
        have n0_ := Aside0.mk (blk_below (g := gb153) (o := .cells #[.float .f64 b_a0_0, .float .f64 b_a0_1, .float .f64 b_a0_2, .float .f64 b_a0_3] 30 (0, 0)) (by (with_reducible repeat (first | refine blk_drewN ?_ _ | refine blk_drew ?_ | refine blk_alloc ?_ _)); exact BK153.out) hb)
        have n1_ := Aside0.mk (blk_below (g := gb154) (o := .cells #[.float .f64 b_a1_0, .float .f64 b_a1_1, .float .f64 b_a1_2, .float .f64 b_a1_3, .float .f64 b_a1_4] 50 (0, 0)) (by (with_reducible repeat (first | refine blk_drewN ?_ _ | refine blk_drew ?_ | refine blk_alloc ?_ _)); exact BK154.out) hb)
        have n2_ := Aside0.mk (below_step (by repeat (first | (with_reducible first | exact HB.out | apply below_alloc | apply pw_below_drewN | apply below_drew1 | refine below_set ?_ GE153.out | refine below_set ?_ GE154.out) | exact HB.out)) hb)
        have z_BK168 := fun (h0_ : b 7 = true) (h1_ : b 8 = false) => (show w18.heap[gb168]? = some (.cells #[.float .f64 0, .float .f64 0, .float .f64 0, .float .f64 0] 32 (0, 0)) from by first | exact (blk_below (g := gb168) (o := .cells #[.float .f64 0, .float .f64 0, .float .f64 0, .float .f64 0] 32 (0, 0)) (by (with_reducible repeat (first | refine blk_drewN ?_ _ | refine blk_drew ?_ | refine blk_alloc ?_ _)); exact (Q_BK168 h0_ h1_)) hb))
        clear BK153
        clear BK154
        clear HB
        have BK153 := n0_
        have BK154 := n1_
        have HB := n2_
        clear n0_ n1_ n2_
        (try clear hb)
        (try clear hb2)
        (try clear hk)
        (try clear hi)
        refine hK.out _ _ ⟨b_t155, b_t156, b_t157, b_t158, b_t159, b_t160, b_t161, b_t162, b_t163, b_t164, b_t165, b_t166, b_t167, gb168, m1_, (.agg #[.float .f64 b_t159, .float .f64 b_t160, .float .f64 b_t161, .float .f64 b_t162, .float .f64 b_t163]), m6_, m7_, (by rw [ha.out]; exact putSel_upk 3 hb_ rfl rfl rfl), (by (with_reducible repeat (first | refine blk_drewN ?_ _ | refine blk_drew ?_ | refine blk_alloc ?_ _)); exact BK153.out), (by (with_reducible repeat (first | refine blk_drewN ?_ _ | refine blk_drew ?_ | refine blk_alloc ?_ _)); exact BK154.out), (by repeat (first | (with_reducible first | exact HB.out | apply below_alloc | apply pw_below_drewN | apply below_drew1 | refine below_set ?_ GE153.out | refine below_set ?_ GE154.out) | exact HB.out)), fun _ => hF_t155, fun _ => hF_t156, fun _ => hF_t157, fun _ => hF_t158, fun _ => hF_t159, fun _ => hF_t160, fun _ => hF_t161, fun _ => hF_t162, fun _ => hF_t163, fun h0_ => absurd ((hoff 6 (by kernel_rfl)).symm.trans h0_) (by decide), fun h0_ => absurd ((hoff 6 (by kernel_rfl)).symm.trans h0_) (by decide), fun h0_ => absurd ((hoff 6 (by kernel_rfl)).symm.trans h0_) (by decide), fun h0_ => absurd ((hoff 6 (by kernel_rfl)).symm.trans h0_) (by decide), z_BK168, Q_GW168, Q_GE168, Q_NB153_168, Q_NB168_153, Q_NB154_168, Q_NB168_154, fun h0_ => absurd ((hoff 8 (by kernel_rfl)).symm.trans h0_) (by decide), Q_X1_, fun _ => rfl, fun h0_ => absurd ((hoff 6 (by kernel_rfl)).symm.trans h0_) (by decide), Q_X7_⟩
      refine steps_cons ?_ ?_
      · rintro b a w' ⟨b_t155, b_t156, b_t157, b_t158, b_t159, b_t160, b_t161, b_t162, b_t163, b_t164, b_t165, b_t166, b_t167, gb168, m1_, m3_, m6_, m7_, ha, Q_BK153, Q_BK154, Q_HB, Q_HF_t155, Q_HF_t156, Q_HF_t157, Q_HF_t158, Q_HF_t159, Q_HF_t160, Q_HF_t161, Q_HF_t162, Q_HF_t163, Q_HF_t164, Q_HF_t165, Q_HF_t166, Q_HF_t167, Q_BK168, Q_GW168, Q_GE168, Q_NB153_168, Q_NB168_153, Q_NB154_168, Q_NB168_154, Q_BK168_e8, Q_X1_, Q_X3_, Q_X6_, Q_X7_⟩ hb_ hon hoff
        refine ⟨_, rfl, fun K hK => ?_⟩
        have e12 : a.tmps[12]? = some (m1_) := by rw [ha]; exact putSel_on (e := (1, 12, m1_)) 1 rfl rfl (hon 1 (by kernel_rfl)) rfl
        rw [Q_X1_ (hon 1 (by kernel_rfl))] at e12
        have e14 : a.tmps[14]? = some (m3_) := by rw [ha]; exact putSel_on (e := (3, 14, m3_)) 3 rfl rfl (hon 3 (by kernel_rfl)) rfl
        rw [Q_X3_ (hon 3 (by kernel_rfl))] at e14
        have e15 : a.tmps[15]? = some (.float .f64 b_a2) := by rw [ha]; exact (putSel_off rfl).trans rfl
        have e16 : a.tmps[16]? = some (.float .f64 b_a3) := by rw [ha]; exact (putSel_off rfl).trans rfl
        replace ha := Aside0.mk ha
        have BK153 := Aside0.mk Q_BK153
        have BK154 := Aside0.mk Q_BK154
        have HB := Aside0.mk Q_HB
        have HF_t155 := Aside0.mk (Q_HF_t155 (hon 1 (by kernel_rfl)))
        have HF_t156 := Aside0.mk (Q_HF_t156 (hon 1 (by kernel_rfl)))
        have HF_t157 := Aside0.mk (Q_HF_t157 (hon 1 (by kernel_rfl)))
        have HF_t158 := Aside0.mk (Q_HF_t158 (hon 1 (by kernel_rfl)))
        have HF_t159 := Aside0.mk (Q_HF_t159 (hon 3 (by kernel_rfl)))
        have HF_t160 := Aside0.mk (Q_HF_t160 (hon 3 (by kernel_rfl)))
        have HF_t161 := Aside0.mk (Q_HF_t161 (hon 3 (by kernel_rfl)))
        have HF_t162 := Aside0.mk (Q_HF_t162 (hon 3 (by kernel_rfl)))
        have HF_t163 := Aside0.mk (Q_HF_t163 (hon 3 (by kernel_rfl)))
        have hF_t155 := HF_t155.out
        have hF_t156 := HF_t156.out
        have hF_t157 := HF_t157.out
        have hF_t158 := HF_t158.out
        have hF_t159 := HF_t159.out
        have hF_t160 := HF_t160.out
        have hF_t161 := HF_t161.out
        have hF_t162 := HF_t162.out
        have hF_t163 := HF_t163.out
        refine goes_ Try.func36 (by kernel_rfl) rfl #[.agg #[.float .f64 b_t155, .float .f64 b_t156, .float .f64 b_t157, .float .f64 b_t158], .agg #[.float .f64 b_t159, .float .f64 b_t160, .float .f64 b_t161, .float .f64 b_t162, .float .f64 b_t163], .float .f64 b_a2, .float .f64 b_a3] (by rfl) rfl rfl (by first | (simp only [List.map_toArray, List.map_cons, List.map_nil, Act.eval, Array.getD_eq_getD_getElem?, Option.getD_some, e12, e14, e15, e16]; done) | (simp only [List.map_toArray, List.map_cons, List.map_nil, Act.eval, Array.getD_eq_getD_getElem?, Option.getD_some, e12, e14, e15, e16]; rfl)) ?_
        with_reducible refine (spec_StepOnce.calls b_t155 t155 b_t156 t156 b_t157 t157 b_t158 t158 b_t159 t159 b_t160 t160 b_t161 t161 b_t162 t162 b_t163 t163 b_a2 a2 b_a3 a3 t164 t165 t166 t167 _ ?side1 ?side2 ?side3 ?side4 ?side5 ?side6 ?side7 ?side8 ?side9 ?side10 ?side11 A7.out).mono ?_
        (case side1 => exact hF_t155)
        (case side2 => exact hF_t156)
        (case side3 => exact hF_t157)
        (case side4 => exact hF_t158)
        (case side5 => exact hF_t159)
        (case side6 => exact hF_t160)
        (case side7 => exact hF_t161)
        (case side8 => exact hF_t162)
        (case side9 => exact hF_t163)
        (case side10 => exact hF_a2)
        (case side11 => exact hF_a3)
        rintro e w19 ⟨b_t164, b_t165, b_t166, b_t167, rfl, hF_t164, hF_t165, hF_t166, hF_t167, hb⟩
        refine ⟨_, rfl, ?_⟩
        have n0_ := Aside0.mk (blk_below (g := gb153) (o := .cells #[.float .f64 b_a0_0, .float .f64 b_a0_1, .float .f64 b_a0_2, .float .f64 b_a0_3] 30 (0, 0)) (by (with_reducible repeat (first | refine blk_drewN ?_ _ | refine blk_drew ?_ | refine blk_alloc ?_ _)); exact BK153.out) hb)
        have n1_ := Aside0.mk (blk_below (g := gb154) (o := .cells #[.float .f64 b_a1_0, .float .f64 b_a1_1, .float .f64 b_a1_2, .float .f64 b_a1_3, .float .f64 b_a1_4] 50 (0, 0)) (by (with_reducible repeat (first | refine blk_drewN ?_ _ | refine blk_drew ?_ | refine blk_alloc ?_ _)); exact BK154.out) hb)
        have n2_ := Aside0.mk (below_step (by repeat (first | (with_reducible first | exact HB.out | apply below_alloc | apply pw_below_drewN | apply below_drew1 | refine below_set ?_ GE153.out | refine below_set ?_ GE154.out) | exact HB.out)) hb)
        have z_BK168 := fun (h0_ : b 7 = true) (h1_ : b 8 = false) => (show w19.heap[gb168]? = some (.cells #[.float .f64 0, .float .f64 0, .float .f64 0, .float .f64 0] 32 (0, 0)) from by first | exact (blk_below (g := gb168) (o := .cells #[.float .f64 0, .float .f64 0, .float .f64 0, .float .f64 0] 32 (0, 0)) (by (with_reducible repeat (first | refine blk_drewN ?_ _ | refine blk_drew ?_ | refine blk_alloc ?_ _)); exact (Q_BK168 h0_ h1_)) hb))
        clear BK153
        clear BK154
        clear HB
        have BK153 := n0_
        have BK154 := n1_
        have HB := n2_
        clear n0_ n1_ n2_
        (try clear hb)
        (try clear hb2)
        (try clear hk)
        (try clear hi)
        refine hK.out _ _ ⟨b_t155, b_t156, b_t157, b_t158, b_t159, b_t160, b_t161, b_t162, b_t163, b_t164, b_t165, b_t166, b_t167, gb168, m1_, m3_, (.agg #[.float .f64 b_t164, .float .f64 b_t165, .float .f64 b_t166, .float .f64 b_t167]), m7_, (by rw [ha.out]; exact putSel_upk 4 hb_ rfl rfl rfl), (by (with_reducible repeat (first | refine blk_drewN ?_ _ | refine blk_drew ?_ | refine blk_alloc ?_ _)); exact BK153.out), (by (with_reducible repeat (first | refine blk_drewN ?_ _ | refine blk_drew ?_ | refine blk_alloc ?_ _)); exact BK154.out), (by repeat (first | (with_reducible first | exact HB.out | apply below_alloc | apply pw_below_drewN | apply below_drew1 | refine below_set ?_ GE153.out | refine below_set ?_ GE154.out) | exact HB.out)), fun _ => hF_t155, fun _ => hF_t156, fun _ => hF_t157, fun _ => hF_t158, fun _ => hF_t159, fun _ => hF_t160, fun _ => hF_t161, fun _ => hF_t162, fun _ => hF_t163, fun _ => hF_t164, fun _ => hF_t165, fun _ => hF_t166, fun _ => hF_t167, z_BK168, Q_GW168, Q_GE168, Q_NB153_168, Q_NB168_153, Q_NB154_168, Q_NB168_154, fun h0_ => absurd ((hoff 8 (by kernel_rfl)).symm.trans h0_) (by decide), Q_X1_, Q_X3_, fun _ => rfl, Q_X7_⟩
      refine steps_cons ?_ ?_
      · rintro b a w' ⟨b_t155, b_t156, b_t157, b_t158, b_t159, b_t160, b_t161, b_t162, b_t163, b_t164, b_t165, b_t166, b_t167, gb168, m1_, m3_, m6_, m7_, ha, Q_BK153, Q_BK154, Q_HB, Q_HF_t155, Q_HF_t156, Q_HF_t157, Q_HF_t158, Q_HF_t159, Q_HF_t160, Q_HF_t161, Q_HF_t162, Q_HF_t163, Q_HF_t164, Q_HF_t165, Q_HF_t166, Q_HF_t167, Q_BK168, Q_GW168, Q_GE168, Q_NB153_168, Q_NB168_153, Q_NB154_168, Q_NB168_154, Q_BK168_e8, Q_X1_, Q_X3_, Q_X6_, Q_X7_⟩ hb_ hon hoff
        refine ⟨_, rfl, fun K hK => ?_⟩
        replace ha := Aside0.mk ha
        have BK153 := Aside0.mk Q_BK153
        have BK154 := Aside0.mk Q_BK154
        have HB := Aside0.mk Q_HB
        refine box_step ?hg (N := 9) ?hd (cs := #[.float .f64 0, .float .f64 0, .float .f64 0, .float .f64 0]) (t := 32) ?hr ?_; (case hd => rfl); (case hg => rfl); (case hr => first | (go_simp; done) | (go_simp; rfl))
        intro gb168 hg w16 hbox hb
        have n0_ := Aside0.mk (blk_below (g := gb153) (o := .cells #[.float .f64 b_a0_0, .float .f64 b_a0_1, .float .f64 b_a0_2, .float .f64 b_a0_3] 30 (0, 0)) (by (with_reducible repeat (first | refine blk_drewN ?_ _ | refine blk_drew ?_ | refine blk_alloc ?_ _)); exact BK153.out) hb)
        have n1_ := Aside0.mk (blk_below (g := gb154) (o := .cells #[.float .f64 b_a1_0, .float .f64 b_a1_1, .float .f64 b_a1_2, .float .f64 b_a1_3, .float .f64 b_a1_4] 50 (0, 0)) (by (with_reducible repeat (first | refine blk_drewN ?_ _ | refine blk_drew ?_ | refine blk_alloc ?_ _)); exact BK154.out) hb)
        have n2_ := Aside0.mk (below_step (by repeat (first | (with_reducible first | exact HB.out | apply below_alloc | apply pw_below_drewN | apply below_drew1 | refine below_set ?_ GE153.out | refine below_set ?_ GE154.out) | exact HB.out)) hb)
        have n3_ := Aside0.mk (hbox)
        have n4_ := Aside0.mk ((by rw [hg]; exact (below_size (by repeat (first | (with_reducible first | exact HB.out | apply below_alloc | apply pw_below_drewN | apply below_drew1 | refine below_set ?_ GE153.out | refine below_set ?_ GE154.out) | exact HB.out))) : w.heap.size ≤ gb168))
        have n5_ := Aside0.mk ((by rw [hg]; exact (below_size (by repeat (first | (with_reducible first | exact HB.out | apply below_alloc | apply pw_below_drewN | apply below_drew1 | refine below_set ?_ GE153.out | refine below_set ?_ GE154.out) | exact HB.out))) : w.heap.size ≤ gb168))
        have n6_ := Aside0.mk ((by rw [hg]; exact Nat.ne_of_lt (blk_lt (g := gb153) (o := .cells #[.float .f64 b_a0_0, .float .f64 b_a0_1, .float .f64 b_a0_2, .float .f64 b_a0_3] 30 (0, 0)) (by (with_reducible repeat (first | refine blk_drewN ?_ _ | refine blk_drew ?_ | refine blk_alloc ?_ _)); exact BK153.out)) : gb153 ≠ gb168))
        have n7_ := Aside0.mk ((by rw [hg]; exact Nat.ne_of_gt (blk_lt (g := gb153) (o := .cells #[.float .f64 b_a0_0, .float .f64 b_a0_1, .float .f64 b_a0_2, .float .f64 b_a0_3] 30 (0, 0)) (by (with_reducible repeat (first | refine blk_drewN ?_ _ | refine blk_drew ?_ | refine blk_alloc ?_ _)); exact BK153.out)) : gb168 ≠ gb153))
        have n8_ := Aside0.mk ((by rw [hg]; exact Nat.ne_of_lt (blk_lt (g := gb154) (o := .cells #[.float .f64 b_a1_0, .float .f64 b_a1_1, .float .f64 b_a1_2, .float .f64 b_a1_3, .float .f64 b_a1_4] 50 (0, 0)) (by (with_reducible repeat (first | refine blk_drewN ?_ _ | refine blk_drew ?_ | refine blk_alloc ?_ _)); exact BK154.out)) : gb154 ≠ gb168))
        have n9_ := Aside0.mk ((by rw [hg]; exact Nat.ne_of_gt (blk_lt (g := gb154) (o := .cells #[.float .f64 b_a1_0, .float .f64 b_a1_1, .float .f64 b_a1_2, .float .f64 b_a1_3, .float .f64 b_a1_4] 50 (0, 0)) (by (with_reducible repeat (first | refine blk_drewN ?_ _ | refine blk_drew ?_ | refine blk_alloc ?_ _)); exact BK154.out)) : gb168 ≠ gb154))
        clear BK153
        clear BK154
        clear HB
        have BK153 := n0_
        have BK154 := n1_
        have HB := n2_
        have BK168 := n3_
        have GW168 := n4_
        have GE168 := n5_
        have NB153_168 := n6_
        have NB168_153 := n7_
        have NB154_168 := n8_
        have NB168_154 := n9_
        clear n0_ n1_ n2_ n3_ n4_ n5_ n6_ n7_ n8_ n9_
        clear hb hbox hg
        refine hK.out _ _ ⟨b_t155, b_t156, b_t157, b_t158, b_t159, b_t160, b_t161, b_t162, b_t163, b_t164, b_t165, b_t166, b_t167, gb168, m1_, m3_, m6_, (.pointer (some ⟨gb168, 0, none⟩)), (by rw [ha.out]; exact putSel_upk 5 hb_ rfl rfl rfl), (by (with_reducible repeat (first | refine blk_drewN ?_ _ | refine blk_drew ?_ | refine blk_alloc ?_ _)); exact BK153.out), (by (with_reducible repeat (first | refine blk_drewN ?_ _ | refine blk_drew ?_ | refine blk_alloc ?_ _)); exact BK154.out), (by repeat (first | (with_reducible first | exact HB.out | apply below_alloc | apply pw_below_drewN | apply below_drew1 | refine below_set ?_ GE153.out | refine below_set ?_ GE154.out | refine below_set ?_ GE168.out) | exact HB.out)), Q_HF_t155, Q_HF_t156, Q_HF_t157, Q_HF_t158, Q_HF_t159, Q_HF_t160, Q_HF_t161, Q_HF_t162, Q_HF_t163, Q_HF_t164, Q_HF_t165, Q_HF_t166, Q_HF_t167, fun _ _ => (by (with_reducible repeat (first | refine blk_drewN ?_ _ | refine blk_drew ?_ | refine blk_alloc ?_ _)); exact BK168.out), fun _ => GW168.out, fun _ => GE168.out, fun _ => NB153_168.out, fun _ => NB168_153.out, fun _ => NB154_168.out, fun _ => NB168_154.out, fun h0_ => absurd ((hoff 8 (by kernel_rfl)).symm.trans h0_) (by decide), Q_X1_, Q_X3_, Q_X6_, fun _ => rfl⟩
      refine steps_cons ?_ ?_
      · rintro b a w' ⟨b_t155, b_t156, b_t157, b_t158, b_t159, b_t160, b_t161, b_t162, b_t163, b_t164, b_t165, b_t166, b_t167, gb168, m1_, m3_, m6_, m7_, ha, Q_BK153, Q_BK154, Q_HB, Q_HF_t155, Q_HF_t156, Q_HF_t157, Q_HF_t158, Q_HF_t159, Q_HF_t160, Q_HF_t161, Q_HF_t162, Q_HF_t163, Q_HF_t164, Q_HF_t165, Q_HF_t166, Q_HF_t167, Q_BK168, Q_GW168, Q_GE168, Q_NB153_168, Q_NB168_153, Q_NB154_168, Q_NB168_154, Q_BK168_e8, Q_X1_, Q_X3_, Q_X6_, Q_X7_⟩ hb_ hon hoff
        refine ⟨_, rfl, fun K hK => ?_⟩
        have e9 : a.tmps[9]? = some (m7_) := by rw [ha]; exact putSel_on (e := (7, 9, m7_)) 5 rfl rfl (hon 7 (by kernel_rfl)) rfl
        rw [Q_X7_ (hon 7 (by kernel_rfl))] at e9
        have e17 : a.tmps[17]? = some (m6_) := by rw [ha]; exact putSel_on (e := (6, 17, m6_)) 4 rfl rfl (hon 6 (by kernel_rfl)) rfl
        rw [Q_X6_ (hon 6 (by kernel_rfl))] at e17
        replace ha := Aside0.mk ha
        have BK153 := Aside0.mk Q_BK153
        have BK154 := Aside0.mk Q_BK154
        have HB := Aside0.mk Q_HB
        have HF_t155 := Aside0.mk (Q_HF_t155 (hon 1 (by kernel_rfl)))
        have HF_t156 := Aside0.mk (Q_HF_t156 (hon 1 (by kernel_rfl)))
        have HF_t157 := Aside0.mk (Q_HF_t157 (hon 1 (by kernel_rfl)))
        have HF_t158 := Aside0.mk (Q_HF_t158 (hon 1 (by kernel_rfl)))
        have HF_t159 := Aside0.mk (Q_HF_t159 (hon 3 (by kernel_rfl)))
        have HF_t160 := Aside0.mk (Q_HF_t160 (hon 3 (by kernel_rfl)))
        have HF_t161 := Aside0.mk (Q_HF_t161 (hon 3 (by kernel_rfl)))
        have HF_t162 := Aside0.mk (Q_HF_t162 (hon 3 (by kernel_rfl)))
        have HF_t163 := Aside0.mk (Q_HF_t163 (hon 3 (by kernel_rfl)))
        have HF_t164 := Aside0.mk (Q_HF_t164 (hon 6 (by kernel_rfl)))
        have HF_t165 := Aside0.mk (Q_HF_t165 (hon 6 (by kernel_rfl)))
        have HF_t166 := Aside0.mk (Q_HF_t166 (hon 6 (by kernel_rfl)))
        have HF_t167 := Aside0.mk (Q_HF_t167 (hon 6 (by kernel_rfl)))
        have BK168 := Aside0.mk (Q_BK168 (hon 7 (by kernel_rfl)) hb_)
        have GW168 := Aside0.mk (Q_GW168 (hon 7 (by kernel_rfl)))
        have GE168 := Aside0.mk (Q_GE168 (hon 7 (by kernel_rfl)))
        have NB153_168 := Aside0.mk (Q_NB153_168 (hon 7 (by kernel_rfl)))
        have NB168_153 := Aside0.mk (Q_NB168_153 (hon 7 (by kernel_rfl)))
        have NB154_168 := Aside0.mk (Q_NB154_168 (hon 7 (by kernel_rfl)))
        have NB168_154 := Aside0.mk (Q_NB168_154 (hon 7 (by kernel_rfl)))
        have hF_t155 := HF_t155.out
        have hF_t156 := HF_t156.out
        have hF_t157 := HF_t157.out
        have hF_t158 := HF_t158.out
        have hF_t159 := HF_t159.out
        have hF_t160 := HF_t160.out
        have hF_t161 := HF_t161.out
        have hF_t162 := HF_t162.out
        have hF_t163 := HF_t163.out
        have hF_t164 := HF_t164.out
        have hF_t165 := HF_t165.out
        have hF_t166 := HF_t166.out
        have hF_t167 := HF_t167.out
        have hs21 : w'.cell? ⟨gb168, 0, none⟩ = some (.float .f64 0) := (blk_cell BK168.out 0).trans rfl
        have hfs21 := blk_frozen BK168.out 0
        have hns21_0 := NB153_168.out
        have hns21_1 := NB154_168.out
        have hms21_0 := NB168_153.out
        have hms21_1 := NB168_154.out
        have hs22 : w'.cell? ⟨gb168, 1, none⟩ = some (.float .f64 0) := (blk_cell BK168.out 1).trans rfl
        have hfs22 := blk_frozen BK168.out 1
        have hns22_0 := NB153_168.out
        have hns22_1 := NB154_168.out
        have hms22_0 := NB168_153.out
        have hms22_1 := NB168_154.out
        have hs23 : w'.cell? ⟨gb168, 2, none⟩ = some (.float .f64 0) := (blk_cell BK168.out 2).trans rfl
        have hfs23 := blk_frozen BK168.out 2
        have hns23_0 := NB153_168.out
        have hns23_1 := NB154_168.out
        have hms23_0 := NB168_153.out
        have hms23_1 := NB168_154.out
        have hs24 : w'.cell? ⟨gb168, 3, none⟩ = some (.float .f64 0) := (blk_cell BK168.out 3).trans rfl
        have hfs24 := blk_frozen BK168.out 3
        have hns24_0 := NB153_168.out
        have hns24_1 := NB154_168.out
        have hms24_0 := NB168_153.out
        have hms24_1 := NB168_154.out
        refine skip_ (w1 := ?_) (by rfl) rfl ?_ ?_
        rotate_left
        · go_simp
          rfl
        refine hK.out _ _ ⟨b_t155, b_t156, b_t157, b_t158, b_t159, b_t160, b_t161, b_t162, b_t163, b_t164, b_t165, b_t166, b_t167, gb168, m1_, m3_, m6_, m7_, (by rw [ha.out]; exact putSel_none (v := undef) rfl), (by (with_reducible repeat (first | refine blk_drewN ?_ _ | refine blk_drew ?_ | refine blk_alloc ?_ _)); refine blk_far ?_ NB153_168.out _; (with_reducible repeat (first | refine blk_drewN ?_ _ | refine blk_drew ?_ | refine blk_alloc ?_ _)); refine blk_far ?_ NB153_168.out _; (with_reducible repeat (first | refine blk_drewN ?_ _ | refine blk_drew ?_ | refine blk_alloc ?_ _)); refine blk_far ?_ NB153_168.out _; (with_reducible repeat (first | refine blk_drewN ?_ _ | refine blk_drew ?_ | refine blk_alloc ?_ _)); refine blk_far ?_ NB153_168.out _; (with_reducible repeat (first | refine blk_drewN ?_ _ | refine blk_drew ?_ | refine blk_alloc ?_ _)); exact BK153.out), (by (with_reducible repeat (first | refine blk_drewN ?_ _ | refine blk_drew ?_ | refine blk_alloc ?_ _)); refine blk_far ?_ NB154_168.out _; (with_reducible repeat (first | refine blk_drewN ?_ _ | refine blk_drew ?_ | refine blk_alloc ?_ _)); refine blk_far ?_ NB154_168.out _; (with_reducible repeat (first | refine blk_drewN ?_ _ | refine blk_drew ?_ | refine blk_alloc ?_ _)); refine blk_far ?_ NB154_168.out _; (with_reducible repeat (first | refine blk_drewN ?_ _ | refine blk_drew ?_ | refine blk_alloc ?_ _)); refine blk_far ?_ NB154_168.out _; (with_reducible repeat (first | refine blk_drewN ?_ _ | refine blk_drew ?_ | refine blk_alloc ?_ _)); exact BK154.out), (by repeat (first | (with_reducible first | exact HB.out | apply below_alloc | apply pw_below_drewN | apply below_drew1 | refine below_set ?_ GE153.out | refine below_set ?_ GE154.out | refine below_set ?_ GE168.out) | exact HB.out)), fun _ => hF_t155, fun _ => hF_t156, fun _ => hF_t157, fun _ => hF_t158, fun _ => hF_t159, fun _ => hF_t160, fun _ => hF_t161, fun _ => hF_t162, fun _ => hF_t163, fun _ => hF_t164, fun _ => hF_t165, fun _ => hF_t166, fun _ => hF_t167, fun _ h1_ => absurd ((up_self b 8).symm.trans h1_) (by decide), fun _ => GW168.out, fun _ => GE168.out, fun _ => NB153_168.out, fun _ => NB168_153.out, fun _ => NB154_168.out, fun _ => NB168_154.out, fun _ => (by (with_reducible repeat (first | refine blk_drewN ?_ _ | refine blk_drew ?_ | refine blk_alloc ?_ _)); refine blk_put (cs := #[.float .f64 b_t164, .float .f64 b_t165, .float .f64 b_t166, .float .f64 0]) ?_ 3 _ rfl; (with_reducible repeat (first | refine blk_drewN ?_ _ | refine blk_drew ?_ | refine blk_alloc ?_ _)); refine blk_put (cs := #[.float .f64 b_t164, .float .f64 b_t165, .float .f64 0, .float .f64 0]) ?_ 2 _ rfl; (with_reducible repeat (first | refine blk_drewN ?_ _ | refine blk_drew ?_ | refine blk_alloc ?_ _)); refine blk_put (cs := #[.float .f64 b_t164, .float .f64 0, .float .f64 0, .float .f64 0]) ?_ 1 _ rfl; (with_reducible repeat (first | refine blk_drewN ?_ _ | refine blk_drew ?_ | refine blk_alloc ?_ _)); refine blk_put (cs := #[.float .f64 0, .float .f64 0, .float .f64 0, .float .f64 0]) ?_ 0 _ rfl; (with_reducible repeat (first | refine blk_drewN ?_ _ | refine blk_drew ?_ | refine blk_alloc ?_ _)); exact BK168.out), Q_X1_, Q_X3_, Q_X6_, Q_X7_⟩
      exact steps_nil
    rintro b a w24 hall ⟨b_t155, b_t156, b_t157, b_t158, b_t159, b_t160, b_t161, b_t162, b_t163, b_t164, b_t165, b_t166, b_t167, gb168, m1_, m3_, m6_, m7_, ha, Q_BK153, Q_BK154, Q_HB, Q_HF_t155, Q_HF_t156, Q_HF_t157, Q_HF_t158, Q_HF_t159, Q_HF_t160, Q_HF_t161, Q_HF_t162, Q_HF_t163, Q_HF_t164, Q_HF_t165, Q_HF_t166, Q_HF_t167, Q_BK168, Q_GW168, Q_GE168, Q_NB153_168, Q_NB168_153, Q_NB154_168, Q_NB168_154, Q_BK168_e8, Q_X1_, Q_X3_, Q_X6_, Q_X7_⟩
    clear BK153 BK154 HB
    have hb0_ := hall 0 (by kernel_rfl)
    have hb1_ := hall 1 (by kernel_rfl)
    have hb2_ := hall 2 (by kernel_rfl)
    have hb3_ := hall 3 (by kernel_rfl)
    have hb6_ := hall 6 (by kernel_rfl)
    have hb7_ := hall 7 (by kernel_rfl)
    have hb8_ := hall 8 (by kernel_rfl)
    subst ha
    obtain rfl := Q_X1_ hb1_
    obtain rfl := Q_X3_ hb3_
    obtain rfl := Q_X6_ hb6_
    obtain rfl := Q_X7_ hb7_
    simp only [putSel, hb0_, hb1_, hb2_, hb3_, hb6_, hb7_, hb8_, if_true, Act.put, List.setIfInBounds_toArray, List.set_cons_zero, List.set_cons_succ]
    have BK153 := Aside0.mk Q_BK153
    clear Q_BK153
    have BK154 := Aside0.mk Q_BK154
    clear Q_BK154
    have HB := Aside0.mk Q_HB
    clear Q_HB
    have HF_t155 := Aside0.mk (Q_HF_t155 hb1_)
    clear Q_HF_t155
    have HF_t156 := Aside0.mk (Q_HF_t156 hb1_)
    clear Q_HF_t156
    have HF_t157 := Aside0.mk (Q_HF_t157 hb1_)
    clear Q_HF_t157
    have HF_t158 := Aside0.mk (Q_HF_t158 hb1_)
    clear Q_HF_t158
    have HF_t159 := Aside0.mk (Q_HF_t159 hb3_)
    clear Q_HF_t159
    have HF_t160 := Aside0.mk (Q_HF_t160 hb3_)
    clear Q_HF_t160
    have HF_t161 := Aside0.mk (Q_HF_t161 hb3_)
    clear Q_HF_t161
    have HF_t162 := Aside0.mk (Q_HF_t162 hb3_)
    clear Q_HF_t162
    have HF_t163 := Aside0.mk (Q_HF_t163 hb3_)
    clear Q_HF_t163
    have HF_t164 := Aside0.mk (Q_HF_t164 hb6_)
    clear Q_HF_t164
    have HF_t165 := Aside0.mk (Q_HF_t165 hb6_)
    clear Q_HF_t165
    have HF_t166 := Aside0.mk (Q_HF_t166 hb6_)
    clear Q_HF_t166
    have HF_t167 := Aside0.mk (Q_HF_t167 hb6_)
    clear Q_HF_t167
    clear Q_BK168
    have GW168 := Aside0.mk (Q_GW168 hb7_)
    clear Q_GW168
    have GE168 := Aside0.mk (Q_GE168 hb7_)
    clear Q_GE168
    have NB153_168 := Aside0.mk (Q_NB153_168 hb7_)
    clear Q_NB153_168
    have NB168_153 := Aside0.mk (Q_NB168_153 hb7_)
    clear Q_NB168_153
    have NB154_168 := Aside0.mk (Q_NB154_168 hb7_)
    clear Q_NB154_168
    have NB168_154 := Aside0.mk (Q_NB168_154 hb7_)
    clear Q_NB168_154
    have BK168 := Aside0.mk (Q_BK168_e8 hb8_)
    clear Q_BK168_e8
    clear hall hb0_ hb1_ hb2_ hb3_ hb6_ hb7_ hb8_
    have hF_t155 := HF_t155.out
    have hF_t156 := HF_t156.out
    have hF_t157 := HF_t157.out
    have hF_t158 := HF_t158.out
    have hF_t159 := HF_t159.out
    have hF_t160 := HF_t160.out
    have hF_t161 := HF_t161.out
    have hF_t162 := HF_t162.out
    have hF_t163 := HF_t163.out
    have hF_t164 := HF_t164.out
    have hF_t165 := HF_t165.out
    have hF_t166 := HF_t166.out
    have hF_t167 := HF_t167.out
    try go_wp2
    have n0_ := Aside0.mk (blk_drew BK153.out)
    have n1_ := Aside0.mk (blk_drew BK154.out)
    have n2_ := Aside0.mk (blk_drew BK168.out)
    have n3_ := Aside0.mk (below_drew1 HB.out)
    clear BK153
    clear BK154
    clear BK168
    clear HB
    have BK153 := n0_
    have BK154 := n1_
    have BK168 := n2_
    have HB := n3_
    clear n0_ n1_ n2_ n3_
    refine start_ (n := 9) (S := fun w' => True) (ds := []) #[false, false, false, false, false, false, false, false, false] (by kernel_rfl) rfl rfl trivial (fun hHeld => ?_); refine with_tabW laws_FnExactStepOnce.tab2 laws_FnExactStepOnce.bits2 (fun HT_ HW_ => ?_)
    generalize w24.drew = w25 at BK153 BK154 BK168 HB hHeld ⊢
    refine pure_ (i := 4) (N := some 22) (v := ?_) (a' := ?_) #[false, false, false, false, true, false, false, false, false] rfl rfl (any_of HT_.out (by kernel_rfl)) (fun _ _ _ h => h) (Or.inl ⟨by rfl, ?_⟩) ?_ ?_
    rotate_left
    · intro w'
      go_simp
      with_reducible rfl
    rotate_left
    · simp only [Act.put, List.setIfInBounds_toArray, List.set_cons_zero, List.set_cons_succ, i64_w, i32_w]
      rfl
    refine pure_ (i := 5) (N := some 23) (v := ?_) (a' := ?_) #[false, false, false, false, true, true, false, false, false] rfl rfl (any_of HT_.out (by kernel_rfl)) (fun _ _ _ h => h) (Or.inl ⟨by rfl, ?_⟩) ?_ ?_
    rotate_left
    · intro w'
      go_simp
      with_reducible rfl
    rotate_left
    · simp only [Act.put, List.setIfInBounds_toArray, List.set_cons_zero, List.set_cons_succ, i64_w, i32_w]
      rfl
    refine inv_at [0, 1, 2, 3, 6, 7, 8] (fun a0_ b a w' => ∃ (b_t169 : Nat) (b_t170 : Nat) (b_t171 : Nat) (b_t172 : Nat) (b_t173 : Nat) (b_t174 : Nat) (b_t175 : Nat) (b_t176 : Nat) (b_t177 : Nat) (b_t178 : Nat) (b_t179 : Nat) (b_t180 : Nat) (b_t181 : Nat) (gb182 : Nat) (m1_ : Value) (m3_ : Value) (m6_ : Value) (m7_ : Value), a = putSel a0_ b [(0, 18, .agg #[.float .f64 b_a0_0, .float .f64 b_a0_1, .float .f64 b_a0_2, .float .f64 b_a0_3]), (1, 19, m1_), (2, 20, .agg #[.float .f64 b_a1_0, .float .f64 b_a1_1, .float .f64 b_a1_2, .float .f64 b_a1_3, .float .f64 b_a1_4]), (3, 21, m3_), (6, 24, m6_), (7, 10, m7_)] ∧ (w'.heap[gb153]? = some (.cells #[.float .f64 b_a0_0, .float .f64 b_a0_1, .float .f64 b_a0_2, .float .f64 b_a0_3] 30 (0, 0))) ∧ (w'.heap[gb154]? = some (.cells #[.float .f64 b_a1_0, .float .f64 b_a1_1, .float .f64 b_a1_2, .float .f64 b_a1_3, .float .f64 b_a1_4] 50 (0, 0))) ∧ (w'.heap[gb168]? = some (.cells #[.float .f64 b_t164, .float .f64 b_t165, .float .f64 b_t166, .float .f64 b_t167] 32 (0, 0))) ∧ (Below w.heap.size w w') ∧ (b 1 = true → cn .f64 b_t169 = t169) ∧ (b 1 = true → cn .f64 b_t170 = t170) ∧ (b 1 = true → cn .f64 b_t171 = t171) ∧ (b 1 = true → cn .f64 b_t172 = t172) ∧ (b 3 = true → cn .f64 b_t173 = t173) ∧ (b 3 = true → cn .f64 b_t174 = t174) ∧ (b 3 = true → cn .f64 b_t175 = t175) ∧ (b 3 = true → cn .f64 b_t176 = t176) ∧ (b 3 = true → cn .f64 b_t177 = t177) ∧ (b 6 = true → cn .f64 b_t178 = t178) ∧ (b 6 = true → cn .f64 b_t179 = t179) ∧ (b 6 = true → cn .f64 b_t180 = t180) ∧ (b 6 = true → cn .f64 b_t181 = t181) ∧ (b 7 = true → b 8 = false → w'.heap[gb182]? = some (.cells #[.float .f64 0, .float .f64 0, .float .f64 0, .float .f64 0] 32 (0, 0))) ∧ (b 7 = true → w.heap.size ≤ gb182) ∧ (b 7 = true → w.heap.size ≤ gb182) ∧ (b 7 = true → gb153 ≠ gb182) ∧ (b 7 = true → gb182 ≠ gb153) ∧ (b 7 = true → gb154 ≠ gb182) ∧ (b 7 = true → gb182 ≠ gb154) ∧ (b 7 = true → gb168 ≠ gb182) ∧ (b 7 = true → gb182 ≠ gb168) ∧ (b 8 = true → w'.heap[gb182]? = some (.cells #[.float .f64 b_t178, .float .f64 b_t179, .float .f64 b_t180, .float .f64 b_t181] 32 (0, 0))) ∧ (b 1 = true → (m1_ : Value) = .agg #[.float .f64 b_t169, .float .f64 b_t170, .float .f64 b_t171, .float .f64 b_t172]) ∧ (b 3 = true → (m3_ : Value) = .agg #[.float .f64 b_t173, .float .f64 b_t174, .float .f64 b_t175, .float .f64 b_t176, .float .f64 b_t177]) ∧ (b 6 = true → (m6_ : Value) = .agg #[.float .f64 b_t178, .float .f64 b_t179, .float .f64 b_t180, .float .f64 b_t181]) ∧ (b 7 = true → (m7_ : Value) = .pointer (some ⟨gb182, 0, none⟩))) HT_.out HW_.out (by kernel_rfl) (by kernel_rfl) ?_ ?_ ?_
    · exact ⟨0, 0, 0, 0, 0, 0, 0, 0, 0, 0, 0, 0, 0, 0, .bool false, .bool false, .bool false, .bool false, by simp only [putSel, Bool.false_eq_true, if_false], BK153.out, BK154.out, BK168.out, HB.out, fun h_ => absurd h_ (by decide), fun h_ => absurd h_ (by decide), fun h_ => absurd h_ (by decide), fun h_ => absurd h_ (by decide), fun h_ => absurd h_ (by decide), fun h_ => absurd h_ (by decide), fun h_ => absurd h_ (by decide), fun h_ => absurd h_ (by decide), fun h_ => absurd h_ (by decide), fun h_ => absurd h_ (by decide), fun h_ => absurd h_ (by decide), fun h_ => absurd h_ (by decide), fun h_ => absurd h_ (by decide), fun h_ => absurd h_ (by decide), fun h_ => absurd h_ (by decide), fun h_ => absurd h_ (by decide), fun h_ => absurd h_ (by decide), fun h_ => absurd h_ (by decide), fun h_ => absurd h_ (by decide), fun h_ => absurd h_ (by decide), fun h_ => absurd h_ (by decide), fun h_ => absurd h_ (by decide), fun h_ => absurd h_ (by decide), fun h_ => absurd h_ (by decide), fun h_ => absurd h_ (by decide), fun h_ => absurd h_ (by decide), fun h_ => absurd h_ (by decide)⟩
    · skip
      clear BK153 BK154 BK168 HB
      refine steps_cons ?_ ?_
      · rintro b a w' ⟨b_t169, b_t170, b_t171, b_t172, b_t173, b_t174, b_t175, b_t176, b_t177, b_t178, b_t179, b_t180, b_t181, gb182, m1_, m3_, m6_, m7_, ha, Q_BK153, Q_BK154, Q_BK168, Q_HB, Q_HF_t169, Q_HF_t170, Q_HF_t171, Q_HF_t172, Q_HF_t173, Q_HF_t174, Q_HF_t175, Q_HF_t176, Q_HF_t177, Q_HF_t178, Q_HF_t179, Q_HF_t180, Q_HF_t181, Q_BK182, Q_GW182, Q_GE182, Q_NB153_182, Q_NB182_153, Q_NB154_182, Q_NB182_154, Q_NB168_182, Q_NB182_168, Q_BK182_e8, Q_X1_, Q_X3_, Q_X6_, Q_X7_⟩ hb_ hon hoff
        refine ⟨_, rfl, fun K hK => ?_⟩
        have e4 : a.tmps[4]? = some (.pointer (some ⟨gb153, 0, none⟩)) := by rw [ha]; exact (putSel_off rfl).trans rfl
        replace ha := Aside0.mk ha
        have BK153 := Aside0.mk Q_BK153
        have BK154 := Aside0.mk Q_BK154
        have BK168 := Aside0.mk Q_BK168
        have HB := Aside0.mk Q_HB
        have hc0_ : w'.cell? ⟨gb153, 0, none⟩ = some (.float .f64 b_a0_0) := (blk_cell BK153.out 0).trans rfl
        have hc1_ : w'.cell? ⟨gb153, 1, none⟩ = some (.float .f64 b_a0_1) := (blk_cell BK153.out 1).trans rfl
        have hc2_ : w'.cell? ⟨gb153, 2, none⟩ = some (.float .f64 b_a0_2) := (blk_cell BK153.out 2).trans rfl
        have hc3_ : w'.cell? ⟨gb153, 3, none⟩ = some (.float .f64 b_a0_3) := (blk_cell BK153.out 3).trans rfl
        refine value_ (w1 := w') (v := .agg #[.float .f64 b_a0_0, .float .f64 b_a0_1, .float .f64 b_a0_2, .float .f64 b_a0_3]) (by rfl) rfl ?_ ?_
        · go_simp
          (try simp only [i64_w])
          try rfl
        refine hK.out _ _ ⟨b_t169, b_t170, b_t171, b_t172, b_t173, b_t174, b_t175, b_t176, b_t177, b_t178, b_t179, b_t180, b_t181, gb182, m1_, m3_, m6_, m7_, (by rw [ha.out]; exact putSel_upk 0 hb_ rfl rfl rfl), Q_BK153, Q_BK154, Q_BK168, Q_HB, fun h0_ => absurd ((hoff 1 (by kernel_rfl)).symm.trans h0_) (by decide), fun h0_ => absurd ((hoff 1 (by kernel_rfl)).symm.trans h0_) (by decide), fun h0_ => absurd ((hoff 1 (by kernel_rfl)).symm.trans h0_) (by decide), fun h0_ => absurd ((hoff 1 (by kernel_rfl)).symm.trans h0_) (by decide), fun h0_ => absurd ((hoff 3 (by kernel_rfl)).symm.trans h0_) (by decide), fun h0_ => absurd ((hoff 3 (by kernel_rfl)).symm.trans h0_) (by decide), fun h0_ => absurd ((hoff 3 (by kernel_rfl)).symm.trans h0_) (by decide), fun h0_ => absurd ((hoff 3 (by kernel_rfl)).symm.trans h0_) (by decide), fun h0_ => absurd ((hoff 3 (by kernel_rfl)).symm.trans h0_) (by decide), fun h0_ => absurd ((hoff 6 (by kernel_rfl)).symm.trans h0_) (by decide), fun h0_ => absurd ((hoff 6 (by kernel_rfl)).symm.trans h0_) (by decide), fun h0_ => absurd ((hoff 6 (by kernel_rfl)).symm.trans h0_) (by decide), fun h0_ => absurd ((hoff 6 (by kernel_rfl)).symm.trans h0_) (by decide), Q_BK182, Q_GW182, Q_GE182, Q_NB153_182, Q_NB182_153, Q_NB154_182, Q_NB182_154, Q_NB168_182, Q_NB182_168, fun h0_ => absurd ((hoff 8 (by kernel_rfl)).symm.trans h0_) (by decide), fun h0_ => absurd ((hoff 1 (by kernel_rfl)).symm.trans h0_) (by decide), fun h0_ => absurd ((hoff 3 (by kernel_rfl)).symm.trans h0_) (by decide), fun h0_ => absurd ((hoff 6 (by kernel_rfl)).symm.trans h0_) (by decide), Q_X7_⟩
      refine steps_cons ?_ ?_
      · rintro b a w' ⟨b_t169, b_t170, b_t171, b_t172, b_t173, b_t174, b_t175, b_t176, b_t177, b_t178, b_t179, b_t180, b_t181, gb182, m1_, m3_, m6_, m7_, ha, Q_BK153, Q_BK154, Q_BK168, Q_HB, Q_HF_t169, Q_HF_t170, Q_HF_t171, Q_HF_t172, Q_HF_t173, Q_HF_t174, Q_HF_t175, Q_HF_t176, Q_HF_t177, Q_HF_t178, Q_HF_t179, Q_HF_t180, Q_HF_t181, Q_BK182, Q_GW182, Q_GE182, Q_NB153_182, Q_NB182_153, Q_NB154_182, Q_NB182_154, Q_NB168_182, Q_NB182_168, Q_BK182_e8, Q_X1_, Q_X3_, Q_X6_, Q_X7_⟩ hb_ hon hoff
        refine ⟨_, rfl, fun K hK => ?_⟩
        have e18 : a.tmps[18]? = some (.agg #[.float .f64 b_a0_0, .float .f64 b_a0_1, .float .f64 b_a0_2, .float .f64 b_a0_3]) := by rw [ha]; exact putSel_on (e := (0, 18, .agg #[.float .f64 b_a0_0, .float .f64 b_a0_1, .float .f64 b_a0_2, .float .f64 b_a0_3])) 0 rfl rfl (hon 0 (by kernel_rfl)) rfl
        replace ha := Aside0.mk ha
        have BK153 := Aside0.mk Q_BK153
        have BK154 := Aside0.mk Q_BK154
        have BK168 := Aside0.mk Q_BK168
        have HB := Aside0.mk Q_HB
        refine goes_ Try.func19 (by kernel_rfl) rfl #[.agg #[.float .f64 b_a0_0, .float .f64 b_a0_1, .float .f64 b_a0_2, .float .f64 b_a0_3]] (by rfl) rfl rfl (by first | (simp only [List.map_toArray, List.map_cons, List.map_nil, Act.eval, Array.getD_eq_getD_getElem?, Option.getD_some, e18]; done) | (simp only [List.map_toArray, List.map_cons, List.map_nil, Act.eval, Array.getD_eq_getD_getElem?, Option.getD_some, e18]; rfl)) ?_
        with_reducible refine (laws_toMotion.calls b_a0_0 a0_0 b_a0_1 a0_1 b_a0_2 a0_2 b_a0_3 a0_3 t169 t170 t171 t172 _ ?side1 ?side2 ?side3 ?side4 A8.out).mono ?_
        (case side1 => exact hF_a0_0)
        (case side2 => exact hF_a0_1)
        (case side3 => exact hF_a0_2)
        (case side4 => exact hF_a0_3)
        rintro e w26 ⟨b_t169, b_t170, b_t171, b_t172, rfl, hF_t169, hF_t170, hF_t171, hF_t172, hb⟩
        refine ⟨_, rfl, ?_⟩
        have n0_ := Aside0.mk (blk_below (g := gb153) (o := .cells #[.float .f64 b_a0_0, .float .f64 b_a0_1, .float .f64 b_a0_2, .float .f64 b_a0_3] 30 (0, 0)) (by (with_reducible repeat (first | refine blk_drewN ?_ _ | refine blk_drew ?_ | refine blk_alloc ?_ _)); exact BK153.out) hb)
        have n1_ := Aside0.mk (blk_below (g := gb154) (o := .cells #[.float .f64 b_a1_0, .float .f64 b_a1_1, .float .f64 b_a1_2, .float .f64 b_a1_3, .float .f64 b_a1_4] 50 (0, 0)) (by (with_reducible repeat (first | refine blk_drewN ?_ _ | refine blk_drew ?_ | refine blk_alloc ?_ _)); exact BK154.out) hb)
        have n2_ := Aside0.mk (blk_below (g := gb168) (o := .cells #[.float .f64 b_t164, .float .f64 b_t165, .float .f64 b_t166, .float .f64 b_t167] 32 (0, 0)) (by (with_reducible repeat (first | refine blk_drewN ?_ _ | refine blk_drew ?_ | refine blk_alloc ?_ _)); exact BK168.out) hb)
        have n3_ := Aside0.mk (below_step (by repeat (first | (with_reducible first | exact HB.out | apply below_alloc | apply pw_below_drewN | apply below_drew1 | refine below_set ?_ GE153.out | refine below_set ?_ GE154.out | refine below_set ?_ GE168.out) | exact HB.out)) hb)
        have z_BK182 := fun (h0_ : b 7 = true) (h1_ : b 8 = false) => (show w26.heap[gb182]? = some (.cells #[.float .f64 0, .float .f64 0, .float .f64 0, .float .f64 0] 32 (0, 0)) from by first | exact (blk_below (g := gb182) (o := .cells #[.float .f64 0, .float .f64 0, .float .f64 0, .float .f64 0] 32 (0, 0)) (by (with_reducible repeat (first | refine blk_drewN ?_ _ | refine blk_drew ?_ | refine blk_alloc ?_ _)); exact (Q_BK182 h0_ h1_)) hb))
        clear BK153
        clear BK154
        clear BK168
        clear HB
        have BK153 := n0_
        have BK154 := n1_
        have BK168 := n2_
        have HB := n3_
        clear n0_ n1_ n2_ n3_
        (try clear hb)
        (try clear hb2)
        (try clear hk)
        (try clear hi)
        refine hK.out _ _ ⟨b_t169, b_t170, b_t171, b_t172, b_t173, b_t174, b_t175, b_t176, b_t177, b_t178, b_t179, b_t180, b_t181, gb182, (.agg #[.float .f64 b_t169, .float .f64 b_t170, .float .f64 b_t171, .float .f64 b_t172]), m3_, m6_, m7_, (by rw [ha.out]; exact putSel_upk 1 hb_ rfl rfl rfl), (by (with_reducible repeat (first | refine blk_drewN ?_ _ | refine blk_drew ?_ | refine blk_alloc ?_ _)); exact BK153.out), (by (with_reducible repeat (first | refine blk_drewN ?_ _ | refine blk_drew ?_ | refine blk_alloc ?_ _)); exact BK154.out), (by (with_reducible repeat (first | refine blk_drewN ?_ _ | refine blk_drew ?_ | refine blk_alloc ?_ _)); exact BK168.out), (by repeat (first | (with_reducible first | exact HB.out | apply below_alloc | apply pw_below_drewN | apply below_drew1 | refine below_set ?_ GE153.out | refine below_set ?_ GE154.out | refine below_set ?_ GE168.out) | exact HB.out)), fun _ => hF_t169, fun _ => hF_t170, fun _ => hF_t171, fun _ => hF_t172, fun h0_ => absurd ((hoff 3 (by kernel_rfl)).symm.trans h0_) (by decide), fun h0_ => absurd ((hoff 3 (by kernel_rfl)).symm.trans h0_) (by decide), fun h0_ => absurd ((hoff 3 (by kernel_rfl)).symm.trans h0_) (by decide), fun h0_ => absurd ((hoff 3 (by kernel_rfl)).symm.trans h0_) (by decide), fun h0_ => absurd ((hoff 3 (by kernel_rfl)).symm.trans h0_) (by decide), fun h0_ => absurd ((hoff 6 (by kernel_rfl)).symm.trans h0_) (by decide), fun h0_ => absurd ((hoff 6 (by kernel_rfl)).symm.trans h0_) (by decide), fun h0_ => absurd ((hoff 6 (by kernel_rfl)).symm.trans h0_) (by decide), fun h0_ => absurd ((hoff 6 (by kernel_rfl)).symm.trans h0_) (by decide), z_BK182, Q_GW182, Q_GE182, Q_NB153_182, Q_NB182_153, Q_NB154_182, Q_NB182_154, Q_NB168_182, Q_NB182_168, fun h0_ => absurd ((hoff 8 (by kernel_rfl)).symm.trans h0_) (by decide), fun _ => rfl, fun h0_ => absurd ((hoff 3 (by kernel_rfl)).symm.trans h0_) (by decide), fun h0_ => absurd ((hoff 6 (by kernel_rfl)).symm.trans h0_) (by decide), Q_X7_⟩
      refine steps_cons ?_ ?_
      · rintro b a w' ⟨b_t169, b_t170, b_t171, b_t172, b_t173, b_t174, b_t175, b_t176, b_t177, b_t178, b_t179, b_t180, b_t181, gb182, m1_, m3_, m6_, m7_, ha, Q_BK153, Q_BK154, Q_BK168, Q_HB, Q_HF_t169, Q_HF_t170, Q_HF_t171, Q_HF_t172, Q_HF_t173, Q_HF_t174, Q_HF_t175, Q_HF_t176, Q_HF_t177, Q_HF_t178, Q_HF_t179, Q_HF_t180, Q_HF_t181, Q_BK182, Q_GW182, Q_GE182, Q_NB153_182, Q_NB182_153, Q_NB154_182, Q_NB182_154, Q_NB168_182, Q_NB182_168, Q_BK182_e8, Q_X1_, Q_X3_, Q_X6_, Q_X7_⟩ hb_ hon hoff
        refine ⟨_, rfl, fun K hK => ?_⟩
        have e5 : a.tmps[5]? = some (.pointer (some ⟨gb154, 0, none⟩)) := by rw [ha]; exact (putSel_off rfl).trans rfl
        replace ha := Aside0.mk ha
        have BK153 := Aside0.mk Q_BK153
        have BK154 := Aside0.mk Q_BK154
        have BK168 := Aside0.mk Q_BK168
        have HB := Aside0.mk Q_HB
        have hc0_ : w'.cell? ⟨gb154, 0, none⟩ = some (.float .f64 b_a1_0) := (blk_cell BK154.out 0).trans rfl
        have hc1_ : w'.cell? ⟨gb154, 1, none⟩ = some (.float .f64 b_a1_1) := (blk_cell BK154.out 1).trans rfl
        have hc2_ : w'.cell? ⟨gb154, 2, none⟩ = some (.float .f64 b_a1_2) := (blk_cell BK154.out 2).trans rfl
        have hc3_ : w'.cell? ⟨gb154, 3, none⟩ = some (.float .f64 b_a1_3) := (blk_cell BK154.out 3).trans rfl
        have hc4_ : w'.cell? ⟨gb154, 4, none⟩ = some (.float .f64 b_a1_4) := (blk_cell BK154.out 4).trans rfl
        refine value_ (w1 := w') (v := .agg #[.float .f64 b_a1_0, .float .f64 b_a1_1, .float .f64 b_a1_2, .float .f64 b_a1_3, .float .f64 b_a1_4]) (by rfl) rfl ?_ ?_
        · go_simp
          (try simp only [i64_w])
          try rfl
        refine hK.out _ _ ⟨b_t169, b_t170, b_t171, b_t172, b_t173, b_t174, b_t175, b_t176, b_t177, b_t178, b_t179, b_t180, b_t181, gb182, m1_, m3_, m6_, m7_, (by rw [ha.out]; exact putSel_upk 2 hb_ rfl rfl rfl), Q_BK153, Q_BK154, Q_BK168, Q_HB, Q_HF_t169, Q_HF_t170, Q_HF_t171, Q_HF_t172, fun h0_ => absurd ((hoff 3 (by kernel_rfl)).symm.trans h0_) (by decide), fun h0_ => absurd ((hoff 3 (by kernel_rfl)).symm.trans h0_) (by decide), fun h0_ => absurd ((hoff 3 (by kernel_rfl)).symm.trans h0_) (by decide), fun h0_ => absurd ((hoff 3 (by kernel_rfl)).symm.trans h0_) (by decide), fun h0_ => absurd ((hoff 3 (by kernel_rfl)).symm.trans h0_) (by decide), fun h0_ => absurd ((hoff 6 (by kernel_rfl)).symm.trans h0_) (by decide), fun h0_ => absurd ((hoff 6 (by kernel_rfl)).symm.trans h0_) (by decide), fun h0_ => absurd ((hoff 6 (by kernel_rfl)).symm.trans h0_) (by decide), fun h0_ => absurd ((hoff 6 (by kernel_rfl)).symm.trans h0_) (by decide), Q_BK182, Q_GW182, Q_GE182, Q_NB153_182, Q_NB182_153, Q_NB154_182, Q_NB182_154, Q_NB168_182, Q_NB182_168, fun h0_ => absurd ((hoff 8 (by kernel_rfl)).symm.trans h0_) (by decide), Q_X1_, fun h0_ => absurd ((hoff 3 (by kernel_rfl)).symm.trans h0_) (by decide), fun h0_ => absurd ((hoff 6 (by kernel_rfl)).symm.trans h0_) (by decide), Q_X7_⟩
      refine steps_cons ?_ ?_
      · rintro b a w' ⟨b_t169, b_t170, b_t171, b_t172, b_t173, b_t174, b_t175, b_t176, b_t177, b_t178, b_t179, b_t180, b_t181, gb182, m1_, m3_, m6_, m7_, ha, Q_BK153, Q_BK154, Q_BK168, Q_HB, Q_HF_t169, Q_HF_t170, Q_HF_t171, Q_HF_t172, Q_HF_t173, Q_HF_t174, Q_HF_t175, Q_HF_t176, Q_HF_t177, Q_HF_t178, Q_HF_t179, Q_HF_t180, Q_HF_t181, Q_BK182, Q_GW182, Q_GE182, Q_NB153_182, Q_NB182_153, Q_NB154_182, Q_NB182_154, Q_NB168_182, Q_NB182_168, Q_BK182_e8, Q_X1_, Q_X3_, Q_X6_, Q_X7_⟩ hb_ hon hoff
        refine ⟨_, rfl, fun K hK => ?_⟩
        have e20 : a.tmps[20]? = some (.agg #[.float .f64 b_a1_0, .float .f64 b_a1_1, .float .f64 b_a1_2, .float .f64 b_a1_3, .float .f64 b_a1_4]) := by rw [ha]; exact putSel_on (e := (2, 20, .agg #[.float .f64 b_a1_0, .float .f64 b_a1_1, .float .f64 b_a1_2, .float .f64 b_a1_3, .float .f64 b_a1_4])) 2 rfl rfl (hon 2 (by kernel_rfl)) rfl
        replace ha := Aside0.mk ha
        have BK153 := Aside0.mk Q_BK153
        have BK154 := Aside0.mk Q_BK154
        have BK168 := Aside0.mk Q_BK168
        have HB := Aside0.mk Q_HB
        have HF_t169 := Aside0.mk (Q_HF_t169 (hon 1 (by kernel_rfl)))
        have HF_t170 := Aside0.mk (Q_HF_t170 (hon 1 (by kernel_rfl)))
        have HF_t171 := Aside0.mk (Q_HF_t171 (hon 1 (by kernel_rfl)))
        have HF_t172 := Aside0.mk (Q_HF_t172 (hon 1 (by kernel_rfl)))
        have hF_t169 := HF_t169.out
        have hF_t170 := HF_t170.out
        have hF_t171 := HF_t171.out
        have hF_t172 := HF_t172.out
        refine goes_ Try.func37 (by kernel_rfl) rfl #[.agg #[.float .f64 b_a1_0, .float .f64 b_a1_1, .float .f64 b_a1_2, .float .f64 b_a1_3, .float .f64 b_a1_4]] (by rfl) rfl rfl (by first | (simp only [List.map_toArray, List.map_cons, List.map_nil, Act.eval, Array.getD_eq_getD_getElem?, Option.getD_some, e20]; done) | (simp only [List.map_toArray, List.map_cons, List.map_nil, Act.eval, Array.getD_eq_getD_getElem?, Option.getD_some, e20]; rfl)) ?_
        with_reducible refine (laws_toForces.calls b_a1_0 a1_0 b_a1_1 a1_1 b_a1_2 a1_2 b_a1_3 a1_3 b_a1_4 a1_4 t173 t174 t175 t176 t177 _ ?side1 ?side2 ?side3 ?side4 ?side5 A9.out).mono ?_
        (case side1 => exact hF_a1_0)
        (case side2 => exact hF_a1_1)
        (case side3 => exact hF_a1_2)
        (case side4 => exact hF_a1_3)
        (case side5 => exact hF_a1_4)
        rintro e w28 ⟨b_t173, b_t174, b_t175, b_t176, b_t177, rfl, hF_t173, hF_t174, hF_t175, hF_t176, hF_t177, hb⟩
        refine ⟨_, rfl, ?_⟩
        have n0_ := Aside0.mk (blk_below (g := gb153) (o := .cells #[.float .f64 b_a0_0, .float .f64 b_a0_1, .float .f64 b_a0_2, .float .f64 b_a0_3] 30 (0, 0)) (by (with_reducible repeat (first | refine blk_drewN ?_ _ | refine blk_drew ?_ | refine blk_alloc ?_ _)); exact BK153.out) hb)
        have n1_ := Aside0.mk (blk_below (g := gb154) (o := .cells #[.float .f64 b_a1_0, .float .f64 b_a1_1, .float .f64 b_a1_2, .float .f64 b_a1_3, .float .f64 b_a1_4] 50 (0, 0)) (by (with_reducible repeat (first | refine blk_drewN ?_ _ | refine blk_drew ?_ | refine blk_alloc ?_ _)); exact BK154.out) hb)
        have n2_ := Aside0.mk (blk_below (g := gb168) (o := .cells #[.float .f64 b_t164, .float .f64 b_t165, .float .f64 b_t166, .float .f64 b_t167] 32 (0, 0)) (by (with_reducible repeat (first | refine blk_drewN ?_ _ | refine blk_drew ?_ | refine blk_alloc ?_ _)); exact BK168.out) hb)
        have n3_ := Aside0.mk (below_step (by repeat (first | (with_reducible first | exact HB.out | apply below_alloc | apply pw_below_drewN | apply below_drew1 | refine below_set ?_ GE153.out | refine below_set ?_ GE154.out | refine below_set ?_ GE168.out) | exact HB.out)) hb)
        have z_BK182 := fun (h0_ : b 7 = true) (h1_ : b 8 = false) => (show w28.heap[gb182]? = some (.cells #[.float .f64 0, .float .f64 0, .float .f64 0, .float .f64 0] 32 (0, 0)) from by first | exact (blk_below (g := gb182) (o := .cells #[.float .f64 0, .float .f64 0, .float .f64 0, .float .f64 0] 32 (0, 0)) (by (with_reducible repeat (first | refine blk_drewN ?_ _ | refine blk_drew ?_ | refine blk_alloc ?_ _)); exact (Q_BK182 h0_ h1_)) hb))
        clear BK153
        clear BK154
        clear BK168
        clear HB
        have BK153 := n0_
        have BK154 := n1_
        have BK168 := n2_
        have HB := n3_
        clear n0_ n1_ n2_ n3_
        (try clear hb)
        (try clear hb2)
        (try clear hk)
        (try clear hi)
        refine hK.out _ _ ⟨b_t169, b_t170, b_t171, b_t172, b_t173, b_t174, b_t175, b_t176, b_t177, b_t178, b_t179, b_t180, b_t181, gb182, m1_, (.agg #[.float .f64 b_t173, .float .f64 b_t174, .float .f64 b_t175, .float .f64 b_t176, .float .f64 b_t177]), m6_, m7_, (by rw [ha.out]; exact putSel_upk 3 hb_ rfl rfl rfl), (by (with_reducible repeat (first | refine blk_drewN ?_ _ | refine blk_drew ?_ | refine blk_alloc ?_ _)); exact BK153.out), (by (with_reducible repeat (first | refine blk_drewN ?_ _ | refine blk_drew ?_ | refine blk_alloc ?_ _)); exact BK154.out), (by (with_reducible repeat (first | refine blk_drewN ?_ _ | refine blk_drew ?_ | refine blk_alloc ?_ _)); exact BK168.out), (by repeat (first | (with_reducible first | exact HB.out | apply below_alloc | apply pw_below_drewN | apply below_drew1 | refine below_set ?_ GE153.out | refine below_set ?_ GE154.out | refine below_set ?_ GE168.out) | exact HB.out)), fun _ => hF_t169, fun _ => hF_t170, fun _ => hF_t171, fun _ => hF_t172, fun _ => hF_t173, fun _ => hF_t174, fun _ => hF_t175, fun _ => hF_t176, fun _ => hF_t177, fun h0_ => absurd ((hoff 6 (by kernel_rfl)).symm.trans h0_) (by decide), fun h0_ => absurd ((hoff 6 (by kernel_rfl)).symm.trans h0_) (by decide), fun h0_ => absurd ((hoff 6 (by kernel_rfl)).symm.trans h0_) (by decide), fun h0_ => absurd ((hoff 6 (by kernel_rfl)).symm.trans h0_) (by decide), z_BK182, Q_GW182, Q_GE182, Q_NB153_182, Q_NB182_153, Q_NB154_182, Q_NB182_154, Q_NB168_182, Q_NB182_168, fun h0_ => absurd ((hoff 8 (by kernel_rfl)).symm.trans h0_) (by decide), Q_X1_, fun _ => rfl, fun h0_ => absurd ((hoff 6 (by kernel_rfl)).symm.trans h0_) (by decide), Q_X7_⟩
      refine steps_cons ?_ ?_
      · rintro b a w' ⟨b_t169, b_t170, b_t171, b_t172, b_t173, b_t174, b_t175, b_t176, b_t177, b_t178, b_t179, b_t180, b_t181, gb182, m1_, m3_, m6_, m7_, ha, Q_BK153, Q_BK154, Q_BK168, Q_HB, Q_HF_t169, Q_HF_t170, Q_HF_t171, Q_HF_t172, Q_HF_t173, Q_HF_t174, Q_HF_t175, Q_HF_t176, Q_HF_t177, Q_HF_t178, Q_HF_t179, Q_HF_t180, Q_HF_t181, Q_BK182, Q_GW182, Q_GE182, Q_NB153_182, Q_NB182_153, Q_NB154_182, Q_NB182_154, Q_NB168_182, Q_NB182_168, Q_BK182_e8, Q_X1_, Q_X3_, Q_X6_, Q_X7_⟩ hb_ hon hoff
        refine ⟨_, rfl, fun K hK => ?_⟩
        have e19 : a.tmps[19]? = some (m1_) := by rw [ha]; exact putSel_on (e := (1, 19, m1_)) 1 rfl rfl (hon 1 (by kernel_rfl)) rfl
        rw [Q_X1_ (hon 1 (by kernel_rfl))] at e19
        have e21 : a.tmps[21]? = some (m3_) := by rw [ha]; exact putSel_on (e := (3, 21, m3_)) 3 rfl rfl (hon 3 (by kernel_rfl)) rfl
        rw [Q_X3_ (hon 3 (by kernel_rfl))] at e21
        have e22 : a.tmps[22]? = some (.float .f64 b_a2) := by rw [ha]; exact (putSel_off rfl).trans rfl
        have e23 : a.tmps[23]? = some (.float .f64 b_a3) := by rw [ha]; exact (putSel_off rfl).trans rfl
        replace ha := Aside0.mk ha
        have BK153 := Aside0.mk Q_BK153
        have BK154 := Aside0.mk Q_BK154
        have BK168 := Aside0.mk Q_BK168
        have HB := Aside0.mk Q_HB
        have HF_t169 := Aside0.mk (Q_HF_t169 (hon 1 (by kernel_rfl)))
        have HF_t170 := Aside0.mk (Q_HF_t170 (hon 1 (by kernel_rfl)))
        have HF_t171 := Aside0.mk (Q_HF_t171 (hon 1 (by kernel_rfl)))
        have HF_t172 := Aside0.mk (Q_HF_t172 (hon 1 (by kernel_rfl)))
        have HF_t173 := Aside0.mk (Q_HF_t173 (hon 3 (by kernel_rfl)))
        have HF_t174 := Aside0.mk (Q_HF_t174 (hon 3 (by kernel_rfl)))
        have HF_t175 := Aside0.mk (Q_HF_t175 (hon 3 (by kernel_rfl)))
        have HF_t176 := Aside0.mk (Q_HF_t176 (hon 3 (by kernel_rfl)))
        have HF_t177 := Aside0.mk (Q_HF_t177 (hon 3 (by kernel_rfl)))
        have hF_t169 := HF_t169.out
        have hF_t170 := HF_t170.out
        have hF_t171 := HF_t171.out
        have hF_t172 := HF_t172.out
        have hF_t173 := HF_t173.out
        have hF_t174 := HF_t174.out
        have hF_t175 := HF_t175.out
        have hF_t176 := HF_t176.out
        have hF_t177 := HF_t177.out
        refine goes_ Try.func38 (by kernel_rfl) rfl #[.agg #[.float .f64 b_t169, .float .f64 b_t170, .float .f64 b_t171, .float .f64 b_t172], .agg #[.float .f64 b_t173, .float .f64 b_t174, .float .f64 b_t175, .float .f64 b_t176, .float .f64 b_t177], .float .f64 b_a2, .float .f64 b_a3] (by rfl) rfl rfl (by first | (simp only [List.map_toArray, List.map_cons, List.map_nil, Act.eval, Array.getD_eq_getD_getElem?, Option.getD_some, e19, e21, e22, e23]; done) | (simp only [List.map_toArray, List.map_cons, List.map_nil, Act.eval, Array.getD_eq_getD_getElem?, Option.getD_some, e19, e21, e22, e23]; rfl)) ?_
        with_reducible refine (impl_StepOnce.calls b_t169 t169 b_t170 t170 b_t171 t171 b_t172 t172 b_t173 t173 b_t174 t174 b_t175 t175 b_t176 t176 b_t177 t177 b_a2 a2 b_a3 a3 t178 t179 t180 t181 _ ?side1 ?side2 ?side3 ?side4 ?side5 ?side6 ?side7 ?side8 ?side9 ?side10 ?side11 A10.out).mono ?_
        (case side1 => exact hF_t169)
        (case side2 => exact hF_t170)
        (case side3 => exact hF_t171)
        (case side4 => exact hF_t172)
        (case side5 => exact hF_t173)
        (case side6 => exact hF_t174)
        (case side7 => exact hF_t175)
        (case side8 => exact hF_t176)
        (case side9 => exact hF_t177)
        (case side10 => exact hF_a2)
        (case side11 => exact hF_a3)
        rintro e w29 ⟨b_t178, b_t179, b_t180, b_t181, rfl, hF_t178, hF_t179, hF_t180, hF_t181, hb⟩
        refine ⟨_, rfl, ?_⟩
        have n0_ := Aside0.mk (blk_below (g := gb153) (o := .cells #[.float .f64 b_a0_0, .float .f64 b_a0_1, .float .f64 b_a0_2, .float .f64 b_a0_3] 30 (0, 0)) (by (with_reducible repeat (first | refine blk_drewN ?_ _ | refine blk_drew ?_ | refine blk_alloc ?_ _)); exact BK153.out) hb)
        have n1_ := Aside0.mk (blk_below (g := gb154) (o := .cells #[.float .f64 b_a1_0, .float .f64 b_a1_1, .float .f64 b_a1_2, .float .f64 b_a1_3, .float .f64 b_a1_4] 50 (0, 0)) (by (with_reducible repeat (first | refine blk_drewN ?_ _ | refine blk_drew ?_ | refine blk_alloc ?_ _)); exact BK154.out) hb)
        have n2_ := Aside0.mk (blk_below (g := gb168) (o := .cells #[.float .f64 b_t164, .float .f64 b_t165, .float .f64 b_t166, .float .f64 b_t167] 32 (0, 0)) (by (with_reducible repeat (first | refine blk_drewN ?_ _ | refine blk_drew ?_ | refine blk_alloc ?_ _)); exact BK168.out) hb)
        have n3_ := Aside0.mk (below_step (by repeat (first | (with_reducible first | exact HB.out | apply below_alloc | apply pw_below_drewN | apply below_drew1 | refine below_set ?_ GE153.out | refine below_set ?_ GE154.out | refine below_set ?_ GE168.out) | exact HB.out)) hb)
        have z_BK182 := fun (h0_ : b 7 = true) (h1_ : b 8 = false) => (show w29.heap[gb182]? = some (.cells #[.float .f64 0, .float .f64 0, .float .f64 0, .float .f64 0] 32 (0, 0)) from by first | exact (blk_below (g := gb182) (o := .cells #[.float .f64 0, .float .f64 0, .float .f64 0, .float .f64 0] 32 (0, 0)) (by (with_reducible repeat (first | refine blk_drewN ?_ _ | refine blk_drew ?_ | refine blk_alloc ?_ _)); exact (Q_BK182 h0_ h1_)) hb))
        clear BK153
        clear BK154
        clear BK168
        clear HB
        have BK153 := n0_
        have BK154 := n1_
        have BK168 := n2_
        have HB := n3_
        clear n0_ n1_ n2_ n3_
        (try clear hb)
        (try clear hb2)
        (try clear hk)
        (try clear hi)
        refine hK.out _ _ ⟨b_t169, b_t170, b_t171, b_t172, b_t173, b_t174, b_t175, b_t176, b_t177, b_t178, b_t179, b_t180, b_t181, gb182, m1_, m3_, (.agg #[.float .f64 b_t178, .float .f64 b_t179, .float .f64 b_t180, .float .f64 b_t181]), m7_, (by rw [ha.out]; exact putSel_upk 4 hb_ rfl rfl rfl), (by (with_reducible repeat (first | refine blk_drewN ?_ _ | refine blk_drew ?_ | refine blk_alloc ?_ _)); exact BK153.out), (by (with_reducible repeat (first | refine blk_drewN ?_ _ | refine blk_drew ?_ | refine blk_alloc ?_ _)); exact BK154.out), (by (with_reducible repeat (first | refine blk_drewN ?_ _ | refine blk_drew ?_ | refine blk_alloc ?_ _)); exact BK168.out), (by repeat (first | (with_reducible first | exact HB.out | apply below_alloc | apply pw_below_drewN | apply below_drew1 | refine below_set ?_ GE153.out | refine below_set ?_ GE154.out | refine below_set ?_ GE168.out) | exact HB.out)), fun _ => hF_t169, fun _ => hF_t170, fun _ => hF_t171, fun _ => hF_t172, fun _ => hF_t173, fun _ => hF_t174, fun _ => hF_t175, fun _ => hF_t176, fun _ => hF_t177, fun _ => hF_t178, fun _ => hF_t179, fun _ => hF_t180, fun _ => hF_t181, z_BK182, Q_GW182, Q_GE182, Q_NB153_182, Q_NB182_153, Q_NB154_182, Q_NB182_154, Q_NB168_182, Q_NB182_168, fun h0_ => absurd ((hoff 8 (by kernel_rfl)).symm.trans h0_) (by decide), Q_X1_, Q_X3_, fun _ => rfl, Q_X7_⟩
      refine steps_cons ?_ ?_
      · rintro b a w' ⟨b_t169, b_t170, b_t171, b_t172, b_t173, b_t174, b_t175, b_t176, b_t177, b_t178, b_t179, b_t180, b_t181, gb182, m1_, m3_, m6_, m7_, ha, Q_BK153, Q_BK154, Q_BK168, Q_HB, Q_HF_t169, Q_HF_t170, Q_HF_t171, Q_HF_t172, Q_HF_t173, Q_HF_t174, Q_HF_t175, Q_HF_t176, Q_HF_t177, Q_HF_t178, Q_HF_t179, Q_HF_t180, Q_HF_t181, Q_BK182, Q_GW182, Q_GE182, Q_NB153_182, Q_NB182_153, Q_NB154_182, Q_NB182_154, Q_NB168_182, Q_NB182_168, Q_BK182_e8, Q_X1_, Q_X3_, Q_X6_, Q_X7_⟩ hb_ hon hoff
        refine ⟨_, rfl, fun K hK => ?_⟩
        replace ha := Aside0.mk ha
        have BK153 := Aside0.mk Q_BK153
        have BK154 := Aside0.mk Q_BK154
        have BK168 := Aside0.mk Q_BK168
        have HB := Aside0.mk Q_HB
        refine box_step ?hg (N := 10) ?hd (cs := #[.float .f64 0, .float .f64 0, .float .f64 0, .float .f64 0]) (t := 32) ?hr ?_; (case hd => rfl); (case hg => rfl); (case hr => first | (go_simp; done) | (go_simp; rfl))
        intro gb182 hg w26 hbox hb
        have n0_ := Aside0.mk (blk_below (g := gb153) (o := .cells #[.float .f64 b_a0_0, .float .f64 b_a0_1, .float .f64 b_a0_2, .float .f64 b_a0_3] 30 (0, 0)) (by (with_reducible repeat (first | refine blk_drewN ?_ _ | refine blk_drew ?_ | refine blk_alloc ?_ _)); exact BK153.out) hb)
        have n1_ := Aside0.mk (blk_below (g := gb154) (o := .cells #[.float .f64 b_a1_0, .float .f64 b_a1_1, .float .f64 b_a1_2, .float .f64 b_a1_3, .float .f64 b_a1_4] 50 (0, 0)) (by (with_reducible repeat (first | refine blk_drewN ?_ _ | refine blk_drew ?_ | refine blk_alloc ?_ _)); exact BK154.out) hb)
        have n2_ := Aside0.mk (blk_below (g := gb168) (o := .cells #[.float .f64 b_t164, .float .f64 b_t165, .float .f64 b_t166, .float .f64 b_t167] 32 (0, 0)) (by (with_reducible repeat (first | refine blk_drewN ?_ _ | refine blk_drew ?_ | refine blk_alloc ?_ _)); exact BK168.out) hb)
        have n3_ := Aside0.mk (below_step (by repeat (first | (with_reducible first | exact HB.out | apply below_alloc | apply pw_below_drewN | apply below_drew1 | refine below_set ?_ GE153.out | refine below_set ?_ GE154.out | refine below_set ?_ GE168.out) | exact HB.out)) hb)
        have n4_ := Aside0.mk (hbox)
        have n5_ := Aside0.mk ((by rw [hg]; exact (below_size (by repeat (first | (with_reducible first | exact HB.out | apply below_alloc | apply pw_below_drewN | apply below_drew1 | refine below_set ?_ GE153.out | refine below_set ?_ GE154.out | refine below_set ?_ GE168.out) | exact HB.out))) : w.heap.size ≤ gb182))
        have n6_ := Aside0.mk ((by rw [hg]; exact (below_size (by repeat (first | (with_reducible first | exact HB.out | apply below_alloc | apply pw_below_drewN | apply below_drew1 | refine below_set ?_ GE153.out | refine below_set ?_ GE154.out | refine below_set ?_ GE168.out) | exact HB.out))) : w.heap.size ≤ gb182))
        have n7_ := Aside0.mk ((by rw [hg]; exact Nat.ne_of_lt (blk_lt (g := gb153) (o := .cells #[.float .f64 b_a0_0, .float .f64 b_a0_1, .float .f64 b_a0_2, .float .f64 b_a0_3] 30 (0, 0)) (by (with_reducible repeat (first | refine blk_drewN ?_ _ | refine blk_drew ?_ | refine blk_alloc ?_ _)); exact BK153.out)) : gb153 ≠ gb182))
        have n8_ := Aside0.mk ((by rw [hg]; exact Nat.ne_of_gt (blk_lt (g := gb153) (o := .cells #[.float .f64 b_a0_0, .float .f64 b_a0_1, .float .f64 b_a0_2, .float .f64 b_a0_3] 30 (0, 0)) (by (with_reducible repeat (first | refine blk_drewN ?_ _ | refine blk_drew ?_ | refine blk_alloc ?_ _)); exact BK153.out)) : gb182 ≠ gb153))
        have n9_ := Aside0.mk ((by rw [hg]; exact Nat.ne_of_lt (blk_lt (g := gb154) (o := .cells #[.float .f64 b_a1_0, .float .f64 b_a1_1, .float .f64 b_a1_2, .float .f64 b_a1_3, .float .f64 b_a1_4] 50 (0, 0)) (by (with_reducible repeat (first | refine blk_drewN ?_ _ | refine blk_drew ?_ | refine blk_alloc ?_ _)); exact BK154.out)) : gb154 ≠ gb182))
        have n10_ := Aside0.mk ((by rw [hg]; exact Nat.ne_of_gt (blk_lt (g := gb154) (o := .cells #[.float .f64 b_a1_0, .float .f64 b_a1_1, .float .f64 b_a1_2, .float .f64 b_a1_3, .float .f64 b_a1_4] 50 (0, 0)) (by (with_reducible repeat (first | refine blk_drewN ?_ _ | refine blk_drew ?_ | refine blk_alloc ?_ _)); exact BK154.out)) : gb182 ≠ gb154))
        have n11_ := Aside0.mk ((by rw [hg]; exact Nat.ne_of_lt (blk_lt (g := gb168) (o := .cells #[.float .f64 b_t164, .float .f64 b_t165, .float .f64 b_t166, .float .f64 b_t167] 32 (0, 0)) (by (with_reducible repeat (first | refine blk_drewN ?_ _ | refine blk_drew ?_ | refine blk_alloc ?_ _)); exact BK168.out)) : gb168 ≠ gb182))
        have n12_ := Aside0.mk ((by rw [hg]; exact Nat.ne_of_gt (blk_lt (g := gb168) (o := .cells #[.float .f64 b_t164, .float .f64 b_t165, .float .f64 b_t166, .float .f64 b_t167] 32 (0, 0)) (by (with_reducible repeat (first | refine blk_drewN ?_ _ | refine blk_drew ?_ | refine blk_alloc ?_ _)); exact BK168.out)) : gb182 ≠ gb168))
        clear BK153
        clear BK154
        clear BK168
        clear HB
        have BK153 := n0_
        have BK154 := n1_
        have BK168 := n2_
        have HB := n3_
        have BK182 := n4_
        have GW182 := n5_
        have GE182 := n6_
        have NB153_182 := n7_
        have NB182_153 := n8_
        have NB154_182 := n9_
        have NB182_154 := n10_
        have NB168_182 := n11_
        have NB182_168 := n12_
        clear n0_ n1_ n2_ n3_ n4_ n5_ n6_ n7_ n8_ n9_ n10_ n11_ n12_
        clear hb hbox hg
        refine hK.out _ _ ⟨b_t169, b_t170, b_t171, b_t172, b_t173, b_t174, b_t175, b_t176, b_t177, b_t178, b_t179, b_t180, b_t181, gb182, m1_, m3_, m6_, (.pointer (some ⟨gb182, 0, none⟩)), (by rw [ha.out]; exact putSel_upk 5 hb_ rfl rfl rfl), (by (with_reducible repeat (first | refine blk_drewN ?_ _ | refine blk_drew ?_ | refine blk_alloc ?_ _)); exact BK153.out), (by (with_reducible repeat (first | refine blk_drewN ?_ _ | refine blk_drew ?_ | refine blk_alloc ?_ _)); exact BK154.out), (by (with_reducible repeat (first | refine blk_drewN ?_ _ | refine blk_drew ?_ | refine blk_alloc ?_ _)); exact BK168.out), (by repeat (first | (with_reducible first | exact HB.out | apply below_alloc | apply pw_below_drewN | apply below_drew1 | refine below_set ?_ GE153.out | refine below_set ?_ GE154.out | refine below_set ?_ GE168.out | refine below_set ?_ GE182.out) | exact HB.out)), Q_HF_t169, Q_HF_t170, Q_HF_t171, Q_HF_t172, Q_HF_t173, Q_HF_t174, Q_HF_t175, Q_HF_t176, Q_HF_t177, Q_HF_t178, Q_HF_t179, Q_HF_t180, Q_HF_t181, fun _ _ => (by (with_reducible repeat (first | refine blk_drewN ?_ _ | refine blk_drew ?_ | refine blk_alloc ?_ _)); exact BK182.out), fun _ => GW182.out, fun _ => GE182.out, fun _ => NB153_182.out, fun _ => NB182_153.out, fun _ => NB154_182.out, fun _ => NB182_154.out, fun _ => NB168_182.out, fun _ => NB182_168.out, fun h0_ => absurd ((hoff 8 (by kernel_rfl)).symm.trans h0_) (by decide), Q_X1_, Q_X3_, Q_X6_, fun _ => rfl⟩
      refine steps_cons ?_ ?_
      · rintro b a w' ⟨b_t169, b_t170, b_t171, b_t172, b_t173, b_t174, b_t175, b_t176, b_t177, b_t178, b_t179, b_t180, b_t181, gb182, m1_, m3_, m6_, m7_, ha, Q_BK153, Q_BK154, Q_BK168, Q_HB, Q_HF_t169, Q_HF_t170, Q_HF_t171, Q_HF_t172, Q_HF_t173, Q_HF_t174, Q_HF_t175, Q_HF_t176, Q_HF_t177, Q_HF_t178, Q_HF_t179, Q_HF_t180, Q_HF_t181, Q_BK182, Q_GW182, Q_GE182, Q_NB153_182, Q_NB182_153, Q_NB154_182, Q_NB182_154, Q_NB168_182, Q_NB182_168, Q_BK182_e8, Q_X1_, Q_X3_, Q_X6_, Q_X7_⟩ hb_ hon hoff
        refine ⟨_, rfl, fun K hK => ?_⟩
        have e10 : a.tmps[10]? = some (m7_) := by rw [ha]; exact putSel_on (e := (7, 10, m7_)) 5 rfl rfl (hon 7 (by kernel_rfl)) rfl
        rw [Q_X7_ (hon 7 (by kernel_rfl))] at e10
        have e24 : a.tmps[24]? = some (m6_) := by rw [ha]; exact putSel_on (e := (6, 24, m6_)) 4 rfl rfl (hon 6 (by kernel_rfl)) rfl
        rw [Q_X6_ (hon 6 (by kernel_rfl))] at e24
        replace ha := Aside0.mk ha
        have BK153 := Aside0.mk Q_BK153
        have BK154 := Aside0.mk Q_BK154
        have BK168 := Aside0.mk Q_BK168
        have HB := Aside0.mk Q_HB
        have HF_t169 := Aside0.mk (Q_HF_t169 (hon 1 (by kernel_rfl)))
        have HF_t170 := Aside0.mk (Q_HF_t170 (hon 1 (by kernel_rfl)))
        have HF_t171 := Aside0.mk (Q_HF_t171 (hon 1 (by kernel_rfl)))
        have HF_t172 := Aside0.mk (Q_HF_t172 (hon 1 (by kernel_rfl)))
        have HF_t173 := Aside0.mk (Q_HF_t173 (hon 3 (by kernel_rfl)))
        have HF_t174 := Aside0.mk (Q_HF_t174 (hon 3 (by kernel_rfl)))
        have HF_t175 := Aside0.mk (Q_HF_t175 (hon 3 (by kernel_rfl)))
        have HF_t176 := Aside0.mk (Q_HF_t176 (hon 3 (by kernel_rfl)))
        have HF_t177 := Aside0.mk (Q_HF_t177 (hon 3 (by kernel_rfl)))
        have HF_t178 := Aside0.mk (Q_HF_t178 (hon 6 (by kernel_rfl)))
        have HF_t179 := Aside0.mk (Q_HF_t179 (hon 6 (by kernel_rfl)))
        have HF_t180 := Aside0.mk (Q_HF_t180 (hon 6 (by kernel_rfl)))
        have HF_t181 := Aside0.mk (Q_HF_t181 (hon 6 (by kernel_rfl)))
        have BK182 := Aside0.mk (Q_BK182 (hon 7 (by kernel_rfl)) hb_)
        have GW182 := Aside0.mk (Q_GW182 (hon 7 (by kernel_rfl)))
        have GE182 := Aside0.mk (Q_GE182 (hon 7 (by kernel_rfl)))
        have NB153_182 := Aside0.mk (Q_NB153_182 (hon 7 (by kernel_rfl)))
        have NB182_153 := Aside0.mk (Q_NB182_153 (hon 7 (by kernel_rfl)))
        have NB154_182 := Aside0.mk (Q_NB154_182 (hon 7 (by kernel_rfl)))
        have NB182_154 := Aside0.mk (Q_NB182_154 (hon 7 (by kernel_rfl)))
        have NB168_182 := Aside0.mk (Q_NB168_182 (hon 7 (by kernel_rfl)))
        have NB182_168 := Aside0.mk (Q_NB182_168 (hon 7 (by kernel_rfl)))
        have hF_t169 := HF_t169.out
        have hF_t170 := HF_t170.out
        have hF_t171 := HF_t171.out
        have hF_t172 := HF_t172.out
        have hF_t173 := HF_t173.out
        have hF_t174 := HF_t174.out
        have hF_t175 := HF_t175.out
        have hF_t176 := HF_t176.out
        have hF_t177 := HF_t177.out
        have hF_t178 := HF_t178.out
        have hF_t179 := HF_t179.out
        have hF_t180 := HF_t180.out
        have hF_t181 := HF_t181.out
        have hs31 : w'.cell? ⟨gb182, 0, none⟩ = some (.float .f64 0) := (blk_cell BK182.out 0).trans rfl
        have hfs31 := blk_frozen BK182.out 0
        have hns31_0 := NB153_182.out
        have hns31_1 := NB154_182.out
        have hns31_2 := NB168_182.out
        have hms31_0 := NB182_153.out
        have hms31_1 := NB182_154.out
        have hms31_2 := NB182_168.out
        have hs32 : w'.cell? ⟨gb182, 1, none⟩ = some (.float .f64 0) := (blk_cell BK182.out 1).trans rfl
        have hfs32 := blk_frozen BK182.out 1
        have hns32_0 := NB153_182.out
        have hns32_1 := NB154_182.out
        have hns32_2 := NB168_182.out
        have hms32_0 := NB182_153.out
        have hms32_1 := NB182_154.out
        have hms32_2 := NB182_168.out
        have hs33 : w'.cell? ⟨gb182, 2, none⟩ = some (.float .f64 0) := (blk_cell BK182.out 2).trans rfl
        have hfs33 := blk_frozen BK182.out 2
        have hns33_0 := NB153_182.out
        have hns33_1 := NB154_182.out
        have hns33_2 := NB168_182.out
        have hms33_0 := NB182_153.out
        have hms33_1 := NB182_154.out
        have hms33_2 := NB182_168.out
        have hs34 : w'.cell? ⟨gb182, 3, none⟩ = some (.float .f64 0) := (blk_cell BK182.out 3).trans rfl
        have hfs34 := blk_frozen BK182.out 3
        have hns34_0 := NB153_182.out
        have hns34_1 := NB154_182.out
        have hns34_2 := NB168_182.out
        have hms34_0 := NB182_153.out
        have hms34_1 := NB182_154.out
        have hms34_2 := NB182_168.out
        refine skip_ (w1 := ?_) (by rfl) rfl ?_ ?_
        rotate_left
        · go_simp
          rfl
        refine hK.out _ _ ⟨b_t169, b_t170, b_t171, b_t172, b_t173, b_t174, b_t175, b_t176, b_t177, b_t178, b_t179, b_t180, b_t181, gb182, m1_, m3_, m6_, m7_, (by rw [ha.out]; exact putSel_none (v := undef) rfl), (by (with_reducible repeat (first | refine blk_drewN ?_ _ | refine blk_drew ?_ | refine blk_alloc ?_ _)); refine blk_far ?_ NB153_182.out _; (with_reducible repeat (first | refine blk_drewN ?_ _ | refine blk_drew ?_ | refine blk_alloc ?_ _)); refine blk_far ?_ NB153_182.out _; (with_reducible repeat (first | refine blk_drewN ?_ _ | refine blk_drew ?_ | refine blk_alloc ?_ _)); refine blk_far ?_ NB153_182.out _; (with_reducible repeat (first | refine blk_drewN ?_ _ | refine blk_drew ?_ | refine blk_alloc ?_ _)); refine blk_far ?_ NB153_182.out _; (with_reducible repeat (first | refine blk_drewN ?_ _ | refine blk_drew ?_ | refine blk_alloc ?_ _)); exact BK153.out), (by (with_reducible repeat (first | refine blk_drewN ?_ _ | refine blk_drew ?_ | refine blk_alloc ?_ _)); refine blk_far ?_ NB154_182.out _; (with_reducible repeat (first | refine blk_drewN ?_ _ | refine blk_drew ?_ | refine blk_alloc ?_ _)); refine blk_far ?_ NB154_182.out _; (with_reducible repeat (first | refine blk_drewN ?_ _ | refine blk_drew ?_ | refine blk_alloc ?_ _)); refine blk_far ?_ NB154_182.out _; (with_reducible repeat (first | refine blk_drewN ?_ _ | refine blk_drew ?_ | refine blk_alloc ?_ _)); refine blk_far ?_ NB154_182.out _; (with_reducible repeat (first | refine blk_drewN ?_ _ | refine blk_drew ?_ | refine blk_alloc ?_ _)); exact BK154.out), (by (with_reducible repeat (first | refine blk_drewN ?_ _ | refine blk_drew ?_ | refine blk_alloc ?_ _)); refine blk_far ?_ NB168_182.out _; (with_reducible repeat (first | refine blk_drewN ?_ _ | refine blk_drew ?_ | refine blk_alloc ?_ _)); refine blk_far ?_ NB168_182.out _; (with_reducible repeat (first | refine blk_drewN ?_ _ | refine blk_drew ?_ | refine blk_alloc ?_ _)); refine blk_far ?_ NB168_182.out _; (with_reducible repeat (first | refine blk_drewN ?_ _ | refine blk_drew ?_ | refine blk_alloc ?_ _)); refine blk_far ?_ NB168_182.out _; (with_reducible repeat (first | refine blk_drewN ?_ _ | refine blk_drew ?_ | refine blk_alloc ?_ _)); exact BK168.out), (by repeat (first | (with_reducible first | exact HB.out | apply below_alloc | apply pw_below_drewN | apply below_drew1 | refine below_set ?_ GE153.out | refine below_set ?_ GE154.out | refine below_set ?_ GE168.out | refine below_set ?_ GE182.out) | exact HB.out)), fun _ => hF_t169, fun _ => hF_t170, fun _ => hF_t171, fun _ => hF_t172, fun _ => hF_t173, fun _ => hF_t174, fun _ => hF_t175, fun _ => hF_t176, fun _ => hF_t177, fun _ => hF_t178, fun _ => hF_t179, fun _ => hF_t180, fun _ => hF_t181, fun _ h1_ => absurd ((up_self b 8).symm.trans h1_) (by decide), fun _ => GW182.out, fun _ => GE182.out, fun _ => NB153_182.out, fun _ => NB182_153.out, fun _ => NB154_182.out, fun _ => NB182_154.out, fun _ => NB168_182.out, fun _ => NB182_168.out, fun _ => (by (with_reducible repeat (first | refine blk_drewN ?_ _ | refine blk_drew ?_ | refine blk_alloc ?_ _)); refine blk_put (cs := #[.float .f64 b_t178, .float .f64 b_t179, .float .f64 b_t180, .float .f64 0]) ?_ 3 _ rfl; (with_reducible repeat (first | refine blk_drewN ?_ _ | refine blk_drew ?_ | refine blk_alloc ?_ _)); refine blk_put (cs := #[.float .f64 b_t178, .float .f64 b_t179, .float .f64 0, .float .f64 0]) ?_ 2 _ rfl; (with_reducible repeat (first | refine blk_drewN ?_ _ | refine blk_drew ?_ | refine blk_alloc ?_ _)); refine blk_put (cs := #[.float .f64 b_t178, .float .f64 0, .float .f64 0, .float .f64 0]) ?_ 1 _ rfl; (with_reducible repeat (first | refine blk_drewN ?_ _ | refine blk_drew ?_ | refine blk_alloc ?_ _)); refine blk_put (cs := #[.float .f64 0, .float .f64 0, .float .f64 0, .float .f64 0]) ?_ 0 _ rfl; (with_reducible repeat (first | refine blk_drewN ?_ _ | refine blk_drew ?_ | refine blk_alloc ?_ _)); exact BK182.out), Q_X1_, Q_X3_, Q_X6_, Q_X7_⟩
      exact steps_nil
    rintro b a w34 hall ⟨b_t169, b_t170, b_t171, b_t172, b_t173, b_t174, b_t175, b_t176, b_t177, b_t178, b_t179, b_t180, b_t181, gb182, m1_, m3_, m6_, m7_, ha, Q_BK153, Q_BK154, Q_BK168, Q_HB, Q_HF_t169, Q_HF_t170, Q_HF_t171, Q_HF_t172, Q_HF_t173, Q_HF_t174, Q_HF_t175, Q_HF_t176, Q_HF_t177, Q_HF_t178, Q_HF_t179, Q_HF_t180, Q_HF_t181, Q_BK182, Q_GW182, Q_GE182, Q_NB153_182, Q_NB182_153, Q_NB154_182, Q_NB182_154, Q_NB168_182, Q_NB182_168, Q_BK182_e8, Q_X1_, Q_X3_, Q_X6_, Q_X7_⟩
    clear BK153 BK154 BK168 HB
    have hb0_ := hall 0 (by kernel_rfl)
    have hb1_ := hall 1 (by kernel_rfl)
    have hb2_ := hall 2 (by kernel_rfl)
    have hb3_ := hall 3 (by kernel_rfl)
    have hb6_ := hall 6 (by kernel_rfl)
    have hb7_ := hall 7 (by kernel_rfl)
    have hb8_ := hall 8 (by kernel_rfl)
    subst ha
    obtain rfl := Q_X1_ hb1_
    obtain rfl := Q_X3_ hb3_
    obtain rfl := Q_X6_ hb6_
    obtain rfl := Q_X7_ hb7_
    simp only [putSel, hb0_, hb1_, hb2_, hb3_, hb6_, hb7_, hb8_, if_true, Act.put, List.setIfInBounds_toArray, List.set_cons_zero, List.set_cons_succ]
    have BK153 := Aside0.mk Q_BK153
    clear Q_BK153
    have BK154 := Aside0.mk Q_BK154
    clear Q_BK154
    have BK168 := Aside0.mk Q_BK168
    clear Q_BK168
    have HB := Aside0.mk Q_HB
    clear Q_HB
    have HF_t169 := Aside0.mk (Q_HF_t169 hb1_)
    clear Q_HF_t169
    have HF_t170 := Aside0.mk (Q_HF_t170 hb1_)
    clear Q_HF_t170
    have HF_t171 := Aside0.mk (Q_HF_t171 hb1_)
    clear Q_HF_t171
    have HF_t172 := Aside0.mk (Q_HF_t172 hb1_)
    clear Q_HF_t172
    have HF_t173 := Aside0.mk (Q_HF_t173 hb3_)
    clear Q_HF_t173
    have HF_t174 := Aside0.mk (Q_HF_t174 hb3_)
    clear Q_HF_t174
    have HF_t175 := Aside0.mk (Q_HF_t175 hb3_)
    clear Q_HF_t175
    have HF_t176 := Aside0.mk (Q_HF_t176 hb3_)
    clear Q_HF_t176
    have HF_t177 := Aside0.mk (Q_HF_t177 hb3_)
    clear Q_HF_t177
    have HF_t178 := Aside0.mk (Q_HF_t178 hb6_)
    clear Q_HF_t178
    have HF_t179 := Aside0.mk (Q_HF_t179 hb6_)
    clear Q_HF_t179
    have HF_t180 := Aside0.mk (Q_HF_t180 hb6_)
    clear Q_HF_t180
    have HF_t181 := Aside0.mk (Q_HF_t181 hb6_)
    clear Q_HF_t181
    clear Q_BK182
    have GW182 := Aside0.mk (Q_GW182 hb7_)
    clear Q_GW182
    have GE182 := Aside0.mk (Q_GE182 hb7_)
    clear Q_GE182
    have NB153_182 := Aside0.mk (Q_NB153_182 hb7_)
    clear Q_NB153_182
    have NB182_153 := Aside0.mk (Q_NB182_153 hb7_)
    clear Q_NB182_153
    have NB154_182 := Aside0.mk (Q_NB154_182 hb7_)
    clear Q_NB154_182
    have NB182_154 := Aside0.mk (Q_NB182_154 hb7_)
    clear Q_NB182_154
    have NB168_182 := Aside0.mk (Q_NB168_182 hb7_)
    clear Q_NB168_182
    have NB182_168 := Aside0.mk (Q_NB182_168 hb7_)
    clear Q_NB182_168
    have BK182 := Aside0.mk (Q_BK182_e8 hb8_)
    clear Q_BK182_e8
    clear hall hb0_ hb1_ hb2_ hb3_ hb6_ hb7_ hb8_
    have hF_t169 := HF_t169.out
    have hF_t170 := HF_t170.out
    have hF_t171 := HF_t171.out
    have hF_t172 := HF_t172.out
    have hF_t173 := HF_t173.out
    have hF_t174 := HF_t174.out
    have hF_t175 := HF_t175.out
    have hF_t176 := HF_t176.out
    have hF_t177 := HF_t177.out
    have hF_t178 := HF_t178.out
    have hF_t179 := HF_t179.out
    have hF_t180 := HF_t180.out
    have hF_t181 := HF_t181.out
    have hnb35 := NB182_153.out
    have hnc35 := NB153_182.out
    have hnb36 := NB182_154.out
    have hnc36 := NB154_182.out
    have hnb37 := NB182_168.out
    have hnc37 := NB168_182.out
    have hcz38_0 : w34.cell? ⟨gb182, 0, none⟩ = some (.float .f64 b_t178) := (blk_cell BK182.out 0).trans rfl
    have hcz38_1 : w34.cell? ⟨gb182, 1, none⟩ = some (.float .f64 b_t179) := (blk_cell BK182.out 1).trans rfl
    have hcz38_2 : w34.cell? ⟨gb182, 2, none⟩ = some (.float .f64 b_t180) := (blk_cell BK182.out 2).trans rfl
    have hcz38_3 : w34.cell? ⟨gb182, 3, none⟩ = some (.float .f64 b_t181) := (blk_cell BK182.out 3).trans rfl
    have hfz38_0 := blk_frozen BK182.out 0
    have hfz38_1 := blk_frozen BK182.out 1
    have hfz38_2 := blk_frozen BK182.out 2
    have hfz38_3 := blk_frozen BK182.out 3
    have hnb39 := NB168_153.out
    have hnc39 := NB153_168.out
    have hnb40 := NB168_154.out
    have hnc40 := NB154_168.out
    have hcz41_0 : w34.cell? ⟨gb168, 0, none⟩ = some (.float .f64 b_t164) := (blk_cell BK168.out 0).trans rfl
    have hcz41_1 : w34.cell? ⟨gb168, 1, none⟩ = some (.float .f64 b_t165) := (blk_cell BK168.out 1).trans rfl
    have hcz41_2 : w34.cell? ⟨gb168, 2, none⟩ = some (.float .f64 b_t166) := (blk_cell BK168.out 2).trans rfl
    have hcz41_3 : w34.cell? ⟨gb168, 3, none⟩ = some (.float .f64 b_t167) := (blk_cell BK168.out 3).trans rfl
    have hfz41_0 := blk_frozen BK168.out 0
    have hfz41_1 := blk_frozen BK168.out 1
    have hfz41_2 := blk_frozen BK168.out 2
    have hfz41_3 := blk_frozen BK168.out 3
    try go_wp2_with (first | ((with_reducible refine gate_callee (f := 39) rfl ?_); refine goesL_ (some 27) rfl rfl Try.func39 (by kernel_rfl) rfl #[.agg #[.float .f64 b_t178, .float .f64 b_t179, .float .f64 b_t180, .float .f64 b_t181], .agg #[.float .f64 b_t164, .float .f64 b_t165, .float .f64 b_t166, .float .f64 b_t167]] rfl (by (try simp only [List.map_toArray, List.map_cons, List.map_nil]); first | done | rfl | (simp only [List.length_drop, List.length_take]; rfl)) ?_; (with_reducible refine (laws_eqMotion.calls k b_t178 t178 b_t179 t179 b_t180 t180 b_t181 t181 b_t164 t164 b_t165 t165 b_t166 t166 b_t167 t167 true _ ?side1 ?side2 ?side3 ?side4 ?side5 ?side6 ?side7 ?side8 A11.out).mono ?_); (case side1 => exact hF_t178); (case side2 => exact hF_t179); (case side3 => exact hF_t180); (case side4 => exact hF_t181); (case side5 => exact hF_t164); (case side6 => exact hF_t165); (case side7 => exact hF_t166); (case side8 => exact hF_t167); rintro e w42 ⟨rfl, hb⟩; refine ⟨_, rfl, ?_⟩; have n0_ := Aside0.mk (blk_below (g := gb153) (o := .cells #[.float .f64 b_a0_0, .float .f64 b_a0_1, .float .f64 b_a0_2, .float .f64 b_a0_3] 30 (0, 0)) (by (with_reducible repeat (first | refine blk_drewN ?_ _ | refine blk_drew ?_ | refine blk_alloc ?_ _)); exact BK153.out) hb); have n1_ := Aside0.mk (blk_below (g := gb154) (o := .cells #[.float .f64 b_a1_0, .float .f64 b_a1_1, .float .f64 b_a1_2, .float .f64 b_a1_3, .float .f64 b_a1_4] 50 (0, 0)) (by (with_reducible repeat (first | refine blk_drewN ?_ _ | refine blk_drew ?_ | refine blk_alloc ?_ _)); exact BK154.out) hb); have n2_ := Aside0.mk (blk_below (g := gb168) (o := .cells #[.float .f64 b_t164, .float .f64 b_t165, .float .f64 b_t166, .float .f64 b_t167] 32 (0, 0)) (by (with_reducible repeat (first | refine blk_drewN ?_ _ | refine blk_drew ?_ | refine blk_alloc ?_ _)); exact BK168.out) hb); have n3_ := Aside0.mk (blk_below (g := gb182) (o := .cells #[.float .f64 b_t178, .float .f64 b_t179, .float .f64 b_t180, .float .f64 b_t181] 32 (0, 0)) (by (with_reducible repeat (first | refine blk_drewN ?_ _ | refine blk_drew ?_ | refine blk_alloc ?_ _)); exact BK182.out) hb); have n4_ := Aside0.mk (below_step (by repeat (first | (with_reducible first | exact HB.out | apply below_alloc | apply pw_below_drewN | apply below_drew1 | refine below_set ?_ GE153.out | refine below_set ?_ GE154.out | refine below_set ?_ GE168.out | refine below_set ?_ GE182.out) | exact HB.out)) hb); clear BK153; clear BK154; clear BK168; clear BK182; clear HB; have BK153 := n0_; have BK154 := n1_; have BK168 := n2_; have BK182 := n3_; have HB := n4_; clear n0_ n1_ n2_ n3_ n4_; (try clear hb); (try clear hb2); (try clear hk); (try clear hi)))
    go_ret
    exact ⟨by first | rfl | (simp [errW_none, errW_some] <;> rfl) | (simp [*, errW_none, errW_some] <;> rfl), by repeat (first | (with_reducible first | exact HB.out | apply below_alloc | apply pw_below_drewN | apply below_drew1 | refine below_set ?_ GE153.out | refine below_set ?_ GE154.out | refine below_set ?_ GE168.out | refine below_set ?_ GE182.out) | exact HB.out)⟩
  · replace c12 := Bool.eq_false_iff.mpr c12
    subst c12
    have H1 : (some false) = some r := by rw [if_neg (show ¬ (false = true) by decide)] at H; exact H
    clear H
    have H := H1
    clear H1
    obtain rfl := Option.some.inj H
    go_enter Try.func11, Try.ntmps11
    try go_wp2_with (first | ((with_reducible refine gate_dst (N := 4) rfl ?_); refine box_event ?hg (N := 4) ?hd (cs := #[.float .f64 b_a0_0, .float .f64 b_a0_1, .float .f64 b_a0_2, .float .f64 b_a0_3]) (t := 30) ?hr ?_; (case hd => rfl); (case hg => rfl); (case hr => first | (go_simp; done) | (go_simp; rfl)); intro gb153 hg w43 hbox hb; have n0_ := Aside0.mk (below_step (by repeat (first | (with_reducible first | exact HB.out | apply below_alloc | apply pw_below_drewN | apply below_drew1) | exact HB.out)) hb); have n1_ := Aside0.mk (hbox); have n2_ := Aside0.mk ((by rw [hg]; exact (below_size (by repeat (first | (with_reducible first | exact HB.out | apply below_alloc | apply pw_below_drewN | apply below_drew1) | exact HB.out))) : w.heap.size ≤ gb153)); have n3_ := Aside0.mk ((by rw [hg]; exact (below_size (by repeat (first | (with_reducible first | exact HB.out | apply below_alloc | apply pw_below_drewN | apply below_drew1) | exact HB.out))) : w.heap.size ≤ gb153)); clear HB; have HB := n0_; have BK153 := n1_; have GW153 := n2_; have GE153 := n3_; clear n0_ n1_ n2_ n3_; clear hb hbox hg) | ((with_reducible refine gate_dst (N := 5) rfl ?_); refine box_event ?hg (N := 5) ?hd (cs := #[.float .f64 b_a1_0, .float .f64 b_a1_1, .float .f64 b_a1_2, .float .f64 b_a1_3, .float .f64 b_a1_4]) (t := 50) ?hr ?_; (case hd => rfl); (case hg => rfl); (case hr => first | (go_simp; done) | (go_simp; rfl)); intro gb154 hg w44 hbox hb; have n0_ := Aside0.mk (blk_below (g := gb153) (o := .cells #[.float .f64 b_a0_0, .float .f64 b_a0_1, .float .f64 b_a0_2, .float .f64 b_a0_3] 30 (0, 0)) (by (with_reducible repeat (first | refine blk_drewN ?_ _ | refine blk_drew ?_ | refine blk_alloc ?_ _)); exact BK153.out) hb); have n1_ := Aside0.mk (below_step (by repeat (first | (with_reducible first | exact HB.out | apply below_alloc | apply pw_below_drewN | apply below_drew1 | refine below_set ?_ GE153.out) | exact HB.out)) hb); have n2_ := Aside0.mk (hbox); have n3_ := Aside0.mk ((by rw [hg]; exact (below_size (by repeat (first | (with_reducible first | exact HB.out | apply below_alloc | apply pw_below_drewN | apply below_drew1 | refine below_set ?_ GE153.out) | exact HB.out))) : w.heap.size ≤ gb154)); have n4_ := Aside0.mk ((by rw [hg]; exact (below_size (by repeat (first | (with_reducible first | exact HB.out | apply below_alloc | apply pw_below_drewN | apply below_drew1 | refine below_set ?_ GE153.out) | exact HB.out))) : w.heap.size ≤ gb154)); have n5_ := Aside0.mk ((by rw [hg]; exact Nat.ne_of_lt (blk_lt (g := gb153) (o := .cells #[.float .f64 b_a0_0, .float .f64 b_a0_1, .float .f64 b_a0_2, .float .f64 b_a0_3] 30 (0, 0)) (by (with_reducible repeat (first | refine blk_drewN ?_ _ | refine blk_drew ?_ | refine blk_alloc ?_ _)); exact BK153.out)) : gb153 ≠ gb154)); have n6_ := Aside0.mk ((by rw [hg]; exact Nat.ne_of_gt (blk_lt (g := gb153) (o := .cells #[.float .f64 b_a0_0, .float .f64 b_a0_1, .float .f64 b_a0_2, .float .f64 b_a0_3] 30 (0, 0)) (by (with_reducible repeat (first | refine blk_drewN ?_ _ | refine blk_drew ?_ | refine blk_alloc ?_ _)); exact BK153.out)) : gb154 ≠ gb153)); clear BK153; clear HB; have BK153 := n0_; have HB := n1_; have BK154 := n2_; have GW154 := n3_; have GE154 := n4_; have NB153_154 := n5_; have NB154_153 := n6_; clear n0_ n1_ n2_ n3_ n4_ n5_ n6_; clear hb hbox hg))
    have n0_ := Aside0.mk (blk_drew BK153.out)
    have n1_ := Aside0.mk (blk_drew BK154.out)
    have n2_ := Aside0.mk (below_drew1 HB.out)
    clear BK153
    clear BK154
    clear HB
    have BK153 := n0_
    have BK154 := n1_
    have HB := n2_
    clear n0_ n1_ n2_
    refine start_ (n := 9) (S := fun w' => True) (ds := []) #[false, false, false, false, false, false, false, false, false] (by kernel_rfl) rfl rfl trivial (fun hHeld => ?_); refine with_tabW laws_FnExactStepOnce.tab1 laws_FnExactStepOnce.bits1 (fun HT_ HW_ => ?_)
    generalize w44.drew = w45 at BK153 BK154 HB hHeld ⊢
    refine pure_ (i := 4) (N := some 15) (v := ?_) (a' := ?_) #[false, false, false, false, true, false, false, false, false] rfl rfl (any_of HT_.out (by kernel_rfl)) (fun _ _ _ h => h) (Or.inl ⟨by rfl, ?_⟩) ?_ ?_
    rotate_left
    · intro w'
      go_simp
      with_reducible rfl
    rotate_left
    · simp only [Act.put, List.setIfInBounds_toArray, List.set_cons_zero, List.set_cons_succ, i64_w, i32_w]
      rfl
    refine pure_ (i := 5) (N := some 16) (v := ?_) (a' := ?_) #[false, false, false, false, true, true, false, false, false] rfl rfl (any_of HT_.out (by kernel_rfl)) (fun _ _ _ h => h) (Or.inl ⟨by rfl, ?_⟩) ?_ ?_
    rotate_left
    · intro w'
      go_simp
      with_reducible rfl
    rotate_left
    · simp only [Act.put, List.setIfInBounds_toArray, List.set_cons_zero, List.set_cons_succ, i64_w, i32_w]
      rfl
    refine inv_at [0, 1, 2, 3, 6, 7, 8] (fun a0_ b a w' => ∃ (b_t155 : Nat) (b_t156 : Nat) (b_t157 : Nat) (b_t158 : Nat) (b_t159 : Nat) (b_t160 : Nat) (b_t161 : Nat) (b_t162 : Nat) (b_t163 : Nat) (b_t164 : Nat) (b_t165 : Nat) (b_t166 : Nat) (b_t167 : Nat) (gb168 : Nat) (m1_ : Value) (m3_ : Value) (m6_ : Value) (m7_ : Value), a = putSel a0_ b [(0, 11, .agg #[.float .f64 b_a0_0, .float .f64 b_a0_1, .float .f64 b_a0_2, .float .f64 b_a0_3]), (1, 12, m1_), (2, 13, .agg #[.float .f64 b_a1_0, .float .f64 b_a1_1, .float .f64 b_a1_2, .float .f64 b_a1_3, .float .f64 b_a1_4]), (3, 14, m3_), (6, 17, m6_), (7, 9, m7_)] ∧ (w'.heap[gb153]? = some (.cells #[.float .f64 b_a0_0, .float .f64 b_a0_1, .float .f64 b_a0_2, .float .f64 b_a0_3] 30 (0, 0))) ∧ (w'.heap[gb154]? = some (.cells #[.float .f64 b_a1_0, .float .f64 b_a1_1, .float .f64 b_a1_2, .float .f64 b_a1_3, .float .f64 b_a1_4] 50 (0, 0))) ∧ (Below w.heap.size w w') ∧ (b 1 = true → cn .f64 b_t155 = t155) ∧ (b 1 = true → cn .f64 b_t156 = t156) ∧ (b 1 = true → cn .f64 b_t157 = t157) ∧ (b 1 = true → cn .f64 b_t158 = t158) ∧ (b 3 = true → cn .f64 b_t159 = t159) ∧ (b 3 = true → cn .f64 b_t160 = t160) ∧ (b 3 = true → cn .f64 b_t161 = t161) ∧ (b 3 = true → cn .f64 b_t162 = t162) ∧ (b 3 = true → cn .f64 b_t163 = t163) ∧ (b 6 = true → cn .f64 b_t164 = t164) ∧ (b 6 = true → cn .f64 b_t165 = t165) ∧ (b 6 = true → cn .f64 b_t166 = t166) ∧ (b 6 = true → cn .f64 b_t167 = t167) ∧ (b 7 = true → b 8 = false → w'.heap[gb168]? = some (.cells #[.float .f64 0, .float .f64 0, .float .f64 0, .float .f64 0] 32 (0, 0))) ∧ (b 7 = true → w.heap.size ≤ gb168) ∧ (b 7 = true → w.heap.size ≤ gb168) ∧ (b 7 = true → gb153 ≠ gb168) ∧ (b 7 = true → gb168 ≠ gb153) ∧ (b 7 = true → gb154 ≠ gb168) ∧ (b 7 = true → gb168 ≠ gb154) ∧ (b 8 = true → w'.heap[gb168]? = some (.cells #[.float .f64 b_t164, .float .f64 b_t165, .float .f64 b_t166, .float .f64 b_t167] 32 (0, 0))) ∧ (b 1 = true → (m1_ : Value) = .agg #[.float .f64 b_t155, .float .f64 b_t156, .float .f64 b_t157, .float .f64 b_t158]) ∧ (b 3 = true → (m3_ : Value) = .agg #[.float .f64 b_t159, .float .f64 b_t160, .float .f64 b_t161, .float .f64 b_t162, .float .f64 b_t163]) ∧ (b 6 = true → (m6_ : Value) = .agg #[.float .f64 b_t164, .float .f64 b_t165, .float .f64 b_t166, .float .f64 b_t167]) ∧ (b 7 = true → (m7_ : Value) = .pointer (some ⟨gb168, 0, none⟩))) HT_.out HW_.out (by kernel_rfl) (by kernel_rfl) ?_ ?_ ?_
    · exact ⟨0, 0, 0, 0, 0, 0, 0, 0, 0, 0, 0, 0, 0, 0, .bool false, .bool false, .bool false, .bool false, by simp only [putSel, Bool.false_eq_true, if_false], BK153.out, BK154.out, HB.out, fun h_ => absurd h_ (by decide), fun h_ => absurd h_ (by decide), fun h_ => absurd h_ (by decide), fun h_ => absurd h_ (by decide), fun h_ => absurd h_ (by decide), fun h_ => absurd h_ (by decide), fun h_ => absurd h_ (by decide), fun h_ => absurd h_ (by decide), fun h_ => absurd h_ (by decide), fun h_ => absurd h_ (by decide), fun h_ => absurd h_ (by decide), fun h_ => absurd h_ (by decide), fun h_ => absurd h_ (by decide), fun h_ => absurd h_ (by decide), fun h_ => absurd h_ (by decide), fun h_ => absurd h_ (by decide), fun h_ => absurd h_ (by decide), fun h_ => absurd h_ (by decide), fun h_ => absurd h_ (by decide), fun h_ => absurd h_ (by decide), fun h_ => absurd h_ (by decide), fun h_ => absurd h_ (by decide), fun h_ => absurd h_ (by decide), fun h_ => absurd h_ (by decide), fun h_ => absurd h_ (by decide)⟩
    · skip
      clear BK153 BK154 HB
      refine steps_cons ?_ ?_
      · rintro b a w' ⟨b_t155, b_t156, b_t157, b_t158, b_t159, b_t160, b_t161, b_t162, b_t163, b_t164, b_t165, b_t166, b_t167, gb168, m1_, m3_, m6_, m7_, ha, Q_BK153, Q_BK154, Q_HB, Q_HF_t155, Q_HF_t156, Q_HF_t157, Q_HF_t158, Q_HF_t159, Q_HF_t160, Q_HF_t161, Q_HF_t162, Q_HF_t163, Q_HF_t164, Q_HF_t165, Q_HF_t166, Q_HF_t167, Q_BK168, Q_GW168, Q_GE168, Q_NB153_168, Q_NB168_153, Q_NB154_168, Q_NB168_154, Q_BK168_e8, Q_X1_, Q_X3_, Q_X6_, Q_X7_⟩ hb_ hon hoff
        refine ⟨_, rfl, fun K hK => ?_⟩
        have e4 : a.tmps[4]? = some (.pointer (some ⟨gb153, 0, none⟩)) := by rw [ha]; exact (putSel_off rfl).trans rfl
        replace ha := Aside0.mk ha
        have BK153 := Aside0.mk Q_BK153
        have BK154 := Aside0.mk Q_BK154
        have HB := Aside0.mk Q_HB
        have hc0_ : w'.cell? ⟨gb153, 0, none⟩ = some (.float .f64 b_a0_0) := (blk_cell BK153.out 0).trans rfl
        have hc1_ : w'.cell? ⟨gb153, 1, none⟩ = some (.float .f64 b_a0_1) := (blk_cell BK153.out 1).trans rfl
        have hc2_ : w'.cell? ⟨gb153, 2, none⟩ = some (.float .f64 b_a0_2) := (blk_cell BK153.out 2).trans rfl
        have hc3_ : w'.cell? ⟨gb153, 3, none⟩ = some (.float .f64 b_a0_3) := (blk_cell BK153.out 3).trans rfl
        refine value_ (w1 := w') (v := .agg #[.float .f64 b_a0_0, .float .f64 b_a0_1, .float .f64 b_a0_2, .float .f64 b_a0_3]) (by rfl) rfl ?_ ?_
        · go_simp
          (try simp only [i64_w])
          try rfl
        refine hK.out _ _ ⟨b_t155, b_t156, b_t157, b_t158, b_t159, b_t160, b_t161, b_t162, b_t163, b_t164, b_t165, b_t166, b_t167, gb168, m1_, m3_, m6_, m7_, (by rw [ha.out]; exact putSel_upk 0 hb_ rfl rfl rfl), Q_BK153, Q_BK154, Q_HB, fun h0_ => absurd ((hoff 1 (by kernel_rfl)).symm.trans h0_) (by decide), fun h0_ => absurd ((hoff 1 (by kernel_rfl)).symm.trans h0_) (by decide), fun h0_ => absurd ((hoff 1 (by kernel_rfl)).symm.trans h0_) (by decide), fun h0_ => absurd ((hoff 1 (by kernel_rfl)).symm.trans h0_) (by decide), fun h0_ => absurd ((hoff 3 (by kernel_rfl)).symm.trans h0_) (by decide), fun h0_ => absurd ((hoff 3 (by kernel_rfl)).symm.trans h0_) (by decide), fun h0_ => absurd ((hoff 3 (by kernel_rfl)).symm.trans h0_) (by decide), fun h0_ => absurd ((hoff 3 (by kernel_rfl)).symm.trans h0_) (by decide), fun h0_ => absurd ((hoff 3 (by kernel_rfl)).symm.trans h0_) (by decide), fun h0_ => absurd ((hoff 6 (by kernel_rfl)).symm.trans h0_) (by decide), fun h0_ => absurd ((hoff 6 (by kernel_rfl)).symm.trans h0_) (by decide), fun h0_ => absurd ((hoff 6 (by kernel_rfl)).symm.trans h0_) (by decide), fun h0_ => absurd ((hoff 6 (by kernel_rfl)).symm.trans h0_) (by decide), Q_BK168, Q_GW168, Q_GE168, Q_NB153_168, Q_NB168_153, Q_NB154_168, Q_NB168_154, fun h0_ => absurd ((hoff 8 (by kernel_rfl)).symm.trans h0_) (by decide), fun h0_ => absurd ((hoff 1 (by kernel_rfl)).symm.trans h0_) (by decide), fun h0_ => absurd ((hoff 3 (by kernel_rfl)).symm.trans h0_) (by decide), fun h0_ => absurd ((hoff 6 (by kernel_rfl)).symm.trans h0_) (by decide), Q_X7_⟩
      refine steps_cons ?_ ?_
      · rintro b a w' ⟨b_t155, b_t156, b_t157, b_t158, b_t159, b_t160, b_t161, b_t162, b_t163, b_t164, b_t165, b_t166, b_t167, gb168, m1_, m3_, m6_, m7_, ha, Q_BK153, Q_BK154, Q_HB, Q_HF_t155, Q_HF_t156, Q_HF_t157, Q_HF_t158, Q_HF_t159, Q_HF_t160, Q_HF_t161, Q_HF_t162, Q_HF_t163, Q_HF_t164, Q_HF_t165, Q_HF_t166, Q_HF_t167, Q_BK168, Q_GW168, Q_GE168, Q_NB153_168, Q_NB168_153, Q_NB154_168, Q_NB168_154, Q_BK168_e8, Q_X1_, Q_X3_, Q_X6_, Q_X7_⟩ hb_ hon hoff
        refine ⟨_, rfl, fun K hK => ?_⟩
        have e11 : a.tmps[11]? = some (.agg #[.float .f64 b_a0_0, .float .f64 b_a0_1, .float .f64 b_a0_2, .float .f64 b_a0_3]) := by rw [ha]; exact putSel_on (e := (0, 11, .agg #[.float .f64 b_a0_0, .float .f64 b_a0_1, .float .f64 b_a0_2, .float .f64 b_a0_3])) 0 rfl rfl (hon 0 (by kernel_rfl)) rfl
        replace ha := Aside0.mk ha
        have BK153 := Aside0.mk Q_BK153
        have BK154 := Aside0.mk Q_BK154
        have HB := Aside0.mk Q_HB
        refine goes_ Try.func19 (by kernel_rfl) rfl #[.agg #[.float .f64 b_a0_0, .float .f64 b_a0_1, .float .f64 b_a0_2, .float .f64 b_a0_3]] (by rfl) rfl rfl (by first | (simp only [List.map_toArray, List.map_cons, List.map_nil, Act.eval, Array.getD_eq_getD_getElem?, Option.getD_some, e11]; done) | (simp only [List.map_toArray, List.map_cons, List.map_nil, Act.eval, Array.getD_eq_getD_getElem?, Option.getD_some, e11]; rfl)) ?_
        with_reducible refine (laws_toMotion.calls b_a0_0 a0_0 b_a0_1 a0_1 b_a0_2 a0_2 b_a0_3 a0_3 t155 t156 t157 t158 _ ?side1 ?side2 ?side3 ?side4 A5.out).mono ?_
        (case side1 => exact hF_a0_0)
        (case side2 => exact hF_a0_1)
        (case side3 => exact hF_a0_2)
        (case side4 => exact hF_a0_3)
        rintro e w46 ⟨b_t155, b_t156, b_t157, b_t158, rfl, hF_t155, hF_t156, hF_t157, hF_t158, hb⟩
        refine ⟨_, rfl, ?_⟩
        have n0_ := Aside0.mk (blk_below (g := gb153) (o := .cells #[.float .f64 b_a0_0, .float .f64 b_a0_1, .float .f64 b_a0_2, .float .f64 b_a0_3] 30 (0, 0)) (by (with_reducible repeat (first | refine blk_drewN ?_ _ | refine blk_drew ?_ | refine blk_alloc ?_ _)); exact BK153.out) hb)
        have n1_ := Aside0.mk (blk_below (g := gb154) (o := .cells #[.float .f64 b_a1_0, .float .f64 b_a1_1, .float .f64 b_a1_2, .float .f64 b_a1_3, .float .f64 b_a1_4] 50 (0, 0)) (by (with_reducible repeat (first | refine blk_drewN ?_ _ | refine blk_drew ?_ | refine blk_alloc ?_ _)); exact BK154.out) hb)
        have n2_ := Aside0.mk (below_step (by repeat (first | (with_reducible first | exact HB.out | apply below_alloc | apply pw_below_drewN | apply below_drew1 | refine below_set ?_ GE153.out | refine below_set ?_ GE154.out) | exact HB.out)) hb)
        have z_BK168 := fun (h0_ : b 7 = true) (h1_ : b 8 = false) => (show w46.heap[gb168]? = some (.cells #[.float .f64 0, .float .f64 0, .float .f64 0, .float .f64 0] 32 (0, 0)) from by first | exact (blk_below (g := gb168) (o := .cells #[.float .f64 0, .float .f64 0, .float .f64 0, .float .f64 0] 32 (0, 0)) (by (with_reducible repeat (first | refine blk_drewN ?_ _ | refine blk_drew ?_ | refine blk_alloc ?_ _)); exact (Q_BK168 h0_ h1_)) hb))
        clear BK153
        clear BK154
        clear HB
        have BK153 := n0_
        have BK154 := n1_
        have HB := n2_
        clear n0_ n1_ n2_
        (try clear hb)
        (try clear hb2)
        (try clear hk)
        (try clear hi)
        refine hK.out _ _ ⟨b_t155, b_t156, b_t157, b_t158, b_t159, b_t160, b_t161, b_t162, b_t163, b_t164, b_t165, b_t166, b_t167, gb168, (.agg #[.float .f64 b_t155, .float .f64 b_t156, .float .f64 b_t157, .float .f64 b_t158]), m3_, m6_, m7_, (by rw [ha.out]; exact putSel_upk 1 hb_ rfl rfl rfl), (by (with_reducible repeat (first | refine blk_drewN ?_ _ | refine blk_drew ?_ | refine blk_alloc ?_ _)); exact BK153.out), (by (with_reducible repeat (first | refine blk_drewN ?_ _ | refine blk_drew ?_ | refine blk_alloc ?_ _)); exact BK154.out), (by repeat (first | (with_reducible first | exact HB.out | apply below_alloc | apply pw_below_drewN | apply below_drew1 | refine below_set ?_ GE153.out | refine below_set ?_ GE154.out) | exact HB.out)), fun _ => hF_t155, fun _ => hF_t156, fun _ => hF_t157, fun _ => hF_t158, fun h0_ => absurd ((hoff 3 (by kernel_rfl)).symm.trans h0_) (by decide), fun h0_ => absurd ((hoff 3 (by kernel_rfl)).symm.trans h0_) (by decide), fun h0_ => absurd ((hoff 3 (by kernel_rfl)).symm.trans h0_) (by decide), fun h0_ => absurd ((hoff 3 (by kernel_rfl)).symm.trans h0_) (by decide), fun h0_ => absurd ((hoff 3 (by kernel_rfl)).symm.trans h0_) (by decide), fun h0_ => absurd ((hoff 6 (by kernel_rfl)).symm.trans h0_) (by decide), fun h0_ => absurd ((hoff 6 (by kernel_rfl)).symm.trans h0_) (by decide), fun h0_ => absurd ((hoff 6 (by kernel_rfl)).symm.trans h0_) (by decide), fun h0_ => absurd ((hoff 6 (by kernel_rfl)).symm.trans h0_) (by decide), z_BK168, Q_GW168, Q_GE168, Q_NB153_168, Q_NB168_153, Q_NB154_168, Q_NB168_154, fun h0_ => absurd ((hoff 8 (by kernel_rfl)).symm.trans h0_) (by decide), fun _ => rfl, fun h0_ => absurd ((hoff 3 (by kernel_rfl)).symm.trans h0_) (by decide), fun h0_ => absurd ((hoff 6 (by kernel_rfl)).symm.trans h0_) (by decide), Q_X7_⟩
      refine steps_cons ?_ ?_
      · rintro b a w' ⟨b_t155, b_t156, b_t157, b_t158, b_t159, b_t160, b_t161, b_t162, b_t163, b_t164, b_t165, b_t166, b_t167, gb168, m1_, m3_, m6_, m7_, ha, Q_BK153, Q_BK154, Q_HB, Q_HF_t155, Q_HF_t156, Q_HF_t157, Q_HF_t158, Q_HF_t159, Q_HF_t160, Q_HF_t161, Q_HF_t162, Q_HF_t163, Q_HF_t164, Q_HF_t165, Q_HF_t166, Q_HF_t167, Q_BK168, Q_GW168, Q_GE168, Q_NB153_168, Q_NB168_153, Q_NB154_168, Q_NB168_154, Q_BK168_e8, Q_X1_, Q_X3_, Q_X6_, Q_X7_⟩ hb_ hon hoff
        refine ⟨_, rfl, fun K hK => ?_⟩
        have e5 : a.tmps[5]? = some (.pointer (some ⟨gb154, 0, none⟩)) := by rw [ha]; exact (putSel_off rfl).trans rfl
        replace ha := Aside0.mk ha
        have BK153 := Aside0.mk Q_BK153
        have BK154 := Aside0.mk Q_BK154
        have HB := Aside0.mk Q_HB
        have hc0_ : w'.cell? ⟨gb154, 0, none⟩ = some (.float .f64 b_a1_0) := (blk_cell BK154.out 0).trans rfl
        have hc1_ : w'.cell? ⟨gb154, 1, none⟩ = some (.float .f64 b_a1_1) := (blk_cell BK154.out 1).trans rfl
        have hc2_ : w'.cell? ⟨gb154, 2, none⟩ = some (.float .f64 b_a1_2) := (blk_cell BK154.out 2).trans rfl
        have hc3_ : w'.cell? ⟨gb154, 3, none⟩ = some (.float .f64 b_a1_3) := (blk_cell BK154.out 3).trans rfl
        have hc4_ : w'.cell? ⟨gb154, 4, none⟩ = some (.float .f64 b_a1_4) := (blk_cell BK154.out 4).trans rfl
        refine value_ (w1 := w') (v := .agg #[.float .f64 b_a1_0, .float .f64 b_a1_1, .float .f64 b_a1_2, .float .f64 b_a1_3, .float .f64 b_a1_4]) (by rfl) rfl ?_ ?_
        · go_simp
          (try simp only [i64_w])
          try rfl
        refine hK.out _ _ ⟨b_t155, b_t156, b_t157, b_t158, b_t159, b_t160, b_t161, b_t162, b_t163, b_t164, b_t165, b_t166, b_t167, gb168, m1_, m3_, m6_, m7_, (by rw [ha.out]; exact putSel_upk 2 hb_ rfl rfl rfl), Q_BK153, Q_BK154, Q_HB, Q_HF_t155, Q_HF_t156, Q_HF_t157, Q_HF_t158, fun h0_ => absurd ((hoff 3 (by kernel_rfl)).symm.trans h0_) (by decide), fun h0_ => absurd ((hoff 3 (by kernel_rfl)).symm.trans h0_) (by decide), fun h0_ => absurd ((hoff 3 (by kernel_rfl)).symm.trans h0_) (by decide), fun h0_ => absurd ((hoff 3 (by kernel_rfl)).symm.trans h0_) (by decide), fun h0_ => absurd ((hoff 3 (by kernel_rfl)).symm.trans h0_) (by decide), fun h0_ => absurd ((hoff 6 (by kernel_rfl)).symm.trans h0_) (by decide), fun h0_ => absurd ((hoff 6 (by kernel_rfl)).symm.trans h0_) (by decide), fun h0_ => absurd ((hoff 6 (by kernel_rfl)).symm.trans h0_) (by decide), fun h0_ => absurd ((hoff 6 (by kernel_rfl)).symm.trans h0_) (by decide), Q_BK168, Q_GW168, Q_GE168, Q_NB153_168, Q_NB168_153, Q_NB154_168, Q_NB168_154, fun h0_ => absurd ((hoff 8 (by kernel_rfl)).symm.trans h0_) (by decide), Q_X1_, fun h0_ => absurd ((hoff 3 (by kernel_rfl)).symm.trans h0_) (by decide), fun h0_ => absurd ((hoff 6 (by kernel_rfl)).symm.trans h0_) (by decide), Q_X7_⟩
      refine steps_cons ?_ ?_
      · rintro b a w' ⟨b_t155, b_t156, b_t157, b_t158, b_t159, b_t160, b_t161, b_t162, b_t163, b_t164, b_t165, b_t166, b_t167, gb168, m1_, m3_, m6_, m7_, ha, Q_BK153, Q_BK154, Q_HB, Q_HF_t155, Q_HF_t156, Q_HF_t157, Q_HF_t158, Q_HF_t159, Q_HF_t160, Q_HF_t161, Q_HF_t162, Q_HF_t163, Q_HF_t164, Q_HF_t165, Q_HF_t166, Q_HF_t167, Q_BK168, Q_GW168, Q_GE168, Q_NB153_168, Q_NB168_153, Q_NB154_168, Q_NB168_154, Q_BK168_e8, Q_X1_, Q_X3_, Q_X6_, Q_X7_⟩ hb_ hon hoff
        refine ⟨_, rfl, fun K hK => ?_⟩
        have e13 : a.tmps[13]? = some (.agg #[.float .f64 b_a1_0, .float .f64 b_a1_1, .float .f64 b_a1_2, .float .f64 b_a1_3, .float .f64 b_a1_4]) := by rw [ha]; exact putSel_on (e := (2, 13, .agg #[.float .f64 b_a1_0, .float .f64 b_a1_1, .float .f64 b_a1_2, .float .f64 b_a1_3, .float .f64 b_a1_4])) 2 rfl rfl (hon 2 (by kernel_rfl)) rfl
        replace ha := Aside0.mk ha
        have BK153 := Aside0.mk Q_BK153
        have BK154 := Aside0.mk Q_BK154
        have HB := Aside0.mk Q_HB
        have HF_t155 := Aside0.mk (Q_HF_t155 (hon 1 (by kernel_rfl)))
        have HF_t156 := Aside0.mk (Q_HF_t156 (hon 1 (by kernel_rfl)))
        have HF_t157 := Aside0.mk (Q_HF_t157 (hon 1 (by kernel_rfl)))
        have HF_t158 := Aside0.mk (Q_HF_t158 (hon 1 (by kernel_rfl)))
        have hF_t155 := HF_t155.out
        have hF_t156 := HF_t156.out
        have hF_t157 := HF_t157.out
        have hF_t158 := HF_t158.out
        refine goes_ Try.func37 (by kernel_rfl) rfl #[.agg #[.float .f64 b_a1_0, .float .f64 b_a1_1, .float .f64 b_a1_2, .float .f64 b_a1_3, .float .f64 b_a1_4]] (by rfl) rfl rfl (by first | (simp only [List.map_toArray, List.map_cons, List.map_nil, Act.eval, Array.getD_eq_getD_getElem?, Option.getD_some, e13]; done) | (simp only [List.map_toArray, List.map_cons, List.map_nil, Act.eval, Array.getD_eq_getD_getElem?, Option.getD_some, e13]; rfl)) ?_
        with_reducible refine (laws_toForces.calls b_a1_0 a1_0 b_a1_1 a1_1 b_a1_2 a1_2 b_a1_3 a1_3 b_a1_4 a1_4 t159 t160 t161 t162 t163 _ ?side1 ?side2 ?side3 ?side4 ?side5 A6.out).mono ?_
        (case side1 => exact hF_a1_0)
        (case side2 => exact hF_a1_1)
        (case side3 => exact hF_a1_2)
        (case side4 => exact hF_a1_3)
        (case side5 => exact hF_a1_4)
        rintro e w48 ⟨b_t159, b_t160, b_t161, b_t162, b_t163, rfl, hF_t159, hF_t160, hF_t161, hF_t162, hF_t163, hb⟩
        refine ⟨_, rfl, ?_⟩
        have n0_ := Aside0.mk (blk_below (g := gb153) (o := .cells #[.float .f64 b_a0_0, .float .f64 b_a0_1, .float .f64 b_a0_2, .float .f64 b_a0_3] 30 (0, 0)) (by (with_reducible repeat (first | refine blk_drewN ?_ _ | refine blk_drew ?_ | refine blk_alloc ?_ _)); exact BK153.out) hb)
        have n1_ := Aside0.mk (blk_below (g := gb154) (o := .cells #[.float .f64 b_a1_0, .float .f64 b_a1_1, .float .f64 b_a1_2, .float .f64 b_a1_3, .float .f64 b_a1_4] 50 (0, 0)) (by (with_reducible repeat (first | refine blk_drewN ?_ _ | refine blk_drew ?_ | refine blk_alloc ?_ _)); exact BK154.out) hb)
        have n2_ := Aside0.mk (below_step (by repeat (first | (with_reducible first | exact HB.out | apply below_alloc | apply pw_below_drewN | apply below_drew1 | refine below_set ?_ GE153.out | refine below_set ?_ GE154.out) | exact HB.out)) hb)
        have z_BK168 := fun (h0_ : b 7 = true) (h1_ : b 8 = false) => (show w48.heap[gb168]? = some (.cells #[.float .f64 0, .float .f64 0, .float .f64 0, .float .f64 0] 32 (0, 0)) from by first | exact (blk_below (g := gb168) (o := .cells #[.float .f64 0, .float .f64 0, .float .f64 0, .float .f64 0] 32 (0, 0)) (by (with_reducible repeat (first | refine blk_drewN ?_ _ | refine blk_drew ?_ | refine blk_alloc ?_ _)); exact (Q_BK168 h0_ h1_)) hb))
        clear BK153
        clear BK154
        clear HB
        have BK153 := n0_
        have BK154 := n1_
        have HB := n2_
        clear n0_ n1_ n2_
        (try clear hb)
        (try clear hb2)
        (try clear hk)
        (try clear hi)
        refine hK.out _ _ ⟨b_t155, b_t156, b_t157, b_t158, b_t159, b_t160, b_t161, b_t162, b_t163, b_t164, b_t165, b_t166, b_t167, gb168, m1_, (.agg #[.float .f64 b_t159, .float .f64 b_t160, .float .f64 b_t161, .float .f64 b_t162, .float .f64 b_t163]), m6_, m7_, (by rw [ha.out]; exact putSel_upk 3 hb_ rfl rfl rfl), (by (with_reducible repeat (first | refine blk_drewN ?_ _ | refine blk_drew ?_ | refine blk_alloc ?_ _)); exact BK153.out), (by (with_reducible repeat (first | refine blk_drewN ?_ _ | refine blk_drew ?_ | refine blk_alloc ?_ _)); exact BK154.out), (by repeat (first | (with_reducible first | exact HB.out | apply below_alloc | apply pw_below_drewN | apply below_drew1 | refine below_set ?_ GE153.out | refine below_set ?_ GE154.out) | exact HB.out)), fun _ => hF_t155, fun _ => hF_t156, fun _ => hF_t157, fun _ => hF_t158, fun _ => hF_t159, fun _ => hF_t160, fun _ => hF_t161, fun _ => hF_t162, fun _ => hF_t163, fun h0_ => absurd ((hoff 6 (by kernel_rfl)).symm.trans h0_) (by decide), fun h0_ => absurd ((hoff 6 (by kernel_rfl)).symm.trans h0_) (by decide), fun h0_ => absurd ((hoff 6 (by kernel_rfl)).symm.trans h0_) (by decide), fun h0_ => absurd ((hoff 6 (by kernel_rfl)).symm.trans h0_) (by decide), z_BK168, Q_GW168, Q_GE168, Q_NB153_168, Q_NB168_153, Q_NB154_168, Q_NB168_154, fun h0_ => absurd ((hoff 8 (by kernel_rfl)).symm.trans h0_) (by decide), Q_X1_, fun _ => rfl, fun h0_ => absurd ((hoff 6 (by kernel_rfl)).symm.trans h0_) (by decide), Q_X7_⟩
      refine steps_cons ?_ ?_
      · rintro b a w' ⟨b_t155, b_t156, b_t157, b_t158, b_t159, b_t160, b_t161, b_t162, b_t163, b_t164, b_t165, b_t166, b_t167, gb168, m1_, m3_, m6_, m7_, ha, Q_BK153, Q_BK154, Q_HB, Q_HF_t155, Q_HF_t156, Q_HF_t157, Q_HF_t158, Q_HF_t159, Q_HF_t160, Q_HF_t161, Q_HF_t162, Q_HF_t163, Q_HF_t164, Q_HF_t165, Q_HF_t166, Q_HF_t167, Q_BK168, Q_GW168, Q_GE168, Q_NB153_168, Q_NB168_153, Q_NB154_168, Q_NB168_154, Q_BK168_e8, Q_X1_, Q_X3_, Q_X6_, Q_X7_⟩ hb_ hon hoff
        refine ⟨_, rfl, fun K hK => ?_⟩
        have e12 : a.tmps[12]? = some (m1_) := by rw [ha]; exact putSel_on (e := (1, 12, m1_)) 1 rfl rfl (hon 1 (by kernel_rfl)) rfl
        rw [Q_X1_ (hon 1 (by kernel_rfl))] at e12
        have e14 : a.tmps[14]? = some (m3_) := by rw [ha]; exact putSel_on (e := (3, 14, m3_)) 3 rfl rfl (hon 3 (by kernel_rfl)) rfl
        rw [Q_X3_ (hon 3 (by kernel_rfl))] at e14
        have e15 : a.tmps[15]? = some (.float .f64 b_a2) := by rw [ha]; exact (putSel_off rfl).trans rfl
        have e16 : a.tmps[16]? = some (.float .f64 b_a3) := by rw [ha]; exact (putSel_off rfl).trans rfl
        replace ha := Aside0.mk ha
        have BK153 := Aside0.mk Q_BK153
        have BK154 := Aside0.mk Q_BK154
        have HB := Aside0.mk Q_HB
        have HF_t155 := Aside0.mk (Q_HF_t155 (hon 1 (by kernel_rfl)))
        have HF_t156 := Aside0.mk (Q_HF_t156 (hon 1 (by kernel_rfl)))
        have HF_t157 := Aside0.mk (Q_HF_t157 (hon 1 (by kernel_rfl)))
        have HF_t158 := Aside0.mk (Q_HF_t158 (hon 1 (by kernel_rfl)))
        have HF_t159 := Aside0.mk (Q_HF_t159 (hon 3 (by kernel_rfl)))
        have HF_t160 := Aside0.mk (Q_HF_t160 (hon 3 (by kernel_rfl)))
        have HF_t161 := Aside0.mk (Q_HF_t161 (hon 3 (by kernel_rfl)))
        have HF_t162 := Aside0.mk (Q_HF_t162 (hon 3 (by kernel_rfl)))
        have HF_t163 := Aside0.mk (Q_HF_t163 (hon 3 (by kernel_rfl)))
        have hF_t155 := HF_t155.out
        have hF_t156 := HF_t156.out
        have hF_t157 := HF_t157.out
        have hF_t158 := HF_t158.out
        have hF_t159 := HF_t159.out
        have hF_t160 := HF_t160.out
        have hF_t161 := HF_t161.out
        have hF_t162 := HF_t162.out
        have hF_t163 := HF_t163.out
        refine goes_ Try.func36 (by kernel_rfl) rfl #[.agg #[.float .f64 b_t155, .float .f64 b_t156, .float .f64 b_t157, .float .f64 b_t158], .agg #[.float .f64 b_t159, .float .f64 b_t160, .float .f64 b_t161, .float .f64 b_t162, .float .f64 b_t163], .float .f64 b_a2, .float .f64 b_a3] (by rfl) rfl rfl (by first | (simp only [List.map_toArray, List.map_cons, List.map_nil, Act.eval, Array.getD_eq_getD_getElem?, Option.getD_some, e12, e14, e15, e16]; done) | (simp only [List.map_toArray, List.map_cons, List.map_nil, Act.eval, Array.getD_eq_getD_getElem?, Option.getD_some, e12, e14, e15, e16]; rfl)) ?_
        with_reducible refine (spec_StepOnce.calls b_t155 t155 b_t156 t156 b_t157 t157 b_t158 t158 b_t159 t159 b_t160 t160 b_t161 t161 b_t162 t162 b_t163 t163 b_a2 a2 b_a3 a3 t164 t165 t166 t167 _ ?side1 ?side2 ?side3 ?side4 ?side5 ?side6 ?side7 ?side8 ?side9 ?side10 ?side11 A7.out).mono ?_
        (case side1 => exact hF_t155)
        (case side2 => exact hF_t156)
        (case side3 => exact hF_t157)
        (case side4 => exact hF_t158)
        (case side5 => exact hF_t159)
        (case side6 => exact hF_t160)
        (case side7 => exact hF_t161)
        (case side8 => exact hF_t162)
        (case side9 => exact hF_t163)
        (case side10 => exact hF_a2)
        (case side11 => exact hF_a3)
        rintro e w49 ⟨b_t164, b_t165, b_t166, b_t167, rfl, hF_t164, hF_t165, hF_t166, hF_t167, hb⟩
        refine ⟨_, rfl, ?_⟩
        have n0_ := Aside0.mk (blk_below (g := gb153) (o := .cells #[.float .f64 b_a0_0, .float .f64 b_a0_1, .float .f64 b_a0_2, .float .f64 b_a0_3] 30 (0, 0)) (by (with_reducible repeat (first | refine blk_drewN ?_ _ | refine blk_drew ?_ | refine blk_alloc ?_ _)); exact BK153.out) hb)
        have n1_ := Aside0.mk (blk_below (g := gb154) (o := .cells #[.float .f64 b_a1_0, .float .f64 b_a1_1, .float .f64 b_a1_2, .float .f64 b_a1_3, .float .f64 b_a1_4] 50 (0, 0)) (by (with_reducible repeat (first | refine blk_drewN ?_ _ | refine blk_drew ?_ | refine blk_alloc ?_ _)); exact BK154.out) hb)
        have n2_ := Aside0.mk (below_step (by repeat (first | (with_reducible first | exact HB.out | apply below_alloc | apply pw_below_drewN | apply below_drew1 | refine below_set ?_ GE153.out | refine below_set ?_ GE154.out) | exact HB.out)) hb)
        have z_BK168 := fun (h0_ : b 7 = true) (h1_ : b 8 = false) => (show w49.heap[gb168]? = some (.cells #[.float .f64 0, .float .f64 0, .float .f64 0, .float .f64 0] 32 (0, 0)) from by first | exact (blk_below (g := gb168) (o := .cells #[.float .f64 0, .float .f64 0, .float .f64 0, .float .f64 0] 32 (0, 0)) (by (with_reducible repeat (first | refine blk_drewN ?_ _ | refine blk_drew ?_ | refine blk_alloc ?_ _)); exact (Q_BK168 h0_ h1_)) hb))
        clear BK153
        clear BK154
        clear HB
        have BK153 := n0_
        have BK154 := n1_
        have HB := n2_
        clear n0_ n1_ n2_
        (try clear hb)
        (try clear hb2)
        (try clear hk)
        (try clear hi)
        refine hK.out _ _ ⟨b_t155, b_t156, b_t157, b_t158, b_t159, b_t160, b_t161, b_t162, b_t163, b_t164, b_t165, b_t166, b_t167, gb168, m1_, m3_, (.agg #[.float .f64 b_t164, .float .f64 b_t165, .float .f64 b_t166, .float .f64 b_t167]), m7_, (by rw [ha.out]; exact putSel_upk 4 hb_ rfl rfl rfl), (by (with_reducible repeat (first | refine blk_drewN ?_ _ | refine blk_drew ?_ | refine blk_alloc ?_ _)); exact BK153.out), (by (with_reducible repeat (first | refine blk_drewN ?_ _ | refine blk_drew ?_ | refine blk_alloc ?_ _)); exact BK154.out), (by repeat (first | (with_reducible first | exact HB.out | apply below_alloc | apply pw_below_drewN | apply below_drew1 | refine below_set ?_ GE153.out | refine below_set ?_ GE154.out) | exact HB.out)), fun _ => hF_t155, fun _ => hF_t156, fun _ => hF_t157, fun _ => hF_t158, fun _ => hF_t159, fun _ => hF_t160, fun _ => hF_t161, fun _ => hF_t162, fun _ => hF_t163, fun _ => hF_t164, fun _ => hF_t165, fun _ => hF_t166, fun _ => hF_t167, z_BK168, Q_GW168, Q_GE168, Q_NB153_168, Q_NB168_153, Q_NB154_168, Q_NB168_154, fun h0_ => absurd ((hoff 8 (by kernel_rfl)).symm.trans h0_) (by decide), Q_X1_, Q_X3_, fun _ => rfl, Q_X7_⟩
      refine steps_cons ?_ ?_
      · rintro b a w' ⟨b_t155, b_t156, b_t157, b_t158, b_t159, b_t160, b_t161, b_t162, b_t163, b_t164, b_t165, b_t166, b_t167, gb168, m1_, m3_, m6_, m7_, ha, Q_BK153, Q_BK154, Q_HB, Q_HF_t155, Q_HF_t156, Q_HF_t157, Q_HF_t158, Q_HF_t159, Q_HF_t160, Q_HF_t161, Q_HF_t162, Q_HF_t163, Q_HF_t164, Q_HF_t165, Q_HF_t166, Q_HF_t167, Q_BK168, Q_GW168, Q_GE168, Q_NB153_168, Q_NB168_153, Q_NB154_168, Q_NB168_154, Q_BK168_e8, Q_X1_, Q_X3_, Q_X6_, Q_X7_⟩ hb_ hon hoff
        refine ⟨_, rfl, fun K hK => ?_⟩
        replace ha := Aside0.mk ha
        have BK153 := Aside0.mk Q_BK153
        have BK154 := Aside0.mk Q_BK154
        have HB := Aside0.mk Q_HB
        refine box_step ?hg (N := 9) ?hd (cs := #[.float .f64 0, .float .f64 0, .float .f64 0, .float .f64 0]) (t := 32) ?hr ?_; (case hd => rfl); (case hg => rfl); (case hr => first | (go_simp; done) | (go_simp; rfl))
        intro gb168 hg w46 hbox hb
        have n0_ := Aside0.mk (blk_below (g := gb153) (o := .cells #[.float .f64 b_a0_0, .float .f64 b_a0_1, .float .f64 b_a0_2, .float .f64 b_a0_3] 30 (0, 0)) (by (with_reducible repeat (first | refine blk_drewN ?_ _ | refine blk_drew ?_ | refine blk_alloc ?_ _)); exact BK153.out) hb)
        have n1_ := Aside0.mk (blk_below (g := gb154) (o := .cells #[.float .f64 b_a1_0, .float .f64 b_a1_1, .float .f64 b_a1_2, .float .f64 b_a1_3, .float .f64 b_a1_4] 50 (0, 0)) (by (with_reducible repeat (first | refine blk_drewN ?_ _ | refine blk_drew ?_ | refine blk_alloc ?_ _)); exact BK154.out) hb)
        have n2_ := Aside0.mk (below_step (by repeat (first | (with_reducible first | exact HB.out | apply below_alloc | apply pw_below_drewN | apply below_drew1 | refine below_set ?_ GE153.out | refine below_set ?_ GE154.out) | exact HB.out)) hb)
        have n3_ := Aside0.mk (hbox)
        have n4_ := Aside0.mk ((by rw [hg]; exact (below_size (by repeat (first | (with_reducible first | exact HB.out | apply below_alloc | apply pw_below_drewN | apply below_drew1 | refine below_set ?_ GE153.out | refine below_set ?_ GE154.out) | exact HB.out))) : w.heap.size ≤ gb168))
        have n5_ := Aside0.mk ((by rw [hg]; exact (below_size (by repeat (first | (with_reducible first | exact HB.out | apply below_alloc | apply pw_below_drewN | apply below_drew1 | refine below_set ?_ GE153.out | refine below_set ?_ GE154.out) | exact HB.out))) : w.heap.size ≤ gb168))
        have n6_ := Aside0.mk ((by rw [hg]; exact Nat.ne_of_lt (blk_lt (g := gb153) (o := .cells #[.float .f64 b_a0_0, .float .f64 b_a0_1, .float .f64 b_a0_2, .float .f64 b_a0_3] 30 (0, 0)) (by (with_reducible repeat (first | refine blk_drewN ?_ _ | refine blk_drew ?_ | refine blk_alloc ?_ _)); exact BK153.out)) : gb153 ≠ gb168))
        have n7_ := Aside0.mk ((by rw [hg]; exact Nat.ne_of_gt (blk_lt (g := gb153) (o := .cells #[.float .f64 b_a0_0, .float .f64 b_a0_1, .float .f64 b_a0_2, .float .f64 b_a0_3] 30 (0, 0)) (by (with_reducible repeat (first | refine blk_drewN ?_ _ | refine blk_drew ?_ | refine blk_alloc ?_ _)); exact BK153.out)) : gb168 ≠ gb153))
        have n8_ := Aside0.mk ((by rw [hg]; exact Nat.ne_of_lt (blk_lt (g := gb154) (o := .cells #[.float .f64 b_a1_0, .float .f64 b_a1_1, .float .f64 b_a1_2, .float .f64 b_a1_3, .float .f64 b_a1_4] 50 (0, 0)) (by (with_reducible repeat (first | refine blk_drewN ?_ _ | refine blk_drew ?_ | refine blk_alloc ?_ _)); exact BK154.out)) : gb154 ≠ gb168))
        have n9_ := Aside0.mk ((by rw [hg]; exact Nat.ne_of_gt (blk_lt (g := gb154) (o := .cells #[.float .f64 b_a1_0, .float .f64 b_a1_1, .float .f64 b_a1_2, .float .f64 b_a1_3, .float .f64 b_a1_4] 50 (0, 0)) (by (with_reducible repeat (first | refine blk_drewN ?_ _ | refine blk_drew ?_ | refine blk_alloc ?_ _)); exact BK154.out)) : gb168 ≠ gb154))
        clear BK153
        clear BK154
        clear HB
        have BK153 := n0_
        have BK154 := n1_
        have HB := n2_
        have BK168 := n3_
        have GW168 := n4_
        have GE168 := n5_
        have NB153_168 := n6_
        have NB168_153 := n7_
        have NB154_168 := n8_
        have NB168_154 := n9_
        clear n0_ n1_ n2_ n3_ n4_ n5_ n6_ n7_ n8_ n9_
        clear hb hbox hg
        refine hK.out _ _ ⟨b_t155, b_t156, b_t157, b_t158, b_t159, b_t160, b_t161, b_t162, b_t163, b_t164, b_t165, b_t166, b_t167, gb168, m1_, m3_, m6_, (.pointer (some ⟨gb168, 0, none⟩)), (by rw [ha.out]; exact putSel_upk 5 hb_ rfl rfl rfl), (by (with_reducible repeat (first | refine blk_drewN ?_ _ | refine blk_drew ?_ | refine blk_alloc ?_ _)); exact BK153.out), (by (with_reducible repeat (first | refine blk_drewN ?_ _ | refine blk_drew ?_ | refine blk_alloc ?_ _)); exact BK154.out), (by repeat (first | (with_reducible first | exact HB.out | apply below_alloc | apply pw_below_drewN | apply below_drew1 | refine below_set ?_ GE153.out | refine below_set ?_ GE154.out | refine below_set ?_ GE168.out) | exact HB.out)), Q_HF_t155, Q_HF_t156, Q_HF_t157, Q_HF_t158, Q_HF_t159, Q_HF_t160, Q_HF_t161, Q_HF_t162, Q_HF_t163, Q_HF_t164, Q_HF_t165, Q_HF_t166, Q_HF_t167, fun _ _ => (by (with_reducible repeat (first | refine blk_drewN ?_ _ | refine blk_drew ?_ | refine blk_alloc ?_ _)); exact BK168.out), fun _ => GW168.out, fun _ => GE168.out, fun _ => NB153_168.out, fun _ => NB168_153.out, fun _ => NB154_168.out, fun _ => NB168_154.out, fun h0_ => absurd ((hoff 8 (by kernel_rfl)).symm.trans h0_) (by decide), Q_X1_, Q_X3_, Q_X6_, fun _ => rfl⟩
      refine steps_cons ?_ ?_
      · rintro b a w' ⟨b_t155, b_t156, b_t157, b_t158, b_t159, b_t160, b_t161, b_t162, b_t163, b_t164, b_t165, b_t166, b_t167, gb168, m1_, m3_, m6_, m7_, ha, Q_BK153, Q_BK154, Q_HB, Q_HF_t155, Q_HF_t156, Q_HF_t157, Q_HF_t158, Q_HF_t159, Q_HF_t160, Q_HF_t161, Q_HF_t162, Q_HF_t163, Q_HF_t164, Q_HF_t165, Q_HF_t166, Q_HF_t167, Q_BK168, Q_GW168, Q_GE168, Q_NB153_168, Q_NB168_153, Q_NB154_168, Q_NB168_154, Q_BK168_e8, Q_X1_, Q_X3_, Q_X6_, Q_X7_⟩ hb_ hon hoff
        refine ⟨_, rfl, fun K hK => ?_⟩
        have e9 : a.tmps[9]? = some (m7_) := by rw [ha]; exact putSel_on (e := (7, 9, m7_)) 5 rfl rfl (hon 7 (by kernel_rfl)) rfl
        rw [Q_X7_ (hon 7 (by kernel_rfl))] at e9
        have e17 : a.tmps[17]? = some (m6_) := by rw [ha]; exact putSel_on (e := (6, 17, m6_)) 4 rfl rfl (hon 6 (by kernel_rfl)) rfl
        rw [Q_X6_ (hon 6 (by kernel_rfl))] at e17
        replace ha := Aside0.mk ha
        have BK153 := Aside0.mk Q_BK153
        have BK154 := Aside0.mk Q_BK154
        have HB := Aside0.mk Q_HB
        have HF_t155 := Aside0.mk (Q_HF_t155 (hon 1 (by kernel_rfl)))
        have HF_t156 := Aside0.mk (Q_HF_t156 (hon 1 (by kernel_rfl)))
        have HF_t157 := Aside0.mk (Q_HF_t157 (hon 1 (by kernel_rfl)))
        have HF_t158 := Aside0.mk (Q_HF_t158 (hon 1 (by kernel_rfl)))
        have HF_t159 := Aside0.mk (Q_HF_t159 (hon 3 (by kernel_rfl)))
        have HF_t160 := Aside0.mk (Q_HF_t160 (hon 3 (by kernel_rfl)))
        have HF_t161 := Aside0.mk (Q_HF_t161 (hon 3 (by kernel_rfl)))
        have HF_t162 := Aside0.mk (Q_HF_t162 (hon 3 (by kernel_rfl)))
        have HF_t163 := Aside0.mk (Q_HF_t163 (hon 3 (by kernel_rfl)))
        have HF_t164 := Aside0.mk (Q_HF_t164 (hon 6 (by kernel_rfl)))
        have HF_t165 := Aside0.mk (Q_HF_t165 (hon 6 (by kernel_rfl)))
        have HF_t166 := Aside0.mk (Q_HF_t166 (hon 6 (by kernel_rfl)))
        have HF_t167 := Aside0.mk (Q_HF_t167 (hon 6 (by kernel_rfl)))
        have BK168 := Aside0.mk (Q_BK168 (hon 7 (by kernel_rfl)) hb_)
        have GW168 := Aside0.mk (Q_GW168 (hon 7 (by kernel_rfl)))
        have GE168 := Aside0.mk (Q_GE168 (hon 7 (by kernel_rfl)))
        have NB153_168 := Aside0.mk (Q_NB153_168 (hon 7 (by kernel_rfl)))
        have NB168_153 := Aside0.mk (Q_NB168_153 (hon 7 (by kernel_rfl)))
        have NB154_168 := Aside0.mk (Q_NB154_168 (hon 7 (by kernel_rfl)))
        have NB168_154 := Aside0.mk (Q_NB168_154 (hon 7 (by kernel_rfl)))
        have hF_t155 := HF_t155.out
        have hF_t156 := HF_t156.out
        have hF_t157 := HF_t157.out
        have hF_t158 := HF_t158.out
        have hF_t159 := HF_t159.out
        have hF_t160 := HF_t160.out
        have hF_t161 := HF_t161.out
        have hF_t162 := HF_t162.out
        have hF_t163 := HF_t163.out
        have hF_t164 := HF_t164.out
        have hF_t165 := HF_t165.out
        have hF_t166 := HF_t166.out
        have hF_t167 := HF_t167.out
        have hs51 : w'.cell? ⟨gb168, 0, none⟩ = some (.float .f64 0) := (blk_cell BK168.out 0).trans rfl
        have hfs51 := blk_frozen BK168.out 0
        have hns51_0 := NB153_168.out
        have hns51_1 := NB154_168.out
        have hms51_0 := NB168_153.out
        have hms51_1 := NB168_154.out
        have hs52 : w'.cell? ⟨gb168, 1, none⟩ = some (.float .f64 0) := (blk_cell BK168.out 1).trans rfl
        have hfs52 := blk_frozen BK168.out 1
        have hns52_0 := NB153_168.out
        have hns52_1 := NB154_168.out
        have hms52_0 := NB168_153.out
        have hms52_1 := NB168_154.out
        have hs53 : w'.cell? ⟨gb168, 2, none⟩ = some (.float .f64 0) := (blk_cell BK168.out 2).trans rfl
        have hfs53 := blk_frozen BK168.out 2
        have hns53_0 := NB153_168.out
        have hns53_1 := NB154_168.out
        have hms53_0 := NB168_153.out
        have hms53_1 := NB168_154.out
        have hs54 : w'.cell? ⟨gb168, 3, none⟩ = some (.float .f64 0) := (blk_cell BK168.out 3).trans rfl
        have hfs54 := blk_frozen BK168.out 3
        have hns54_0 := NB153_168.out
        have hns54_1 := NB154_168.out
        have hms54_0 := NB168_153.out
        have hms54_1 := NB168_154.out
        refine skip_ (w1 := ?_) (by rfl) rfl ?_ ?_
        rotate_left
        · go_simp
          rfl
        refine hK.out _ _ ⟨b_t155, b_t156, b_t157, b_t158, b_t159, b_t160, b_t161, b_t162, b_t163, b_t164, b_t165, b_t166, b_t167, gb168, m1_, m3_, m6_, m7_, (by rw [ha.out]; exact putSel_none (v := undef) rfl), (by (with_reducible repeat (first | refine blk_drewN ?_ _ | refine blk_drew ?_ | refine blk_alloc ?_ _)); refine blk_far ?_ NB153_168.out _; (with_reducible repeat (first | refine blk_drewN ?_ _ | refine blk_drew ?_ | refine blk_alloc ?_ _)); refine blk_far ?_ NB153_168.out _; (with_reducible repeat (first | refine blk_drewN ?_ _ | refine blk_drew ?_ | refine blk_alloc ?_ _)); refine blk_far ?_ NB153_168.out _; (with_reducible repeat (first | refine blk_drewN ?_ _ | refine blk_drew ?_ | refine blk_alloc ?_ _)); refine blk_far ?_ NB153_168.out _; (with_reducible repeat (first | refine blk_drewN ?_ _ | refine blk_drew ?_ | refine blk_alloc ?_ _)); exact BK153.out), (by (with_reducible repeat (first | refine blk_drewN ?_ _ | refine blk_drew ?_ | refine blk_alloc ?_ _)); refine blk_far ?_ NB154_168.out _; (with_reducible repeat (first | refine blk_drewN ?_ _ | refine blk_drew ?_ | refine blk_alloc ?_ _)); refine blk_far ?_ NB154_168.out _; (with_reducible repeat (first | refine blk_drewN ?_ _ | refine blk_drew ?_ | refine blk_alloc ?_ _)); refine blk_far ?_ NB154_168.out _; (with_reducible repeat (first | refine blk_drewN ?_ _ | refine blk_drew ?_ | refine blk_alloc ?_ _)); refine blk_far ?_ NB154_168.out _; (with_reducible repeat (first | refine blk_drewN ?_ _ | refine blk_drew ?_ | refine blk_alloc ?_ _)); exact BK154.out), (by repeat (first | (with_reducible first | exact HB.out | apply below_alloc | apply pw_below_drewN | apply below_drew1 | refine below_set ?_ GE153.out | refine below_set ?_ GE154.out | refine below_set ?_ GE168.out) | exact HB.out)), fun _ => hF_t155, fun _ => hF_t156, fun _ => hF_t157, fun _ => hF_t158, fun _ => hF_t159, fun _ => hF_t160, fun _ => hF_t161, fun _ => hF_t162, fun _ => hF_t163, fun _ => hF_t164, fun _ => hF_t165, fun _ => hF_t166, fun _ => hF_t167, fun _ h1_ => absurd ((up_self b 8).symm.trans h1_) (by decide), fun _ => GW168.out, fun _ => GE168.out, fun _ => NB153_168.out, fun _ => NB168_153.out, fun _ => NB154_168.out, fun _ => NB168_154.out, fun _ => (by (with_reducible repeat (first | refine blk_drewN ?_ _ | refine blk_drew ?_ | refine blk_alloc ?_ _)); refine blk_put (cs := #[.float .f64 b_t164, .float .f64 b_t165, .float .f64 b_t166, .float .f64 0]) ?_ 3 _ rfl; (with_reducible repeat (first | refine blk_drewN ?_ _ | refine blk_drew ?_ | refine blk_alloc ?_ _)); refine blk_put (cs := #[.float .f64 b_t164, .float .f64 b_t165, .float .f64 0, .float .f64 0]) ?_ 2 _ rfl; (with_reducible repeat (first | refine blk_drewN ?_ _ | refine blk_drew ?_ | refine blk_alloc ?_ _)); refine blk_put (cs := #[.float .f64 b_t164, .float .f64 0, .float .f64 0, .float .f64 0]) ?_ 1 _ rfl; (with_reducible repeat (first | refine blk_drewN ?_ _ | refine blk_drew ?_ | refine blk_alloc ?_ _)); refine blk_put (cs := #[.float .f64 0, .float .f64 0, .float .f64 0, .float .f64 0]) ?_ 0 _ rfl; (with_reducible repeat (first | refine blk_drewN ?_ _ | refine blk_drew ?_ | refine blk_alloc ?_ _)); exact BK168.out), Q_X1_, Q_X3_, Q_X6_, Q_X7_⟩
      exact steps_nil
    rintro b a w54 hall ⟨b_t155, b_t156, b_t157, b_t158, b_t159, b_t160, b_t161, b_t162, b_t163, b_t164, b_t165, b_t166, b_t167, gb168, m1_, m3_, m6_, m7_, ha, Q_BK153, Q_BK154, Q_HB, Q_HF_t155, Q_HF_t156, Q_HF_t157, Q_HF_t158, Q_HF_t159, Q_HF_t160, Q_HF_t161, Q_HF_t162, Q_HF_t163, Q_HF_t164, Q_HF_t165, Q_HF_t166, Q_HF_t167, Q_BK168, Q_GW168, Q_GE168, Q_NB153_168, Q_NB168_153, Q_NB154_168, Q_NB168_154, Q_BK168_e8, Q_X1_, Q_X3_, Q_X6_, Q_X7_⟩
    clear BK153 BK154 HB
    have hb0_ := hall 0 (by kernel_rfl)
    have hb1_ := hall 1 (by kernel_rfl)
    have hb2_ := hall 2 (by kernel_rfl)
    have hb3_ := hall 3 (by kernel_rfl)
    have hb6_ := hall 6 (by kernel_rfl)
    have hb7_ := hall 7 (by kernel_rfl)
    have hb8_ := hall 8 (by kernel_rfl)
    subst ha
    obtain rfl := Q_X1_ hb1_
    obtain rfl := Q_X3_ hb3_
    obtain rfl := Q_X6_ hb6_
    obtain rfl := Q_X7_ hb7_
    simp only [putSel, hb0_, hb1_, hb2_, hb3_, hb6_, hb7_, hb8_, if_true, Act.put, List.setIfInBounds_toArray, List.set_cons_zero, List.set_cons_succ]
    have BK153 := Aside0.mk Q_BK153
    clear Q_BK153
    have BK154 := Aside0.mk Q_BK154
    clear Q_BK154
    have HB := Aside0.mk Q_HB
    clear Q_HB
    have HF_t155 := Aside0.mk (Q_HF_t155 hb1_)
    clear Q_HF_t155
    have HF_t156 := Aside0.mk (Q_HF_t156 hb1_)
    clear Q_HF_t156
    have HF_t157 := Aside0.mk (Q_HF_t157 hb1_)
    clear Q_HF_t157
    have HF_t158 := Aside0.mk (Q_HF_t158 hb1_)
    clear Q_HF_t158
    have HF_t159 := Aside0.mk (Q_HF_t159 hb3_)
    clear Q_HF_t159
    have HF_t160 := Aside0.mk (Q_HF_t160 hb3_)
    clear Q_HF_t160
    have HF_t161 := Aside0.mk (Q_HF_t161 hb3_)
    clear Q_HF_t161
    have HF_t162 := Aside0.mk (Q_HF_t162 hb3_)
    clear Q_HF_t162
    have HF_t163 := Aside0.mk (Q_HF_t163 hb3_)
    clear Q_HF_t163
    have HF_t164 := Aside0.mk (Q_HF_t164 hb6_)
    clear Q_HF_t164
    have HF_t165 := Aside0.mk (Q_HF_t165 hb6_)
    clear Q_HF_t165
    have HF_t166 := Aside0.mk (Q_HF_t166 hb6_)
    clear Q_HF_t166
    have HF_t167 := Aside0.mk (Q_HF_t167 hb6_)
    clear Q_HF_t167
    clear Q_BK168
    have GW168 := Aside0.mk (Q_GW168 hb7_)
    clear Q_GW168
    have GE168 := Aside0.mk (Q_GE168 hb7_)
    clear Q_GE168
    have NB153_168 := Aside0.mk (Q_NB153_168 hb7_)
    clear Q_NB153_168
    have NB168_153 := Aside0.mk (Q_NB168_153 hb7_)
    clear Q_NB168_153
    have NB154_168 := Aside0.mk (Q_NB154_168 hb7_)
    clear Q_NB154_168
    have NB168_154 := Aside0.mk (Q_NB168_154 hb7_)
    clear Q_NB168_154
    have BK168 := Aside0.mk (Q_BK168_e8 hb8_)
    clear Q_BK168_e8
    clear hall hb0_ hb1_ hb2_ hb3_ hb6_ hb7_ hb8_
    have hF_t155 := HF_t155.out
    have hF_t156 := HF_t156.out
    have hF_t157 := HF_t157.out
    have hF_t158 := HF_t158.out
    have hF_t159 := HF_t159.out
    have hF_t160 := HF_t160.out
    have hF_t161 := HF_t161.out
    have hF_t162 := HF_t162.out
    have hF_t163 := HF_t163.out
    have hF_t164 := HF_t164.out
    have hF_t165 := HF_t165.out
    have hF_t166 := HF_t166.out
    have hF_t167 := HF_t167.out
    try go_wp2
    have n0_ := Aside0.mk (blk_drew BK153.out)
    have n1_ := Aside0.mk (blk_drew BK154.out)
    have n2_ := Aside0.mk (blk_drew BK168.out)
    have n3_ := Aside0.mk (below_drew1 HB.out)
    clear BK153
    clear BK154
    clear BK168
    clear HB
    have BK153 := n0_
    have BK154 := n1_
    have BK168 := n2_
    have HB := n3_
    clear n0_ n1_ n2_ n3_
    refine start_ (n := 9) (S := fun w' => True) (ds := []) #[false, false, false, false, false, false, false, false, false] (by kernel_rfl) rfl rfl trivial (fun hHeld => ?_); refine with_tabW laws_FnExactStepOnce.tab2 laws_FnExactStepOnce.bits2 (fun HT_ HW_ => ?_)
    generalize w54.drew = w55 at BK153 BK154 BK168 HB hHeld ⊢
    refine pure_ (i := 4) (N := some 22) (v := ?_) (a' := ?_) #[false, false, false, false, true, false, false, false, false] rfl rfl (any_of HT_.out (by kernel_rfl)) (fun _ _ _ h => h) (Or.inl ⟨by rfl, ?_⟩) ?_ ?_
    rotate_left
    · intro w'
      go_simp
      with_reducible rfl
    rotate_left
    · simp only [Act.put, List.setIfInBounds_toArray, List.set_cons_zero, List.set_cons_succ, i64_w, i32_w]
      rfl
    refine pure_ (i := 5) (N := some 23) (v := ?_) (a' := ?_) #[false, false, false, false, true, true, false, false, false] rfl rfl (any_of HT_.out (by kernel_rfl)) (fun _ _ _ h => h) (Or.inl ⟨by rfl, ?_⟩) ?_ ?_
    rotate_left
    · intro w'
      go_simp
      with_reducible rfl
    rotate_left
    · simp only [Act.put, List.setIfInBounds_toArray, List.set_cons_zero, List.set_cons_succ, i64_w, i32_w]
      rfl
    refine inv_at [0, 1, 2, 3, 6, 7, 8] (fun a0_ b a w' => ∃ (b_t169 : Nat) (b_t170 : Nat) (b_t171 : Nat) (b_t172 : Nat) (b_t173 : Nat) (b_t174 : Nat) (b_t175 : Nat) (b_t176 : Nat) (b_t177 : Nat) (b_t178 : Nat) (b_t179 : Nat) (b_t180 : Nat) (b_t181 : Nat) (gb182 : Nat) (m1_ : Value) (m3_ : Value) (m6_ : Value) (m7_ : Value), a = putSel a0_ b [(0, 18, .agg #[.float .f64 b_a0_0, .float .f64 b_a0_1, .float .f64 b_a0_2, .float .f64 b_a0_3]), (1, 19, m1_), (2, 20, .agg #[.float .f64 b_a1_0, .float .f64 b_a1_1, .float .f64 b_a1_2, .float .f64 b_a1_3, .float .f64 b_a1_4]), (3, 21, m3_), (6, 24, m6_), (7, 10, m7_)] ∧ (w'.heap[gb153]? = some (.cells #[.float .f64 b_a0_0, .float .f64 b_a0_1, .float .f64 b_a0_2, .float .f64 b_a0_3] 30 (0, 0))) ∧ (w'.heap[gb154]? = some (.cells #[.float .f64 b_a1_0, .float .f64 b_a1_1, .float .f64 b_a1_2, .float .f64 b_a1_3, .float .f64 b_a1_4] 50 (0, 0))) ∧ (w'.heap[gb168]? = some (.cells #[.float .f64 b_t164, .float .f64 b_t165, .float .f64 b_t166, .float .f64 b_t167] 32 (0, 0))) ∧ (Below w.heap.size w w') ∧ (b 1 = true → cn .f64 b_t169 = t169) ∧ (b 1 = true → cn .f64 b_t170 = t170) ∧ (b 1 = true → cn .f64 b_t171 = t171) ∧ (b 1 = true → cn .f64 b_t172 = t172) ∧ (b 3 = true → cn .f64 b_t173 = t173) ∧ (b 3 = true → cn .f64 b_t174 = t174) ∧ (b 3 = true → cn .f64 b_t175 = t175) ∧ (b 3 = true → cn .f64 b_t176 = t176) ∧ (b 3 = true → cn .f64 b_t177 = t177) ∧ (b 6 = true → cn .f64 b_t178 = t178) ∧ (b 6 = true → cn .f64 b_t179 = t179) ∧ (b 6 = true → cn .f64 b_t180 = t180) ∧ (b 6 = true → cn .f64 b_t181 = t181) ∧ (b 7 = true → b 8 = false → w'.heap[gb182]? = some (.cells #[.float .f64 0, .float .f64 0, .float .f64 0, .float .f64 0] 32 (0, 0))) ∧ (b 7 = true → w.heap.size ≤ gb182) ∧ (b 7 = true → w.heap.size ≤ gb182) ∧ (b 7 = true → gb153 ≠ gb182) ∧ (b 7 = true → gb182 ≠ gb153) ∧ (b 7 = true → gb154 ≠ gb182) ∧ (b 7 = true → gb182 ≠ gb154) ∧ (b 7 = true → gb168 ≠ gb182) ∧ (b 7 = true → gb182 ≠ gb168) ∧ (b 8 = true → w'.heap[gb182]? = some (.cells #[.float .f64 b_t178, .float .f64 b_t179, .float .f64 b_t180, .float .f64 b_t181] 32 (0, 0))) ∧ (b 1 = true → (m1_ : Value) = .agg #[.float .f64 b_t169, .float .f64 b_t170, .float .f64 b_t171, .float .f64 b_t172]) ∧ (b 3 = true → (m3_ : Value) = .agg #[.float .f64 b_t173, .float .f64 b_t174, .float .f64 b_t175, .float .f64 b_t176, .float .f64 b_t177]) ∧ (b 6 = true → (m6_ : Value) = .agg #[.float .f64 b_t178, .float .f64 b_t179, .float .f64 b_t180, .float .f64 b_t181]) ∧ (b 7 = true → (m7_ : Value) = .pointer (some ⟨gb182, 0, none⟩))) HT_.out HW_.out (by kernel_rfl) (by kernel_rfl) ?_ ?_ ?_
    · exact ⟨0, 0, 0, 0, 0, 0, 0, 0, 0, 0, 0, 0, 0, 0, .bool false, .bool false, .bool false, .bool false, by simp only [putSel, Bool.false_eq_true, if_false], BK153.out, BK154.out, BK168.out, HB.out, fun h_ => absurd h_ (by decide), fun h_ => absurd h_ (by decide), fun h_ => absurd h_ (by decide), fun h_ => absurd h_ (by decide), fun h_ => absurd h_ (by decide), fun h_ => absurd h_ (by decide), fun h_ => absurd h_ (by decide), fun h_ => absurd h_ (by decide), fun h_ => absurd h_ (by decide), fun h_ => absurd h_ (by decide), fun h_ => absurd h_ (by decide), fun h_ => absurd h_ (by decide), fun h_ => absurd h_ (by decide), fun h_ => absurd h_ (by decide), fun h_ => absurd h_ (by decide), fun h_ => absurd h_ (by decide), fun h_ => absurd h_ (by decide), fun h_ => absurd h_ (by decide), fun h_ => absurd h_ (by decide), fun h_ => absurd h_ (by decide), fun h_ => absurd h_ (by decide), fun h_ => absurd h_ (by decide), fun h_ => absurd h_ (by decide), fun h_ => absurd h_ (by decide), fun h_ => absurd h_ (by decide), fun h_ => absurd h_ (by decide), fun h_ => absurd h_ (by decide)⟩
    · skip
      clear BK153 BK154 BK168 HB
      refine steps_cons ?_ ?_
      · rintro b a w' ⟨b_t169, b_t170, b_t171, b_t172, b_t173, b_t174, b_t175, b_t176, b_t177, b_t178, b_t179, b_t180, b_t181, gb182, m1_, m3_, m6_, m7_, ha, Q_BK153, Q_BK154, Q_BK168, Q_HB, Q_HF_t169, Q_HF_t170, Q_HF_t171, Q_HF_t172, Q_HF_t173, Q_HF_t174, Q_HF_t175, Q_HF_t176, Q_HF_t177, Q_HF_t178, Q_HF_t179, Q_HF_t180, Q_HF_t181, Q_BK182, Q_GW182, Q_GE182, Q_NB153_182, Q_NB182_153, Q_NB154_182, Q_NB182_154, Q_NB168_182, Q_NB182_168, Q_BK182_e8, Q_X1_, Q_X3_, Q_X6_, Q_X7_⟩ hb_ hon hoff
        refine ⟨_, rfl, fun K hK => ?_⟩
        have e4 : a.tmps[4]? = some (.pointer (some ⟨gb153, 0, none⟩)) := by rw [ha]; exact (putSel_off rfl).trans rfl
        replace ha := Aside0.mk ha
        have BK153 := Aside0.mk Q_BK153
        have BK154 := Aside0.mk Q_BK154
        have BK168 := Aside0.mk Q_BK168
        have HB := Aside0.mk Q_HB
        have hc0_ : w'.cell? ⟨gb153, 0, none⟩ = some (.float .f64 b_a0_0) := (blk_cell BK153.out 0).trans rfl
        have hc1_ : w'.cell? ⟨gb153, 1, none⟩ = some (.float .f64 b_a0_1) := (blk_cell BK153.out 1).trans rfl
        have hc2_ : w'.cell? ⟨gb153, 2, none⟩ = some (.float .f64 b_a0_2) := (blk_cell BK153.out 2).trans rfl
        have hc3_ : w'.cell? ⟨gb153, 3, none⟩ = some (.float .f64 b_a0_3) := (blk_cell BK153.out 3).trans rfl
        refine value_ (w1 := w') (v := .agg #[.float .f64 b_a0_0, .float .f64 b_a0_1, .float .f64 b_a0_2, .float .f64 b_a0_3]) (by rfl) rfl ?_ ?_
        · go_simp
          (try simp only [i64_w])
          try rfl
        refine hK.out _ _ ⟨b_t169, b_t170, b_t171, b_t172, b_t173, b_t174, b_t175, b_t176, b_t177, b_t178, b_t179, b_t180, b_t181, gb182, m1_, m3_, m6_, m7_, (by rw [ha.out]; exact putSel_upk 0 hb_ rfl rfl rfl), Q_BK153, Q_BK154, Q_BK168, Q_HB, fun h0_ => absurd ((hoff 1 (by kernel_rfl)).symm.trans h0_) (by decide), fun h0_ => absurd ((hoff 1 (by kernel_rfl)).symm.trans h0_) (by decide), fun h0_ => absurd ((hoff 1 (by kernel_rfl)).symm.trans h0_) (by decide), fun h0_ => absurd ((hoff 1 (by kernel_rfl)).symm.trans h0_) (by decide), fun h0_ => absurd ((hoff 3 (by kernel_rfl)).symm.trans h0_) (by decide), fun h0_ => absurd ((hoff 3 (by kernel_rfl)).symm.trans h0_) (by decide), fun h0_ => absurd ((hoff 3 (by kernel_rfl)).symm.trans h0_) (by decide), fun h0_ => absurd ((hoff 3 (by kernel_rfl)).symm.trans h0_) (by decide), fun h0_ => absurd ((hoff 3 (by kernel_rfl)).symm.trans h0_) (by decide), fun h0_ => absurd ((hoff 6 (by kernel_rfl)).symm.trans h0_) (by decide), fun h0_ => absurd ((hoff 6 (by kernel_rfl)).symm.trans h0_) (by decide), fun h0_ => absurd ((hoff 6 (by kernel_rfl)).symm.trans h0_) (by decide), fun h0_ => absurd ((hoff 6 (by kernel_rfl)).symm.trans h0_) (by decide), Q_BK182, Q_GW182, Q_GE182, Q_NB153_182, Q_NB182_153, Q_NB154_182, Q_NB182_154, Q_NB168_182, Q_NB182_168, fun h0_ => absurd ((hoff 8 (by kernel_rfl)).symm.trans h0_) (by decide), fun h0_ => absurd ((hoff 1 (by kernel_rfl)).symm.trans h0_) (by decide), fun h0_ => absurd ((hoff 3 (by kernel_rfl)).symm.trans h0_) (by decide), fun h0_ => absurd ((hoff 6 (by kernel_rfl)).symm.trans h0_) (by decide), Q_X7_⟩
      refine steps_cons ?_ ?_
      · rintro b a w' ⟨b_t169, b_t170, b_t171, b_t172, b_t173, b_t174, b_t175, b_t176, b_t177, b_t178, b_t179, b_t180, b_t181, gb182, m1_, m3_, m6_, m7_, ha, Q_BK153, Q_BK154, Q_BK168, Q_HB, Q_HF_t169, Q_HF_t170, Q_HF_t171, Q_HF_t172, Q_HF_t173, Q_HF_t174, Q_HF_t175, Q_HF_t176, Q_HF_t177, Q_HF_t178, Q_HF_t179, Q_HF_t180, Q_HF_t181, Q_BK182, Q_GW182, Q_GE182, Q_NB153_182, Q_NB182_153, Q_NB154_182, Q_NB182_154, Q_NB168_182, Q_NB182_168, Q_BK182_e8, Q_X1_, Q_X3_, Q_X6_, Q_X7_⟩ hb_ hon hoff
        refine ⟨_, rfl, fun K hK => ?_⟩
        have e18 : a.tmps[18]? = some (.agg #[.float .f64 b_a0_0, .float .f64 b_a0_1, .float .f64 b_a0_2, .float .f64 b_a0_3]) := by rw [ha]; exact putSel_on (e := (0, 18, .agg #[.float .f64 b_a0_0, .float .f64 b_a0_1, .float .f64 b_a0_2, .float .f64 b_a0_3])) 0 rfl rfl (hon 0 (by kernel_rfl)) rfl
        replace ha := Aside0.mk ha
        have BK153 := Aside0.mk Q_BK153
        have BK154 := Aside0.mk Q_BK154
        have BK168 := Aside0.mk Q_BK168
        have HB := Aside0.mk Q_HB
        refine goes_ Try.func19 (by kernel_rfl) rfl #[.agg #[.float .f64 b_a0_0, .float .f64 b_a0_1, .float .f64 b_a0_2, .float .f64 b_a0_3]] (by rfl) rfl rfl (by first | (simp only [List.map_toArray, List.map_cons, List.map_nil, Act.eval, Array.getD_eq_getD_getElem?, Option.getD_some, e18]; done) | (simp only [List.map_toArray, List.map_cons, List.map_nil, Act.eval, Array.getD_eq_getD_getElem?, Option.getD_some, e18]; rfl)) ?_
        with_reducible refine (laws_toMotion.calls b_a0_0 a0_0 b_a0_1 a0_1 b_a0_2 a0_2 b_a0_3 a0_3 t169 t170 t171 t172 _ ?side1 ?side2 ?side3 ?side4 A8.out).mono ?_
        (case side1 => exact hF_a0_0)
        (case side2 => exact hF_a0_1)
        (case side3 => exact hF_a0_2)
        (case side4 => exact hF_a0_3)
        rintro e w56 ⟨b_t169, b_t170, b_t171, b_t172, rfl, hF_t169, hF_t170, hF_t171, hF_t172, hb⟩
        refine ⟨_, rfl, ?_⟩
        have n0_ := Aside0.mk (blk_below (g := gb153) (o := .cells #[.float .f64 b_a0_0, .float .f64 b_a0_1, .float .f64 b_a0_2, .float .f64 b_a0_3] 30 (0, 0)) (by (with_reducible repeat (first | refine blk_drewN ?_ _ | refine blk_drew ?_ | refine blk_alloc ?_ _)); exact BK153.out) hb)
        have n1_ := Aside0.mk (blk_below (g := gb154) (o := .cells #[.float .f64 b_a1_0, .float .f64 b_a1_1, .float .f64 b_a1_2, .float .f64 b_a1_3, .float .f64 b_a1_4] 50 (0, 0)) (by (with_reducible repeat (first | refine blk_drewN ?_ _ | refine blk_drew ?_ | refine blk_alloc ?_ _)); exact BK154.out) hb)
        have n2_ := Aside0.mk (blk_below (g := gb168) (o := .cells #[.float .f64 b_t164, .float .f64 b_t165, .float .f64 b_t166, .float .f64 b_t167] 32 (0, 0)) (by (with_reducible repeat (first | refine blk_drewN ?_ _ | refine blk_drew ?_ | refine blk_alloc ?_ _)); exact BK168.out) hb)
        have n3_ := Aside0.mk (below_step (by repeat (first | (with_reducible first | exact HB.out | apply below_alloc | apply pw_below_drewN | apply below_drew1 | refine below_set ?_ GE153.out | refine below_set ?_ GE154.out | refine below_set ?_ GE168.out) | exact HB.out)) hb)
        have z_BK182 := fun (h0_ : b 7 = true) (h1_ : b 8 = false) => (show w56.heap[gb182]? = some (.cells #[.float .f64 0, .float .f64 0, .float .f64 0, .float .f64 0] 32 (0, 0)) from by first | exact (blk_below (g := gb182) (o := .cells #[.float .f64 0, .float .f64 0, .float .f64 0, .float .f64 0] 32 (0, 0)) (by (with_reducible repeat (first | refine blk_drewN ?_ _ | refine blk_drew ?_ | refine blk_alloc ?_ _)); exact (Q_BK182 h0_ h1_)) hb))
        clear BK153
        clear BK154
        clear BK168
        clear HB
        have BK153 := n0_
        have BK154 := n1_
        have BK168 := n2_
        have HB := n3_
        clear n0_ n1_ n2_ n3_
        (try clear hb)
        (try clear hb2)
        (try clear hk)
        (try clear hi)
        refine hK.out _ _ ⟨b_t169, b_t170, b_t171, b_t172, b_t173, b_t174, b_t175, b_t176, b_t177, b_t178, b_t179, b_t180, b_t181, gb182, (.agg #[.float .f64 b_t169, .float .f64 b_t170, .float .f64 b_t171, .float .f64 b_t172]), m3_, m6_, m7_, (by rw [ha.out]; exact putSel_upk 1 hb_ rfl rfl rfl), (by (with_reducible repeat (first | refine blk_drewN ?_ _ | refine blk_drew ?_ | refine blk_alloc ?_ _)); exact BK153.out), (by (with_reducible repeat (first | refine blk_drewN ?_ _ | refine blk_drew ?_ | refine blk_alloc ?_ _)); exact BK154.out), (by (with_reducible repeat (first | refine blk_drewN ?_ _ | refine blk_drew ?_ | refine blk_alloc ?_ _)); exact BK168.out), (by repeat (first | (with_reducible first | exact HB.out | apply below_alloc | apply pw_below_drewN | apply below_drew1 | refine below_set ?_ GE153.out | refine below_set ?_ GE154.out | refine below_set ?_ GE168.out) | exact HB.out)), fun _ => hF_t169, fun _ => hF_t170, fun _ => hF_t171, fun _ => hF_t172, fun h0_ => absurd ((hoff 3 (by kernel_rfl)).symm.trans h0_) (by decide), fun h0_ => absurd ((hoff 3 (by kernel_rfl)).symm.trans h0_) (by decide), fun h0_ => absurd ((hoff 3 (by kernel_rfl)).symm.trans h0_) (by decide), fun h0_ => absurd ((hoff 3 (by kernel_rfl)).symm.trans h0_) (by decide), fun h0_ => absurd ((hoff 3 (by kernel_rfl)).symm.trans h0_) (by decide), fun h0_ => absurd ((hoff 6 (by kernel_rfl)).symm.trans h0_) (by decide), fun h0_ => absurd ((hoff 6 (by kernel_rfl)).symm.trans h0_) (by decide), fun h0_ => absurd ((hoff 6 (by kernel_rfl)).symm.trans h0_) (by decide), fun h0_ => absurd ((hoff 6 (by kernel_rfl)).symm.trans h0_) (by decide), z_BK182, Q_GW182, Q_GE182, Q_NB153_182, Q_NB182_153, Q_NB154_182, Q_NB182_154, Q_NB168_182, Q_NB182_168, fun h0_ => absurd ((hoff 8 (by kernel_rfl)).symm.trans h0_) (by decide), fun _ => rfl, fun h0_ => absurd ((hoff 3 (by kernel_rfl)).symm.trans h0_) (by decide), fun h0_ => absurd ((hoff 6 (by kernel_rfl)).symm.trans h0_) (by decide), Q_X7_⟩
      refine steps_cons ?_ ?_
      · rintro b a w' ⟨b_t169, b_t170, b_t171, b_t172, b_t173, b_t174, b_t175, b_t176, b_t177, b_t178, b_t179, b_t180, b_t181, gb182, m1_, m3_, m6_, m7_, ha, Q_BK153, Q_BK154, Q_BK168, Q_HB, Q_HF_t169, Q_HF_t170, Q_HF_t171, Q_HF_t172, Q_HF_t173, Q_HF_t174, Q_HF_t175, Q_HF_t176, Q_HF_t177, Q_HF_t178, Q_HF_t179, Q_HF_t180, Q_HF_t181, Q_BK182, Q_GW182, Q_GE182, Q_NB153_182, Q_NB182_153, Q_NB154_182, Q_NB182_154, Q_NB168_182, Q_NB182_168, Q_BK182_e8, Q_X1_, Q_X3_, Q_X6_, Q_X7_⟩ hb_ hon hoff
        refine ⟨_, rfl, fun K hK => ?_⟩
        have e5 : a.tmps[5]? = some (.pointer (some ⟨gb154, 0, none⟩)) := by rw [ha]; exact (putSel_off rfl).trans rfl
        replace ha := Aside0.mk ha
        have BK153 := Aside0.mk Q_BK153
        have BK154 := Aside0.mk Q_BK154
        have BK168 := Aside0.mk Q_BK168
        have HB := Aside0.mk Q_HB
        have hc0_ : w'.cell? ⟨gb154, 0, none⟩ = some (.float .f64 b_a1_0) := (blk_cell BK154.out 0).trans rfl
        have hc1_ : w'.cell? ⟨gb154, 1, none⟩ = some (.float .f64 b_a1_1) := (blk_cell BK154.out 1).trans rfl
        have hc2_ : w'.cell? ⟨gb154, 2, none⟩ = some (.float .f64 b_a1_2) := (blk_cell BK154.out 2).trans rfl
        have hc3_ : w'.cell? ⟨gb154, 3, none⟩ = some (.float .f64 b_a1_3) := (blk_cell BK154.out 3).trans rfl
        have hc4_ : w'.cell? ⟨gb154, 4, none⟩ = some (.float .f64 b_a1_4) := (blk_cell BK154.out 4).trans rfl
        refine value_ (w1 := w') (v := .agg #[.float .f64 b_a1_0, .float .f64 b_a1_1, .float .f64 b_a1_2, .float .f64 b_a1_3, .float .f64 b_a1_4]) (by rfl) rfl ?_ ?_
        · go_simp
          (try simp only [i64_w])
          try rfl
        refine hK.out _ _ ⟨b_t169, b_t170, b_t171, b_t172, b_t173, b_t174, b_t175, b_t176, b_t177, b_t178, b_t179, b_t180, b_t181, gb182, m1_, m3_, m6_, m7_, (by rw [ha.out]; exact putSel_upk 2 hb_ rfl rfl rfl), Q_BK153, Q_BK154, Q_BK168, Q_HB, Q_HF_t169, Q_HF_t170, Q_HF_t171, Q_HF_t172, fun h0_ => absurd ((hoff 3 (by kernel_rfl)).symm.trans h0_) (by decide), fun h0_ => absurd ((hoff 3 (by kernel_rfl)).symm.trans h0_) (by decide), fun h0_ => absurd ((hoff 3 (by kernel_rfl)).symm.trans h0_) (by decide), fun h0_ => absurd ((hoff 3 (by kernel_rfl)).symm.trans h0_) (by decide), fun h0_ => absurd ((hoff 3 (by kernel_rfl)).symm.trans h0_) (by decide), fun h0_ => absurd ((hoff 6 (by kernel_rfl)).symm.trans h0_) (by decide), fun h0_ => absurd ((hoff 6 (by kernel_rfl)).symm.trans h0_) (by decide), fun h0_ => absurd ((hoff 6 (by kernel_rfl)).symm.trans h0_) (by decide), fun h0_ => absurd ((hoff 6 (by kernel_rfl)).symm.trans h0_) (by decide), Q_BK182, Q_GW182, Q_GE182, Q_NB153_182, Q_NB182_153, Q_NB154_182, Q_NB182_154, Q_NB168_182, Q_NB182_168, fun h0_ => absurd ((hoff 8 (by kernel_rfl)).symm.trans h0_) (by decide), Q_X1_, fun h0_ => absurd ((hoff 3 (by kernel_rfl)).symm.trans h0_) (by decide), fun h0_ => absurd ((hoff 6 (by kernel_rfl)).symm.trans h0_) (by decide), Q_X7_⟩
      refine steps_cons ?_ ?_
      · rintro b a w' ⟨b_t169, b_t170, b_t171, b_t172, b_t173, b_t174, b_t175, b_t176, b_t177, b_t178, b_t179, b_t180, b_t181, gb182, m1_, m3_, m6_, m7_, ha, Q_BK153, Q_BK154, Q_BK168, Q_HB, Q_HF_t169, Q_HF_t170, Q_HF_t171, Q_HF_t172, Q_HF_t173, Q_HF_t174, Q_HF_t175, Q_HF_t176, Q_HF_t177, Q_HF_t178, Q_HF_t179, Q_HF_t180, Q_HF_t181, Q_BK182, Q_GW182, Q_GE182, Q_NB153_182, Q_NB182_153, Q_NB154_182, Q_NB182_154, Q_NB168_182, Q_NB182_168, Q_BK182_e8, Q_X1_, Q_X3_, Q_X6_, Q_X7_⟩ hb_ hon hoff
        refine ⟨_, rfl, fun K hK => ?_⟩
        have e20 : a.tmps[20]? = some (.agg #[.float .f64 b_a1_0, .float .f64 b_a1_1, .float .f64 b_a1_2, .float .f64 b_a1_3, .float .f64 b_a1_4]) := by rw [ha]; exact putSel_on (e := (2, 20, .agg #[.float .f64 b_a1_0, .float .f64 b_a1_1, .float .f64 b_a1_2, .float .f64 b_a1_3, .float .f64 b_a1_4])) 2 rfl rfl (hon 2 (by kernel_rfl)) rfl
        replace ha := Aside0.mk ha
        have BK153 := Aside0.mk Q_BK153
        have BK154 := Aside0.mk Q_BK154
        have BK168 := Aside0.mk Q_BK168
        have HB := Aside0.mk Q_HB
        have HF_t169 := Aside0.mk (Q_HF_t169 (hon 1 (by kernel_rfl)))
        have HF_t170 := Aside0.mk (Q_HF_t170 (hon 1 (by kernel_rfl)))
        have HF_t171 := Aside0.mk (Q_HF_t171 (hon 1 (by kernel_rfl)))
        have HF_t172 := Aside0.mk (Q_HF_t172 (hon 1 (by kernel_rfl)))
        have hF_t169 := HF_t169.out
        have hF_t170 := HF_t170.out
        have hF_t171 := HF_t171.out
        have hF_t172 := HF_t172.out
        refine goes_ Try.func37 (by kernel_rfl) rfl #[.agg #[.float .f64 b_a1_0, .float .f64 b_a1_1, .float .f64 b_a1_2, .float .f64 b_a1_3, .float .f64 b_a1_4]] (by rfl) rfl rfl (by first | (simp only [List.map_toArray, List.map_cons, List.map_nil, Act.eval, Array.getD_eq_getD_getElem?, Option.getD_some, e20]; done) | (simp only [List.map_toArray, List.map_cons, List.map_nil, Act.eval, Array.getD_eq_getD_getElem?, Option.getD_some, e20]; rfl)) ?_
        with_reducible refine (laws_toForces.calls b_a1_0 a1_0 b_a1_1 a1_1 b_a1_2 a1_2 b_a1_3 a1_3 b_a1_4 a1_4 t173 t174 t175 t176 t177 _ ?side1 ?side2 ?side3 ?side4 ?side5 A9.out).mono ?_
        (case side1 => exact hF_a1_0)
        (case side2 => exact hF_a1_1)
        (case side3 => exact hF_a1_2)
        (case side4 => exact hF_a1_3)
        (case side5 => exact hF_a1_4)
        rintro e w58 ⟨b_t173, b_t174, b_t175, b_t176, b_t177, rfl, hF_t173, hF_t174, hF_t175, hF_t176, hF_t177, hb⟩
        refine ⟨_, rfl, ?_⟩
        have n0_ := Aside0.mk (blk_below (g := gb153) (o := .cells #[.float .f64 b_a0_0, .float .f64 b_a0_1, .float .f64 b_a0_2, .float .f64 b_a0_3] 30 (0, 0)) (by (with_reducible repeat (first | refine blk_drewN ?_ _ | refine blk_drew ?_ | refine blk_alloc ?_ _)); exact BK153.out) hb)
        have n1_ := Aside0.mk (blk_below (g := gb154) (o := .cells #[.float .f64 b_a1_0, .float .f64 b_a1_1, .float .f64 b_a1_2, .float .f64 b_a1_3, .float .f64 b_a1_4] 50 (0, 0)) (by (with_reducible repeat (first | refine blk_drewN ?_ _ | refine blk_drew ?_ | refine blk_alloc ?_ _)); exact BK154.out) hb)
        have n2_ := Aside0.mk (blk_below (g := gb168) (o := .cells #[.float .f64 b_t164, .float .f64 b_t165, .float .f64 b_t166, .float .f64 b_t167] 32 (0, 0)) (by (with_reducible repeat (first | refine blk_drewN ?_ _ | refine blk_drew ?_ | refine blk_alloc ?_ _)); exact BK168.out) hb)
        have n3_ := Aside0.mk (below_step (by repeat (first | (with_reducible first | exact HB.out | apply below_alloc | apply pw_below_drewN | apply below_drew1 | refine below_set ?_ GE153.out | refine below_set ?_ GE154.out | refine below_set ?_ GE168.out) | exact HB.out)) hb)
        have z_BK182 := fun (h0_ : b 7 = true) (h1_ : b 8 = false) => (show w58.heap[gb182]? = some (.cells #[.float .f64 0, .float .f64 0, .float .f64 0, .float .f64 0] 32 (0, 0)) from by first | exact (blk_below (g := gb182) (o := .cells #[.float .f64 0, .float .f64 0, .float .f64 0, .float .f64 0] 32 (0, 0)) (by (with_reducible repeat (first | refine blk_drewN ?_ _ | refine blk_drew ?_ | refine blk_alloc ?_ _)); exact (Q_BK182 h0_ h1_)) hb))
        clear BK153
        clear BK154
        clear BK168
        clear HB
        have BK153 := n0_
        have BK154 := n1_
        have BK168 := n2_
        have HB := n3_
        clear n0_ n1_ n2_ n3_
        (try clear hb)
        (try clear hb2)
        (try clear hk)
        (try clear hi)
        refine hK.out _ _ ⟨b_t169, b_t170, b_t171, b_t172, b_t173, b_t174, b_t175, b_t176, b_t177, b_t178, b_t179, b_t180, b_t181, gb182, m1_, (.agg #[.float .f64 b_t173, .float .f64 b_t174, .float .f64 b_t175, .float .f64 b_t176, .float .f64 b_t177]), m6_, m7_, (by rw [ha.out]; exact putSel_upk 3 hb_ rfl rfl rfl), (by (with_reducible repeat (first | refine blk_drewN ?_ _ | refine blk_drew ?_ | refine blk_alloc ?_ _)); exact BK153.out), (by (with_reducible repeat (first | refine blk_drewN ?_ _ | refine blk_drew ?_ | refine blk_alloc ?_ _)); exact BK154.out), (by (with_reducible repeat (first | refine blk_drewN ?_ _ | refine blk_drew ?_ | refine blk_alloc ?_ _)); exact BK168.out), (by repeat (first | (with_reducible first | exact HB.out | apply below_alloc | apply pw_below_drewN | apply below_drew1 | refine below_set ?_ GE153.out | refine below_set ?_ GE154.out | refine below_set ?_ GE168.out) | exact HB.out)), fun _ => hF_t169, fun _ => hF_t170, fun _ => hF_t171, fun _ => hF_t172, fun _ => hF_t173, fun _ => hF_t174, fun _ => hF_t175, fun _ => hF_t176, fun _ => hF_t177, fun h0_ => absurd ((hoff 6 (by kernel_rfl)).symm.trans h0_) (by decide), fun h0_ => absurd ((hoff 6 (by kernel_rfl)).symm.trans h0_) (by decide), fun h0_ => absurd ((hoff 6 (by kernel_rfl)).symm.trans h0_) (by decide), fun h0_ => absurd ((hoff 6 (by kernel_rfl)).symm.trans h0_) (by decide), z_BK182, Q_GW182, Q_GE182, Q_NB153_182, Q_NB182_153, Q_NB154_182, Q_NB182_154, Q_NB168_182, Q_NB182_168, fun h0_ => absurd ((hoff 8 (by kernel_rfl)).symm.trans h0_) (by decide), Q_X1_, fun _ => rfl, fun h0_ => absurd ((hoff 6 (by kernel_rfl)).symm.trans h0_) (by decide), Q_X7_⟩
      refine steps_cons ?_ ?_
      · rintro b a w' ⟨b_t169, b_t170, b_t171, b_t172, b_t173, b_t174, b_t175, b_t176, b_t177, b_t178, b_t179, b_t180, b_t181, gb182, m1_, m3_, m6_, m7_, ha, Q_BK153, Q_BK154, Q_BK168, Q_HB, Q_HF_t169, Q_HF_t170, Q_HF_t171, Q_HF_t172, Q_HF_t173, Q_HF_t174, Q_HF_t175, Q_HF_t176, Q_HF_t177, Q_HF_t178, Q_HF_t179, Q_HF_t180, Q_HF_t181, Q_BK182, Q_GW182, Q_GE182, Q_NB153_182, Q_NB182_153, Q_NB154_182, Q_NB182_154, Q_NB168_182, Q_NB182_168, Q_BK182_e8, Q_X1_, Q_X3_, Q_X6_, Q_X7_⟩ hb_ hon hoff
        refine ⟨_, rfl, fun K hK => ?_⟩
        have e19 : a.tmps[19]? = some (m1_) := by rw [ha]; exact putSel_on (e := (1, 19, m1_)) 1 rfl rfl (hon 1 (by kernel_rfl)) rfl
        rw [Q_X1_ (hon 1 (by kernel_rfl))] at e19
        have e21 : a.tmps[21]? = some (m3_) := by rw [ha]; exact putSel_on (e := (3, 21, m3_)) 3 rfl rfl (hon 3 (by kernel_rfl)) rfl
        rw [Q_X3_ (hon 3 (by kernel_rfl))] at e21
        have e22 : a.tmps[22]? = some (.float .f64 b_a2) := by rw [ha]; exact (putSel_off rfl).trans rfl
        have e23 : a.tmps[23]? = some (.float .f64 b_a3) := by rw [ha]; exact (putSel_off rfl).trans rfl
        replace ha := Aside0.mk ha
        have BK153 := Aside0.mk Q_BK153
        have BK154 := Aside0.mk Q_BK154
        have BK168 := Aside0.mk Q_BK168
        have HB := Aside0.mk Q_HB
        have HF_t169 := Aside0.mk (Q_HF_t169 (hon 1 (by kernel_rfl)))
        have HF_t170 := Aside0.mk (Q_HF_t170 (hon 1 (by kernel_rfl)))
        have HF_t171 := Aside0.mk (Q_HF_t171 (hon 1 (by kernel_rfl)))
        have HF_t172 := Aside0.mk (Q_HF_t172 (hon 1 (by kernel_rfl)))
        have HF_t173 := Aside0.mk (Q_HF_t173 (hon 3 (by kernel_rfl)))
        have HF_t174 := Aside0.mk (Q_HF_t174 (hon 3 (by kernel_rfl)))
        have HF_t175 := Aside0.mk (Q_HF_t175 (hon 3 (by kernel_rfl)))
        have HF_t176 := Aside0.mk (Q_HF_t176 (hon 3 (by kernel_rfl)))
        have HF_t177 := Aside0.mk (Q_HF_t177 (hon 3 (by kernel_rfl)))
        have hF_t169 := HF_t169.out
        have hF_t170 := HF_t170.out
        have hF_t171 := HF_t171.out
        have hF_t172 := HF_t172.out
        have hF_t173 := HF_t173.out
        have hF_t174 := HF_t174.out
        have hF_t175 := HF_t175.out
        have hF_t176 := HF_t176.out
        have hF_t177 := HF_t177.out
        refine goes_ Try.func38 (by kernel_rfl) rfl #[.agg #[.float .f64 b_t169, .float .f64 b_t170, .float .f64 b_t171, .float .f64 b_t172], .agg #[.float .f64 b_t173, .float .f64 b_t174, .float .f64 b_t175, .float .f64 b_t176, .float .f64 b_t177], .float .f64 b_a2, .float .f64 b_a3] (by rfl) rfl rfl (by first | (simp only [List.map_toArray, List.map_cons, List.map_nil, Act.eval, Array.getD_eq_getD_getElem?, Option.getD_some, e19, e21, e22, e23]; done) | (simp only [List.map_toArray, List.map_cons, List.map_nil, Act.eval, Array.getD_eq_getD_getElem?, Option.getD_some, e19, e21, e22, e23]; rfl)) ?_
        with_reducible refine (impl_StepOnce.calls b_t169 t169 b_t170 t170 b_t171 t171 b_t172 t172 b_t173 t173 b_t174 t174 b_t175 t175 b_t176 t176 b_t177 t177 b_a2 a2 b_a3 a3 t178 t179 t180 t181 _ ?side1 ?side2 ?side3 ?side4 ?side5 ?side6 ?side7 ?side8 ?side9 ?side10 ?side11 A10.out).mono ?_
        (case side1 => exact hF_t169)
        (case side2 => exact hF_t170)
        (case side3 => exact hF_t171)
        (case side4 => exact hF_t172)
        (case side5 => exact hF_t173)
        (case side6 => exact hF_t174)
        (case side7 => exact hF_t175)
        (case side8 => exact hF_t176)
        (case side9 => exact hF_t177)
        (case side10 => exact hF_a2)
        (case side11 => exact hF_a3)
        rintro e w59 ⟨b_t178, b_t179, b_t180, b_t181, rfl, hF_t178, hF_t179, hF_t180, hF_t181, hb⟩
        refine ⟨_, rfl, ?_⟩
        have n0_ := Aside0.mk (blk_below (g := gb153) (o := .cells #[.float .f64 b_a0_0, .float .f64 b_a0_1, .float .f64 b_a0_2, .float .f64 b_a0_3] 30 (0, 0)) (by (with_reducible repeat (first | refine blk_drewN ?_ _ | refine blk_drew ?_ | refine blk_alloc ?_ _)); exact BK153.out) hb)
        have n1_ := Aside0.mk (blk_below (g := gb154) (o := .cells #[.float .f64 b_a1_0, .float .f64 b_a1_1, .float .f64 b_a1_2, .float .f64 b_a1_3, .float .f64 b_a1_4] 50 (0, 0)) (by (with_reducible repeat (first | refine blk_drewN ?_ _ | refine blk_drew ?_ | refine blk_alloc ?_ _)); exact BK154.out) hb)
        have n2_ := Aside0.mk (blk_below (g := gb168) (o := .cells #[.float .f64 b_t164, .float .f64 b_t165, .float .f64 b_t166, .float .f64 b_t167] 32 (0, 0)) (by (with_reducible repeat (first | refine blk_drewN ?_ _ | refine blk_drew ?_ | refine blk_alloc ?_ _)); exact BK168.out) hb)
        have n3_ := Aside0.mk (below_step (by repeat (first | (with_reducible first | exact HB.out | apply below_alloc | apply pw_below_drewN | apply below_drew1 | refine below_set ?_ GE153.out | refine below_set ?_ GE154.out | refine below_set ?_ GE168.out) | exact HB.out)) hb)
        have z_BK182 := fun (h0_ : b 7 = true) (h1_ : b 8 = false) => (show w59.heap[gb182]? = some (.cells #[.float .f64 0, .float .f64 0, .float .f64 0, .float .f64 0] 32 (0, 0)) from by first | exact (blk_below (g := gb182) (o := .cells #[.float .f64 0, .float .f64 0, .float .f64 0, .float .f64 0] 32 (0, 0)) (by (with_reducible repeat (first | refine blk_drewN ?_ _ | refine blk_drew ?_ | refine blk_alloc ?_ _)); exact (Q_BK182 h0_ h1_)) hb))
        clear BK153
        clear BK154
        clear BK168
        clear HB
        have BK153 := n0_
        have BK154 := n1_
        have BK168 := n2_
        have HB := n3_
        clear n0_ n1_ n2_ n3_
        (try clear hb)
        (try clear hb2)
        (try clear hk)
        (try clear hi)
        refine hK.out _ _ ⟨b_t169, b_t170, b_t171, b_t172, b_t173, b_t174, b_t175, b_t176, b_t177, b_t178, b_t179, b_t180, b_t181, gb182, m1_, m3_, (.agg #[.float .f64 b_t178, .float .f64 b_t179, .float .f64 b_t180, .float .f64 b_t181]), m7_, (by rw [ha.out]; exact putSel_upk 4 hb_ rfl rfl rfl), (by (with_reducible repeat (first | refine blk_drewN ?_ _ | refine blk_drew ?_ | refine blk_alloc ?_ _)); exact BK153.out), (by (with_reducible repeat (first | refine blk_drewN ?_ _ | refine blk_drew ?_ | refine blk_alloc ?_ _)); exact BK154.out), (by (with_reducible repeat (first | refine blk_drewN ?_ _ | refine blk_drew ?_ | refine blk_alloc ?_ _)); exact BK168.out), (by repeat (first | (with_reducible first | exact HB.out | apply below_alloc | apply pw_below_drewN | apply below_drew1 | refine below_set ?_ GE153.out | refine below_set ?_ GE154.out | refine below_set ?_ GE168.out) | exact HB.out)), fun _ => hF_t169, fun _ => hF_t170, fun _ => hF_t171, fun _ => hF_t172, fun _ => hF_t173, fun _ => hF_t174, fun _ => hF_t175, fun _ => hF_t176, fun _ => hF_t177, fun _ => hF_t178, fun _ => hF_t179, fun _ => hF_t180, fun _ => hF_t181, z_BK182, Q_GW182, Q_GE182, Q_NB153_182, Q_NB182_153, Q_NB154_182, Q_NB182_154, Q_NB168_182, Q_NB182_168, fun h0_ => absurd ((hoff 8 (by kernel_rfl)).symm.trans h0_) (by decide), Q_X1_, Q_X3_, fun _ => rfl, Q_X7_⟩
      refine steps_cons ?_ ?_
      · rintro b a w' ⟨b_t169, b_t170, b_t171, b_t172, b_t173, b_t174, b_t175, b_t176, b_t177, b_t178, b_t179, b_t180, b_t181, gb182, m1_, m3_, m6_, m7_, ha, Q_BK153, Q_BK154, Q_BK168, Q_HB, Q_HF_t169, Q_HF_t170, Q_HF_t171, Q_HF_t172, Q_HF_t173, Q_HF_t174, Q_HF_t175, Q_HF_t176, Q_HF_t177, Q_HF_t178, Q_HF_t179, Q_HF_t180, Q_HF_t181, Q_BK182, Q_GW182, Q_GE182, Q_NB153_182, Q_NB182_153, Q_NB154_182, Q_NB182_154, Q_NB168_182, Q_NB182_168, Q_BK182_e8, Q_X1_, Q_X3_, Q_X6_, Q_X7_⟩ hb_ hon hoff
        refine ⟨_, rfl, fun K hK => ?_⟩
        replace ha := Aside0.mk ha
        have BK153 := Aside0.mk Q_BK153
        have BK154 := Aside0.mk Q_BK154
        have BK168 := Aside0.mk Q_BK168
        have HB := Aside0.mk Q_HB
        refine box_step ?hg (N := 10) ?hd (cs := #[.float .f64 0, .float .f64 0, .float .f64 0, .float .f64 0]) (t := 32) ?hr ?_; (case hd => rfl); (case hg => rfl); (case hr => first | (go_simp; done) | (go_simp; rfl))
        intro gb182 hg w56 hbox hb
        have n0_ := Aside0.mk (blk_below (g := gb153) (o := .cells #[.float .f64 b_a0_0, .float .f64 b_a0_1, .float .f64 b_a0_2, .float .f64 b_a0_3] 30 (0, 0)) (by (with_reducible repeat (first | refine blk_drewN ?_ _ | refine blk_drew ?_ | refine blk_alloc ?_ _)); exact BK153.out) hb)
        have n1_ := Aside0.mk (blk_below (g := gb154) (o := .cells #[.float .f64 b_a1_0, .float .f64 b_a1_1, .float .f64 b_a1_2, .float .f64 b_a1_3, .float .f64 b_a1_4] 50 (0, 0)) (by (with_reducible repeat (first | refine blk_drewN ?_ _ | refine blk_drew ?_ | refine blk_alloc ?_ _)); exact BK154.out) hb)
        have n2_ := Aside0.mk (blk_below (g := gb168) (o := .cells #[.float .f64 b_t164, .float .f64 b_t165, .float .f64 b_t166, .float .f64 b_t167] 32 (0, 0)) (by (with_reducible repeat (first | refine blk_drewN ?_ _ | refine blk_drew ?_ | refine blk_alloc ?_ _)); exact BK168.out) hb)
        have n3_ := Aside0.mk (below_step (by repeat (first | (with_reducible first | exact HB.out | apply below_alloc | apply pw_below_drewN | apply below_drew1 | refine below_set ?_ GE153.out | refine below_set ?_ GE154.out | refine below_set ?_ GE168.out) | exact HB.out)) hb)
        have n4_ := Aside0.mk (hbox)
        have n5_ := Aside0.mk ((by rw [hg]; exact (below_size (by repeat (first | (with_reducible first | exact HB.out | apply below_alloc | apply pw_below_drewN | apply below_drew1 | refine below_set ?_ GE153.out | refine below_set ?_ GE154.out | refine below_set ?_ GE168.out) | exact HB.out))) : w.heap.size ≤ gb182))
        have n6_ := Aside0.mk ((by rw [hg]; exact (below_size (by repeat (first | (with_reducible first | exact HB.out | apply below_alloc | apply pw_below_drewN | apply below_drew1 | refine below_set ?_ GE153.out | refine below_set ?_ GE154.out | refine below_set ?_ GE168.out) | exact HB.out))) : w.heap.size ≤ gb182))
        have n7_ := Aside0.mk ((by rw [hg]; exact Nat.ne_of_lt (blk_lt (g := gb153) (o := .cells #[.float .f64 b_a0_0, .float .f64 b_a0_1, .float .f64 b_a0_2, .float .f64 b_a0_3] 30 (0, 0)) (by (with_reducible repeat (first | refine blk_drewN ?_ _ | refine blk_drew ?_ | refine blk_alloc ?_ _)); exact BK153.out)) : gb153 ≠ gb182))
        have n8_ := Aside0.mk ((by rw [hg]; exact Nat.ne_of_gt (blk_lt (g := gb153) (o := .cells #[.float .f64 b_a0_0, .float .f64 b_a0_1, .float .f64 b_a0_2, .float .f64 b_a0_3] 30 (0, 0)) (by (with_reducible repeat (first | refine blk_drewN ?_ _ | refine blk_drew ?_ | refine blk_alloc ?_ _)); exact BK153.out)) : gb182 ≠ gb153))
        have n9_ := Aside0.mk ((by rw [hg]; exact Nat.ne_of_lt (blk_lt (g := gb154) (o := .cells #[.float .f64 b_a1_0, .float .f64 b_a1_1, .float .f64 b_a1_2, .float .f64 b_a1_3, .float .f64 b_a1_4] 50 (0, 0)) (by (with_reducible repeat (first | refine blk_drewN ?_ _ | refine blk_drew ?_ | refine blk_alloc ?_ _)); exact BK154.out)) : gb154 ≠ gb182))
        have n10_ := Aside0.mk ((by rw [hg]; exact Nat.ne_of_gt (blk_lt (g := gb154) (o := .cells #[.float .f64 b_a1_0, .float .f64 b_a1_1, .float .f64 b_a1_2, .float .f64 b_a1_3, .float .f64 b_a1_4] 50 (0, 0)) (by (with_reducible repeat (first | refine blk_drewN ?_ _ | refine blk_drew ?_ | refine blk_alloc ?_ _)); exact BK154.out)) : gb182 ≠ gb154))
        have n11_ := Aside0.mk ((by rw [hg]; exact Nat.ne_of_lt (blk_lt (g := gb168) (o := .cells #[.float .f64 b_t164, .float .f64 b_t165, .float .f64 b_t166, .float .f64 b_t167] 32 (0, 0)) (by (with_reducible repeat (first | refine blk_drewN ?_ _ | refine blk_drew ?_ | refine blk_alloc ?_ _)); exact BK168.out)) : gb168 ≠ gb182))
        have n12_ := Aside0.mk ((by rw [hg]; exact Nat.ne_of_gt (blk_lt (g := gb168) (o := .cells #[.float .f64 b_t164, .float .f64 b_t165, .float .f64 b_t166, .float .f64 b_t167] 32 (0, 0)) (by (with_reducible repeat (first | refine blk_drewN ?_ _ | refine blk_drew ?_ | refine blk_alloc ?_ _)); exact BK168.out)) : gb182 ≠ gb168))
        clear BK153
        clear BK154
        clear BK168
        clear HB
        have BK153 := n0_
        have BK154 := n1_
        have BK168 := n2_
        have HB := n3_
        have BK182 := n4_
        have GW182 := n5_
        have GE182 := n6_
        have NB153_182 := n7_
        have NB182_153 := n8_
        have NB154_182 := n9_
        have NB182_154 := n10_
        have NB168_182 := n11_
        have NB182_168 := n12_
        clear n0_ n1_ n2_ n3_ n4_ n5_ n6_ n7_ n8_ n9_ n10_ n11_ n12_
        clear hb hbox hg
        refine hK.out _ _ ⟨b_t169, b_t170, b_t171, b_t172, b_t173, b_t174, b_t175, b_t176, b_t177, b_t178, b_t179, b_t180, b_t181, gb182, m1_, m3_, m6_, (.pointer (some ⟨gb182, 0, none⟩)), (by rw [ha.out]; exact putSel_upk 5 hb_ rfl rfl rfl), (by (with_reducible repeat (first | refine blk_drewN ?_ _ | refine blk_drew ?_ | refine blk_alloc ?_ _)); exact BK153.out), (by (with_reducible repeat (first | refine blk_drewN ?_ _ | refine blk_drew ?_ | refine blk_alloc ?_ _)); exact BK154.out), (by (with_reducible repeat (first | refine blk_drewN ?_ _ | refine blk_drew ?_ | refine blk_alloc ?_ _)); exact BK168.out), (by repeat (first | (with_reducible first | exact HB.out | apply below_alloc | apply pw_below_drewN | apply below_drew1 | refine below_set ?_ GE153.out | refine below_set ?_ GE154.out | refine below_set ?_ GE168.out | refine below_set ?_ GE182.out) | exact HB.out)), Q_HF_t169, Q_HF_t170, Q_HF_t171, Q_HF_t172, Q_HF_t173, Q_HF_t174, Q_HF_t175, Q_HF_t176, Q_HF_t177, Q_HF_t178, Q_HF_t179, Q_HF_t180, Q_HF_t181, fun _ _ => (by (with_reducible repeat (first | refine blk_drewN ?_ _ | refine blk_drew ?_ | refine blk_alloc ?_ _)); exact BK182.out), fun _ => GW182.out, fun _ => GE182.out, fun _ => NB153_182.out, fun _ => NB182_153.out, fun _ => NB154_182.out, fun _ => NB182_154.out, fun _ => NB168_182.out, fun _ => NB182_168.out, fun h0_ => absurd ((hoff 8 (by kernel_rfl)).symm.trans h0_) (by decide), Q_X1_, Q_X3_, Q_X6_, fun _ => rfl⟩
      refine steps_cons ?_ ?_
      · rintro b a w' ⟨b_t169, b_t170, b_t171, b_t172, b_t173, b_t174, b_t175, b_t176, b_t177, b_t178, b_t179, b_t180, b_t181, gb182, m1_, m3_, m6_, m7_, ha, Q_BK153, Q_BK154, Q_BK168, Q_HB, Q_HF_t169, Q_HF_t170, Q_HF_t171, Q_HF_t172, Q_HF_t173, Q_HF_t174, Q_HF_t175, Q_HF_t176, Q_HF_t177, Q_HF_t178, Q_HF_t179, Q_HF_t180, Q_HF_t181, Q_BK182, Q_GW182, Q_GE182, Q_NB153_182, Q_NB182_153, Q_NB154_182, Q_NB182_154, Q_NB168_182, Q_NB182_168, Q_BK182_e8, Q_X1_, Q_X3_, Q_X6_, Q_X7_⟩ hb_ hon hoff
        refine ⟨_, rfl, fun K hK => ?_⟩
        have e10 : a.tmps[10]? = some (m7_) := by rw [ha]; exact putSel_on (e := (7, 10, m7_)) 5 rfl rfl (hon 7 (by kernel_rfl)) rfl
        rw [Q_X7_ (hon 7 (by kernel_rfl))] at e10
        have e24 : a.tmps[24]? = some (m6_) := by rw [ha]; exact putSel_on (e := (6, 24, m6_)) 4 rfl rfl (hon 6 (by kernel_rfl)) rfl
        rw [Q_X6_ (hon 6 (by kernel_rfl))] at e24
        replace ha := Aside0.mk ha
        have BK153 := Aside0.mk Q_BK153
        have BK154 := Aside0.mk Q_BK154
        have BK168 := Aside0.mk Q_BK168
        have HB := Aside0.mk Q_HB
        have HF_t169 := Aside0.mk (Q_HF_t169 (hon 1 (by kernel_rfl)))
        have HF_t170 := Aside0.mk (Q_HF_t170 (hon 1 (by kernel_rfl)))
        have HF_t171 := Aside0.mk (Q_HF_t171 (hon 1 (by kernel_rfl)))
        have HF_t172 := Aside0.mk (Q_HF_t172 (hon 1 (by kernel_rfl)))
        have HF_t173 := Aside0.mk (Q_HF_t173 (hon 3 (by kernel_rfl)))
        have HF_t174 := Aside0.mk (Q_HF_t174 (hon 3 (by kernel_rfl)))
        have HF_t175 := Aside0.mk (Q_HF_t175 (hon 3 (by kernel_rfl)))
        have HF_t176 := Aside0.mk (Q_HF_t176 (hon 3 (by kernel_rfl)))
        have HF_t177 := Aside0.mk (Q_HF_t177 (hon 3 (by kernel_rfl)))
        have HF_t178 := Aside0.mk (Q_HF_t178 (hon 6 (by kernel_rfl)))
        have HF_t179 := Aside0.mk (Q_HF_t179 (hon 6 (by kernel_rfl)))
        have HF_t180 := Aside0.mk (Q_HF_t180 (hon 6 (by kernel_rfl)))
        have HF_t181 := Aside0.mk (Q_HF_t181 (hon 6 (by kernel_rfl)))
        have BK182 := Aside0.mk (Q_BK182 (hon 7 (by kernel_rfl)) hb_)
        have GW182 := Aside0.mk (Q_GW182 (hon 7 (by kernel_rfl)))
        have GE182 := Aside0.mk (Q_GE182 (hon 7 (by kernel_rfl)))
        have NB153_182 := Aside0.mk (Q_NB153_182 (hon 7 (by kernel_rfl)))
        have NB182_153 := Aside0.mk (Q_NB182_153 (hon 7 (by kernel_rfl)))
        have NB154_182 := Aside0.mk (Q_NB154_182 (hon 7 (by kernel_rfl)))
        have NB182_154 := Aside0.mk (Q_NB182_154 (hon 7 (by kernel_rfl)))
        have NB168_182 := Aside0.mk (Q_NB168_182 (hon 7 (by kernel_rfl)))
        have NB182_168 := Aside0.mk (Q_NB182_168 (hon 7 (by kernel_rfl)))
        have hF_t169 := HF_t169.out
        have hF_t170 := HF_t170.out
        have hF_t171 := HF_t171.out
        have hF_t172 := HF_t172.out
        have hF_t173 := HF_t173.out
        have hF_t174 := HF_t174.out
        have hF_t175 := HF_t175.out
        have hF_t176 := HF_t176.out
        have hF_t177 := HF_t177.out
        have hF_t178 := HF_t178.out
        have hF_t179 := HF_t179.out
        have hF_t180 := HF_t180.out
        have hF_t181 := HF_t181.out
        have hs61 : w'.cell? ⟨gb182, 0, none⟩ = some (.float .f64 0) := (blk_cell BK182.out 0).trans rfl
        have hfs61 := blk_frozen BK182.out 0
        have hns61_0 := NB153_182.out
        have hns61_1 := NB154_182.out
        have hns61_2 := NB168_182.out
        have hms61_0 := NB182_153.out
        have hms61_1 := NB182_154.out
        have hms61_2 := NB182_168.out
        have hs62 : w'.cell? ⟨gb182, 1, none⟩ = some (.float .f64 0) := (blk_cell BK182.out 1).trans rfl
        have hfs62 := blk_frozen BK182.out 1
        have hns62_0 := NB153_182.out
        have hns62_1 := NB154_182.out
        have hns62_2 := NB168_182.out
        have hms62_0 := NB182_153.out
        have hms62_1 := NB182_154.out
        have hms62_2 := NB182_168.out
        have hs63 : w'.cell? ⟨gb182, 2, none⟩ = some (.float .f64 0) := (blk_cell BK182.out 2).trans rfl
        have hfs63 := blk_frozen BK182.out 2
        have hns63_0 := NB153_182.out
        have hns63_1 := NB154_182.out
        have hns63_2 := NB168_182.out
        have hms63_0 := NB182_153.out
        have hms63_1 := NB182_154.out
        have hms63_2 := NB182_168.out
        have hs64 : w'.cell? ⟨gb182, 3, none⟩ = some (.float .f64 0) := (blk_cell BK182.out 3).trans rfl
        have hfs64 := blk_frozen BK182.out 3
        have hns64_0 := NB153_182.out
        have hns64_1 := NB154_182.out
        have hns64_2 := NB168_182.out
        have hms64_0 := NB182_153.out
        have hms64_1 := NB182_154.out
        have hms64_2 := NB182_168.out
        refine skip_ (w1 := ?_) (by rfl) rfl ?_ ?_
        rotate_left
        · go_simp
          rfl
        refine hK.out _ _ ⟨b_t169, b_t170, b_t171, b_t172, b_t173, b_t174, b_t175, b_t176, b_t177, b_t178, b_t179, b_t180, b_t181, gb182, m1_, m3_, m6_, m7_, (by rw [ha.out]; exact putSel_none (v := undef) rfl), (by (with_reducible repeat (first | refine blk_drewN ?_ _ | refine blk_drew ?_ | refine blk_alloc ?_ _)); refine blk_far ?_ NB153_182.out _; (with_reducible repeat (first | refine blk_drewN ?_ _ | refine blk_drew ?_ | refine blk_alloc ?_ _)); refine blk_far ?_ NB153_182.out _; (with_reducible repeat (first | refine blk_drewN ?_ _ | refine blk_drew ?_ | refine blk_alloc ?_ _)); refine blk_far ?_ NB153_182.out _; (with_reducible repeat (first | refine blk_drewN ?_ _ | refine blk_drew ?_ | refine blk_alloc ?_ _)); refine blk_far ?_ NB153_182.out _; (with_reducible repeat (first | refine blk_drewN ?_ _ | refine blk_drew ?_ | refine blk_alloc ?_ _)); exact BK153.out), (by (with_reducible repeat (first | refine blk_drewN ?_ _ | refine blk_drew ?_ | refine blk_alloc ?_ _)); refine blk_far ?_ NB154_182.out _; (with_reducible repeat (first | refine blk_drewN ?_ _ | refine blk_drew ?_ | refine blk_alloc ?_ _)); refine blk_far ?_ NB154_182.out _; (with_reducible repeat (first | refine blk_drewN ?_ _ | refine blk_drew ?_ | refine blk_alloc ?_ _)); refine blk_far ?_ NB154_182.out _; (with_reducible repeat (first | refine blk_drewN ?_ _ | refine blk_drew ?_ | refine blk_alloc ?_ _)); refine blk_far ?_ NB154_182.out _; (with_reducible repeat (first | refine blk_drewN ?_ _ | refine blk_drew ?_ | refine blk_alloc ?_ _)); exact BK154.out), (by (with_reducible repeat (first | refine blk_drewN ?_ _ | refine blk_drew ?_ | refine blk_alloc ?_ _)); refine blk_far ?_ NB168_182.out _; (with_reducible repeat (first | refine blk_drewN ?_ _ | refine blk_drew ?_ | refine blk_alloc ?_ _)); refine blk_far ?_ NB168_182.out _; (with_reducible repeat (first | refine blk_drewN ?_ _ | refine blk_drew ?_ | refine blk_alloc ?_ _)); refine blk_far ?_ NB168_182.out _; (with_reducible repeat (first | refine blk_drewN ?_ _ | refine blk_drew ?_ | refine blk_alloc ?_ _)); refine blk_far ?_ NB168_182.out _; (with_reducible repeat (first | refine blk_drewN ?_ _ | refine blk_drew ?_ | refine blk_alloc ?_ _)); exact BK168.out), (by repeat (first | (with_reducible first | exact HB.out | apply below_alloc | apply pw_below_drewN | apply below_drew1 | refine below_set ?_ GE153.out | refine below_set ?_ GE154.out | refine below_set ?_ GE168.out | refine below_set ?_ GE182.out) | exact HB.out)), fun _ => hF_t169, fun _ => hF_t170, fun _ => hF_t171, fun _ => hF_t172, fun _ => hF_t173, fun _ => hF_t174, fun _ => hF_t175, fun _ => hF_t176, fun _ => hF_t177, fun _ => hF_t178, fun _ => hF_t179, fun _ => hF_t180, fun _ => hF_t181, fun _ h1_ => absurd ((up_self b 8).symm.trans h1_) (by decide), fun _ => GW182.out, fun _ => GE182.out, fun _ => NB153_182.out, fun _ => NB182_153.out, fun _ => NB154_182.out, fun _ => NB182_154.out, fun _ => NB168_182.out, fun _ => NB182_168.out, fun _ => (by (with_reducible repeat (first | refine blk_drewN ?_ _ | refine blk_drew ?_ | refine blk_alloc ?_ _)); refine blk_put (cs := #[.float .f64 b_t178, .float .f64 b_t179, .float .f64 b_t180, .float .f64 0]) ?_ 3 _ rfl; (with_reducible repeat (first | refine blk_drewN ?_ _ | refine blk_drew ?_ | refine blk_alloc ?_ _)); refine blk_put (cs := #[.float .f64 b_t178, .float .f64 b_t179, .float .f64 0, .float .f64 0]) ?_ 2 _ rfl; (with_reducible repeat (first | refine blk_drewN ?_ _ | refine blk_drew ?_ | refine blk_alloc ?_ _)); refine blk_put (cs := #[.float .f64 b_t178, .float .f64 0, .float .f64 0, .float .f64 0]) ?_ 1 _ rfl; (with_reducible repeat (first | refine blk_drewN ?_ _ | refine blk_drew ?_ | refine blk_alloc ?_ _)); refine blk_put (cs := #[.float .f64 0, .float .f64 0, .float .f64 0, .float .f64 0]) ?_ 0 _ rfl; (with_reducible repeat (first | refine blk_drewN ?_ _ | refine blk_drew ?_ | refine blk_alloc ?_ _)); exact BK182.out), Q_X1_, Q_X3_, Q_X6_, Q_X7_⟩
      exact steps_nil
    rintro b a w64 hall ⟨b_t169, b_t170, b_t171, b_t172, b_t173, b_t174, b_t175, b_t176, b_t177, b_t178, b_t179, b_t180, b_t181, gb182, m1_, m3_, m6_, m7_, ha, Q_BK153, Q_BK154, Q_BK168, Q_HB, Q_HF_t169, Q_HF_t170, Q_HF_t171, Q_HF_t172, Q_HF_t173, Q_HF_t174, Q_HF_t175, Q_HF_t176, Q_HF_t177, Q_HF_t178, Q_HF_t179, Q_HF_t180, Q_HF_t181, Q_BK182, Q_GW182, Q_GE182, Q_NB153_182, Q_NB182_153, Q_NB154_182, Q_NB182_154, Q_NB168_182, Q_NB182_168, Q_BK182_e8, Q_X1_, Q_X3_, Q_X6_, Q_X7_⟩
    clear BK153 BK154 BK168 HB
    have hb0_ := hall 0 (by kernel_rfl)
    have hb1_ := hall 1 (by kernel_rfl)
    have hb2_ := hall 2 (by kernel_rfl)
    have hb3_ := hall 3 (by kernel_rfl)
    have hb6_ := hall 6 (by kernel_rfl)
    have hb7_ := hall 7 (by kernel_rfl)
    have hb8_ := hall 8 (by kernel_rfl)
    subst ha
    obtain rfl := Q_X1_ hb1_
    obtain rfl := Q_X3_ hb3_
    obtain rfl := Q_X6_ hb6_
    obtain rfl := Q_X7_ hb7_
    simp only [putSel, hb0_, hb1_, hb2_, hb3_, hb6_, hb7_, hb8_, if_true, Act.put, List.setIfInBounds_toArray, List.set_cons_zero, List.set_cons_succ]
    have BK153 := Aside0.mk Q_BK153
    clear Q_BK153
    have BK154 := Aside0.mk Q_BK154
    clear Q_BK154
    have BK168 := Aside0.mk Q_BK168
    clear Q_BK168
    have HB := Aside0.mk Q_HB
    clear Q_HB
    have HF_t169 := Aside0.mk (Q_HF_t169 hb1_)
    clear Q_HF_t169
    have HF_t170 := Aside0.mk (Q_HF_t170 hb1_)
    clear Q_HF_t170
    have HF_t171 := Aside0.mk (Q_HF_t171 hb1_)
    clear Q_HF_t171
    have HF_t172 := Aside0.mk (Q_HF_t172 hb1_)
    clear Q_HF_t172
    have HF_t173 := Aside0.mk (Q_HF_t173 hb3_)
    clear Q_HF_t173
    have HF_t174 := Aside0.mk (Q_HF_t174 hb3_)
    clear Q_HF_t174
    have HF_t175 := Aside0.mk (Q_HF_t175 hb3_)
    clear Q_HF_t175
    have HF_t176 := Aside0.mk (Q_HF_t176 hb3_)
    clear Q_HF_t176
    have HF_t177 := Aside0.mk (Q_HF_t177 hb3_)
    clear Q_HF_t177
    have HF_t178 := Aside0.mk (Q_HF_t178 hb6_)
    clear Q_HF_t178
    have HF_t179 := Aside0.mk (Q_HF_t179 hb6_)
    clear Q_HF_t179
    have HF_t180 := Aside0.mk (Q_HF_t180 hb6_)
    clear Q_HF_t180
    have HF_t181 := Aside0.mk (Q_HF_t181 hb6_)
    clear Q_HF_t181
    clear Q_BK182
    have GW182 := Aside0.mk (Q_GW182 hb7_)
    clear Q_GW182
    have GE182 := Aside0.mk (Q_GE182 hb7_)
    clear Q_GE182
    have NB153_182 := Aside0.mk (Q_NB153_182 hb7_)
    clear Q_NB153_182
    have NB182_153 := Aside0.mk (Q_NB182_153 hb7_)
    clear Q_NB182_153
    have NB154_182 := Aside0.mk (Q_NB154_182 hb7_)
    clear Q_NB154_182
    have NB182_154 := Aside0.mk (Q_NB182_154 hb7_)
    clear Q_NB182_154
    have NB168_182 := Aside0.mk (Q_NB168_182 hb7_)
    clear Q_NB168_182
    have NB182_168 := Aside0.mk (Q_NB182_168 hb7_)
    clear Q_NB182_168
    have BK182 := Aside0.mk (Q_BK182_e8 hb8_)
    clear Q_BK182_e8
    clear hall hb0_ hb1_ hb2_ hb3_ hb6_ hb7_ hb8_
    have hF_t169 := HF_t169.out
    have hF_t170 := HF_t170.out
    have hF_t171 := HF_t171.out
    have hF_t172 := HF_t172.out
    have hF_t173 := HF_t173.out
    have hF_t174 := HF_t174.out
    have hF_t175 := HF_t175.out
    have hF_t176 := HF_t176.out
    have hF_t177 := HF_t177.out
    have hF_t178 := HF_t178.out
    have hF_t179 := HF_t179.out
    have hF_t180 := HF_t180.out
    have hF_t181 := HF_t181.out
    have hnb65 := NB182_153.out
    have hnc65 := NB153_182.out
    have hnb66 := NB182_154.out
    have hnc66 := NB154_182.out
    have hnb67 := NB182_168.out
    have hnc67 := NB168_182.out
    have hcz68_0 : w64.cell? ⟨gb182, 0, none⟩ = some (.float .f64 b_t178) := (blk_cell BK182.out 0).trans rfl
    have hcz68_1 : w64.cell? ⟨gb182, 1, none⟩ = some (.float .f64 b_t179) := (blk_cell BK182.out 1).trans rfl
    have hcz68_2 : w64.cell? ⟨gb182, 2, none⟩ = some (.float .f64 b_t180) := (blk_cell BK182.out 2).trans rfl
    have hcz68_3 : w64.cell? ⟨gb182, 3, none⟩ = some (.float .f64 b_t181) := (blk_cell BK182.out 3).trans rfl
    have hfz68_0 := blk_frozen BK182.out 0
    have hfz68_1 := blk_frozen BK182.out 1
    have hfz68_2 := blk_frozen BK182.out 2
    have hfz68_3 := blk_frozen BK182.out 3
    have hnb69 := NB168_153.out
    have hnc69 := NB153_168.out
    have hnb70 := NB168_154.out
    have hnc70 := NB154_168.out
    have hcz71_0 : w64.cell? ⟨gb168, 0, none⟩ = some (.float .f64 b_t164) := (blk_cell BK168.out 0).trans rfl
    have hcz71_1 : w64.cell? ⟨gb168, 1, none⟩ = some (.float .f64 b_t165) := (blk_cell BK168.out 1).trans rfl
    have hcz71_2 : w64.cell? ⟨gb168, 2, none⟩ = some (.float .f64 b_t166) := (blk_cell BK168.out 2).trans rfl
    have hcz71_3 : w64.cell? ⟨gb168, 3, none⟩ = some (.float .f64 b_t167) := (blk_cell BK168.out 3).trans rfl
    have hfz71_0 := blk_frozen BK168.out 0
    have hfz71_1 := blk_frozen BK168.out 1
    have hfz71_2 := blk_frozen BK168.out 2
    have hfz71_3 := blk_frozen BK168.out 3
    try go_wp2_with (first | ((with_reducible refine gate_callee (f := 39) rfl ?_); refine goesL_ (some 27) rfl rfl Try.func39 (by kernel_rfl) rfl #[.agg #[.float .f64 b_t178, .float .f64 b_t179, .float .f64 b_t180, .float .f64 b_t181], .agg #[.float .f64 b_t164, .float .f64 b_t165, .float .f64 b_t166, .float .f64 b_t167]] rfl (by (try simp only [List.map_toArray, List.map_cons, List.map_nil]); first | done | rfl | (simp only [List.length_drop, List.length_take]; rfl)) ?_; (with_reducible refine (laws_eqMotion.calls k b_t178 t178 b_t179 t179 b_t180 t180 b_t181 t181 b_t164 t164 b_t165 t165 b_t166 t166 b_t167 t167 false _ ?side1 ?side2 ?side3 ?side4 ?side5 ?side6 ?side7 ?side8 A11.out).mono ?_); (case side1 => exact hF_t178); (case side2 => exact hF_t179); (case side3 => exact hF_t180); (case side4 => exact hF_t181); (case side5 => exact hF_t164); (case side6 => exact hF_t165); (case side7 => exact hF_t166); (case side8 => exact hF_t167); rintro e w72 ⟨rfl, hb⟩; refine ⟨_, rfl, ?_⟩; have n0_ := Aside0.mk (blk_below (g := gb153) (o := .cells #[.float .f64 b_a0_0, .float .f64 b_a0_1, .float .f64 b_a0_2, .float .f64 b_a0_3] 30 (0, 0)) (by (with_reducible repeat (first | refine blk_drewN ?_ _ | refine blk_drew ?_ | refine blk_alloc ?_ _)); exact BK153.out) hb); have n1_ := Aside0.mk (blk_below (g := gb154) (o := .cells #[.float .f64 b_a1_0, .float .f64 b_a1_1, .float .f64 b_a1_2, .float .f64 b_a1_3, .float .f64 b_a1_4] 50 (0, 0)) (by (with_reducible repeat (first | refine blk_drewN ?_ _ | refine blk_drew ?_ | refine blk_alloc ?_ _)); exact BK154.out) hb); have n2_ := Aside0.mk (blk_below (g := gb168) (o := .cells #[.float .f64 b_t164, .float .f64 b_t165, .float .f64 b_t166, .float .f64 b_t167] 32 (0, 0)) (by (with_reducible repeat (first | refine blk_drewN ?_ _ | refine blk_drew ?_ | refine blk_alloc ?_ _)); exact BK168.out) hb); have n3_ := Aside0.mk (blk_below (g := gb182) (o := .cells #[.float .f64 b_t178, .float .f64 b_t179, .float .f64 b_t180, .float .f64 b_t181] 32 (0, 0)) (by (with_reducible repeat (first | refine blk_drewN ?_ _ | refine blk_drew ?_ | refine blk_alloc ?_ _)); exact BK182.out) hb); have n4_ := Aside0.mk (below_step (by repeat (first | (with_reducible first | exact HB.out | apply below_alloc | apply pw_below_drewN | apply below_drew1 | refine below_set ?_ GE153.out | refine below_set ?_ GE154.out | refine below_set ?_ GE168.out | refine below_set ?_ GE182.out) | exact HB.out)) hb); clear BK153; clear BK154; clear BK168; clear BK182; clear HB; have BK153 := n0_; have BK154 := n1_; have BK168 := n2_; have BK182 := n3_; have HB := n4_; clear n0_ n1_ n2_ n3_ n4_; (try clear hb); (try clear hb2); (try clear hk); (try clear hi)))
    go_ret
    exact ⟨by first | rfl | (simp [errW_none, errW_some] <;> rfl) | (simp [*, errW_none, errW_some] <;> rfl), by repeat (first | (with_reducible first | exact HB.out | apply below_alloc | apply pw_below_drewN | apply below_drew1 | refine below_set ?_ GE153.out | refine below_set ?_ GE154.out | refine below_set ?_ GE168.out | refine below_set ?_ GE182.out) | exact HB.out)⟩

end Go.Proofs.Ytddojikjiebbbaa.QFnExactStepOnce
