/- Lean functions that tell what the Go functions used by one law answer, and for each a proof that the Go code comes to just these answers; no condition. Printed by this session's own program over the kit's printer. -/
import Derived.Test.YtddojikjiebbbaaQFnExactCxOverx0
import Derived.Test.YtddojikjiebbbaaQFnExactCxOverx1
import Derived.Test.YtddojikjiebbbaaQFnExactCxOverx2
namespace Go.Proofs.Ytddojikjiebbbaa.QFnExactCxOver
open Go.RowKit Go.Proofs.YtddojikjiebbbaaW.PrintWords Go.Proofs.YtddojikjiebbbaaW.PrintLast Go.Proofs.YtddojikjiebbbaaW.PrintMore
attribute [local go_sem] max2_int min2_int max_two min_two max_three min_three max_four min_four   -- for this text's walks alone
attribute [local go_sem high] go_eql go_neq go_lss go_leq go_gtr go_geq go_store   -- for this text's walks alone
set_option linter.unusedVariables false
set_option linter.unusedSimpArgs false

/-! ### laws_FnExactCxOver: function 13 -/
def laws_FnExactCxOver.f (k : Nat) (a0_0 : Fl) (a0_1 : Fl) (a1_0 : Fl) (a1_1 : Fl) : Option (Bool) := (laws_toCx.f a0_0 a0_1).bind fun bt169 => ((laws_toCx.f a1_0 a1_1).bind fun bt171 => ((spec_CxOver.f k bt169.1 bt169.2 bt171.1 bt171.2).bind fun bt173 => ((laws_toCx.f a0_0 a0_1).bind fun bt177 => ((laws_toCx.f a1_0 a1_1).bind fun bt179 => ((impl_CxOver.f k bt177.1 bt177.2 bt179.1 bt179.2).bind fun bt181 => ((laws_eqCx.f k bt181.1 bt181.2.1 bt173.1 bt173.2.1).bind fun t185 => (if t185 = true then (if (bt181.2.2 != bt173.2.2) = true then (some false) else (some true)) else (some false))))))))
theorem laws_FnExactCxOver.mono : ∀ a0 a1 a2 a3 k, LeO (laws_FnExactCxOver.f k a0 a1 a2 a3) (laws_FnExactCxOver.f (k + 1) a0 a1 a2 a3) := by
  intro a0 a1 a2 a3 k
  unfold laws_FnExactCxOver.f
  repeat' first
      | (with_reducible exact impl_CxOver.mono _ _ _ _ _)
      | (with_reducible exact laws_eqCx.mono _ _ _ _ _)
      | (with_reducible exact spec_CxOver.mono _ _ _ _ _)
      | (with_reducible exact LeO.refl _)
      | (with_reducible exact LeO.none _)
      | (with_reducible refine LeO.ite ?_ ?_)
      | (with_reducible refine LeO.bind ?_ (fun _ => ?_))
      | exact impl_CxOver.mono _ _ _ _ _
      | exact laws_eqCx.mono _ _ _ _ _
      | exact spec_CxOver.mono _ _ _ _ _
      | exact LeO.none _
      | refine LeO.ite ?_ ?_
      | refine LeO.bind ?_ (fun _ => ?_)
def laws_FnExactCxOver.T1 : Bool × List (List Nat × List Nat) := (true, [([], []), ([0], [0]), ([], []), ([2, 1], [2]), ([1, 3, 3], [1, 3]), ([4], [4]), ([5], [5]), ([5], [5]), ([], []), ([8, 6, 4, 0, 1, 2, 3, 4, 5, 6, 8], [6, 8]), ([7, 9, 0, 1, 2, 3, 4, 5, 6, 7, 8, 9], [7])])
def laws_FnExactCxOver.B1 : List Nat := [0, 1, 0, 7, 15, 31, 63, 63, 0, 383, 1023]
theorem laws_FnExactCxOver.tab1 : rtab .any (opsOf Try.f13 1) = laws_FnExactCxOver.T1 := by kernel_rfl
theorem laws_FnExactCxOver.bits1 : waitsOk laws_FnExactCxOver.T1.2 laws_FnExactCxOver.B1 = true := by kernel_rfl
def laws_FnExactCxOver.T2 : Bool × List (List Nat × List Nat) := (true, [([], []), ([0], [0]), ([], []), ([2, 1], [2]), ([1, 3, 3], [1, 3]), ([4], [4]), ([5], [5]), ([5], [5]), ([], []), ([8, 6, 4, 0, 1, 2, 3, 4, 5, 6, 8], [6, 8]), ([7, 9, 0, 1, 2, 3, 4, 5, 6, 7, 8, 9], [7])])
def laws_FnExactCxOver.B2 : List Nat := [0, 1, 0, 7, 15, 31, 63, 63, 0, 383, 1023]
theorem laws_FnExactCxOver.tab2 : rtab .any (opsOf Try.f13 2) = laws_FnExactCxOver.T2 := by kernel_rfl
theorem laws_FnExactCxOver.bits2 : waitsOk laws_FnExactCxOver.T2.2 laws_FnExactCxOver.B2 = true := by kernel_rfl
set_option maxHeartbeats 8000000 in
set_option maxRecDepth 100000 in
theorem laws_FnExactCxOver.calls (k : Nat) (b_a0_0 : Nat) (a0_0 : Fl) (b_a0_1 : Nat) (a0_1 : Fl) (b_a1_0 : Nat) (a1_0 : Fl) (b_a1_1 : Nat) (a1_1 : Fl) (r : Bool) (w : World) (hF_a0_0 : cn .f64 b_a0_0 = a0_0) (hF_a0_1 : cn .f64 b_a0_1 = a0_1) (hF_a1_0 : cn .f64 b_a1_0 = a1_0) (hF_a1_1 : cn .f64 b_a1_1 = a1_1) (h : laws_FnExactCxOver.f k a0_0 a0_1 a1_0 a1_1 = some r) :
    Calls Try.prog 13 #[.agg #[.float .f64 b_a0_0, .float .f64 b_a0_1], .agg #[.float .f64 b_a1_0, .float .f64 b_a1_1]] w fun e w' => e = .returned (.bool r) ∧ Below w.heap.size w w' := by
  have hu24 := Try.underlying24
  have hu26 := Try.underlying26
  have HB := Aside0.mk (Below.refl w.heap.size w)
  have H : ((laws_toCx.f a0_0 a0_1).bind fun bt169 => ((laws_toCx.f a1_0 a1_1).bind fun bt171 => ((spec_CxOver.f k bt169.1 bt169.2 bt171.1 bt171.2).bind fun bt173 => ((laws_toCx.f a0_0 a0_1).bind fun bt177 => ((laws_toCx.f a1_0 a1_1).bind fun bt179 => ((impl_CxOver.f k bt177.1 bt177.2 bt179.1 bt179.2).bind fun bt181 => ((laws_eqCx.f k bt181.1 bt181.2.1 bt173.1 bt173.2.1).bind fun t185 => (if t185 = true then (if (bt181.2.2 != bt173.2.2) = true then (some false) else (some true)) else (some false))))))))) = some r := h
  clear h
  replace H := Option.bind_eq_some_iff.mp H
  obtain ⟨⟨t169, t170⟩, A30, H⟩ := H
  replace H : ((laws_toCx.f a1_0 a1_1).bind fun bt171 => ((spec_CxOver.f k t169 t170 bt171.1 bt171.2).bind fun bt173 => ((laws_toCx.f a0_0 a0_1).bind fun bt177 => ((laws_toCx.f a1_0 a1_1).bind fun bt179 => ((impl_CxOver.f k bt177.1 bt177.2 bt179.1 bt179.2).bind fun bt181 => ((laws_eqCx.f k bt181.1 bt181.2.1 bt173.1 bt173.2.1).bind fun t185 => (if t185 = true then (if (bt181.2.2 != bt173.2.2) = true then (some false) else (some true)) else (some false)))))))) = some r := H
  have A3 := Aside0.mk A30
  clear A30
  replace H := Option.bind_eq_some_iff.mp H
  obtain ⟨⟨t171, t172⟩, A40, H⟩ := H
  replace H : ((spec_CxOver.f k t169 t170 t171 t172).bind fun bt173 => ((laws_toCx.f a0_0 a0_1).bind fun bt177 => ((laws_toCx.f a1_0 a1_1).bind fun bt179 => ((impl_CxOver.f k bt177.1 bt177.2 bt179.1 bt179.2).bind fun bt181 => ((laws_eqCx.f k bt181.1 bt181.2.1 bt173.1 bt173.2.1).bind fun t185 => (if t185 = true then (if (bt181.2.2 != bt173.2.2) = true then (some false) else (some true)) else (some false))))))) = some r := H
  have A4 := Aside0.mk A40
  clear A40
  replace H := Option.bind_eq_some_iff.mp H
  obtain ⟨⟨t173, t174, t175⟩, A50, H⟩ := H
  replace H : ((laws_toCx.f a0_0 a0_1).bind fun bt177 => ((laws_toCx.f a1_0 a1_1).bind fun bt179 => ((impl_CxOver.f k bt177.1 bt177.2 bt179.1 bt179.2).bind fun bt181 => ((laws_eqCx.f k bt181.1 bt181.2.1 t173 t174).bind fun t185 => (if t185 = true then (if (bt181.2.2 != t175) = true then (some false) else (some true)) else (some false)))))) = some r := H
  have A5 := Aside0.mk A50
  clear A50
  replace H := Option.bind_eq_some_iff.mp H
  obtain ⟨⟨t177, t178⟩, A60, H⟩ := H
  replace H : ((laws_toCx.f a1_0 a1_1).bind fun bt179 => ((impl_CxOver.f k t177 t178 bt179.1 bt179.2).bind fun bt181 => ((laws_eqCx.f k bt181.1 bt181.2.1 t173 t174).bind fun t185 => (if t185 = true then (if (bt181.2.2 != t175) = true then (some false) else (some true)) else (some false))))) = some r := H
  have A6 := Aside0.mk A60
  clear A60
  replace H := Option.bind_eq_some_iff.mp H
  obtain ⟨⟨t179, t180⟩, A70, H⟩ := H
  replace H : ((impl_CxOver.f k t177 t178 t179 t180).bind fun bt181 => ((laws_eqCx.f k bt181.1 bt181.2.1 t173 t174).bind fun t185 => (if t185 = true then (if (bt181.2.2 != t175) = true then (some false) else (some true)) else (some false)))) = some r := H
  have A7 := Aside0.mk A70
  clear A70
  replace H := Option.bind_eq_some_iff.mp H
  obtain ⟨⟨t181, t182, t183⟩, A80, H⟩ := H
  replace H : ((laws_eqCx.f k t181 t182 t173 t174).bind fun t185 => (if t185 = true then (if (t183 != t175) = true then (some false) else (some true)) else (some false))) = some r := H
  have A8 := Aside0.mk A80
  clear A80
  replace H := Option.bind_eq_some_iff.mp H
  obtain ⟨t185, A90, H⟩ := H
  replace H : (if t185 = true then (if (t183 != t175) = true then (some false) else (some true)) else (some false)) = some r := H
  have A9 := Aside0.mk A90
  clear A90
  by_cases c10 : t185 = true
  · subst c10
    have H1 : (if (t183 != t175) = true then (some false) else (some true)) = some r := by rw [if_pos rfl] at H; exact H
    clear H
    have H := H1
    clear H1
    by_cases c11 : (t183 != t175) = true
    · rw [if_pos c11] at H
      have c11b0 : (t183 != t175) = true := c11
      (try (have c11b1 : decide (t183 = t175) = false := by simpa using c11))
      (try (have c11b2 : (t183 == t175) = false := by simpa using c11))
      (try (have c11b3 : ¬ (t183 = t175) := by simpa using c11))
      clear c11
      obtain rfl := Option.some.inj H
      go_enter Try.func13, Try.ntmps13
      try go_wp2_with (first | ((with_reducible refine gate_dst (N := 2) rfl ?_); refine box_event ?hg (N := 2) ?hd (cs := #[.float .f64 b_a0_0, .float .f64 b_a0_1]) (t := 24) ?hr ?_; (case hd => rfl); (case hg => rfl); (case hr => first | (go_simp; done) | (go_simp; rfl)); intro gb167 hg w12 hbox hb; have n0_ := Aside0.mk (below_step (by repeat (first | (with_reducible first | exact HB.out | apply below_alloc | apply pw_below_drewN | apply below_drew1) | exact HB.out)) hb); have n1_ := Aside0.mk (hbox); have n2_ := Aside0.mk ((by rw [hg]; exact (below_size (by repeat (first | (with_reducible first | exact HB.out | apply below_alloc | apply pw_below_drewN | apply below_drew1) | exact HB.out))) : w.heap.size ≤ gb167)); have n3_ := Aside0.mk ((by rw [hg]; exact (below_size (by repeat (first | (with_reducible first | exact HB.out | apply below_alloc | apply pw_below_drewN | apply below_drew1) | exact HB.out))) : w.heap.size ≤ gb167)); clear HB; have HB := n0_; have BK167 := n1_; have GW167 := n2_; have GE167 := n3_; clear n0_ n1_ n2_ n3_; clear hb hbox hg) | ((with_reducible refine gate_dst (N := 3) rfl ?_); refine box_event ?hg (N := 3) ?hd (cs := #[.float .f64 b_a1_0, .float .f64 b_a1_1]) (t := 24) ?hr ?_; (case hd => rfl); (case hg => rfl); (case hr => first | (go_simp; done) | (go_simp; rfl)); intro gb168 hg w13 hbox hb; have n0_ := Aside0.mk (blk_below (g := gb167) (o := .cells #[.float .f64 b_a0_0, .float .f64 b_a0_1] 24 (0, 0)) (by (with_reducible repeat (first | refine blk_drewN ?_ _ | refine blk_drew ?_ | refine blk_alloc ?_ _)); exact BK167.out) hb); have n1_ := Aside0.mk (below_step (by repeat (first | (with_reducible first | exact HB.out | apply below_alloc | apply pw_below_drewN | apply below_drew1 | refine below_set ?_ GE167.out) | exact HB.out)) hb); have n2_ := Aside0.mk (hbox); have n3_ := Aside0.mk ((by rw [hg]; exact (below_size (by repeat (first | (with_reducible first | exact HB.out | apply below_alloc | apply pw_below_drewN | apply below_drew1 | refine below_set ?_ GE167.out) | exact HB.out))) : w.heap.size ≤ gb168)); have n4_ := Aside0.mk ((by rw [hg]; exact (below_size (by repeat (first | (with_reducible first | exact HB.out | apply below_alloc | apply pw_below_drewN | apply below_drew1 | refine below_set ?_ GE167.out) | exact HB.out))) : w.heap.size ≤ gb168)); have n5_ := Aside0.mk ((by rw [hg]; exact Nat.ne_of_lt (blk_lt (g := gb167) (o := .cells #[.float .f64 b_a0_0, .float .f64 b_a0_1] 24 (0, 0)) (by (with_reducible repeat (first | refine blk_drewN ?_ _ | refine blk_drew ?_ | refine blk_alloc ?_ _)); exact BK167.out)) : gb167 ≠ gb168)); have n6_ := Aside0.mk ((by rw [hg]; exact Nat.ne_of_gt (blk_lt (g := gb167) (o := .cells #[.float .f64 b_a0_0, .float .f64 b_a0_1] 24 (0, 0)) (by (with_reducible repeat (first | refine blk_drewN ?_ _ | refine blk_drew ?_ | refine blk_alloc ?_ _)); exact BK167.out)) : gb168 ≠ gb167)); clear BK167; clear HB; have BK167 := n0_; have HB := n1_; have BK168 := n2_; have GW168 := n3_; have GE168 := n4_; have NB167_168 := n5_; have NB168_167 := n6_; clear n0_ n1_ n2_ n3_ n4_ n5_ n6_; clear hb hbox hg))
      have n0_ := Aside0.mk (blk_drew BK167.out)
      have n1_ := Aside0.mk (blk_drew BK168.out)
      have n2_ := Aside0.mk (below_drew1 HB.out)
      clear BK167
      clear BK168
      clear HB
      have BK167 := n0_
      have BK168 := n1_
      have HB := n2_
      clear n0_ n1_ n2_
      refine start_ (n := 11) (S := fun w' => True) (ds := []) #[false, false, false, false, false, false, false, false, false, false, false] (by kernel_rfl) rfl rfl trivial (fun hHeld => ?_); refine with_tabW laws_FnExactCxOver.tab1 laws_FnExactCxOver.bits1 (fun HT_ HW_ => ?_)
      generalize w13.drew = w14 at BK167 BK168 HB hHeld ⊢
      refine inv_at [0, 1, 2, 3, 4, 5, 6, 7, 8, 9, 10] (fun a0_ b a w' => ∃ (b_t169 : Nat) (b_t170 : Nat) (b_t171 : Nat) (b_t172 : Nat) (b_t173 : Nat) (b_t174 : Nat) (gb176 : Nat) (m1_ : Value) (m3_ : Value) (m4_ : Value) (m5_ : Value) (m6_ : Value) (m8_ : Value), a = putSel a0_ b [(0, 10, .agg #[.float .f64 b_a0_0, .float .f64 b_a0_1]), (1, 11, m1_), (2, 12, .agg #[.float .f64 b_a1_0, .float .f64 b_a1_1]), (3, 13, m3_), (4, 14, m4_), (5, 9, m5_), (6, 15, m6_), (7, 16, .bool t175), (8, 5, m8_), (10, 6, .bool t175)] ∧ (w'.heap[gb167]? = some (.cells #[.float .f64 b_a0_0, .float .f64 b_a0_1] 24 (0, 0))) ∧ (w'.heap[gb168]? = some (.cells #[.float .f64 b_a1_0, .float .f64 b_a1_1] 24 (0, 0))) ∧ (Below w.heap.size w w') ∧ (b 1 = true → cn .f64 b_t169 = t169) ∧ (b 1 = true → cn .f64 b_t170 = t170) ∧ (b 3 = true → cn .f64 b_t171 = t171) ∧ (b 3 = true → cn .f64 b_t172 = t172) ∧ (b 4 = true → cn .f64 b_t173 = t173) ∧ (b 4 = true → cn .f64 b_t174 = t174) ∧ (b 8 = true → b 9 = false → w'.heap[gb176]? = some (.cells #[.float .f64 0, .float .f64 0] 26 (0, 0))) ∧ (b 8 = true → w.heap.size ≤ gb176) ∧ (b 8 = true → w.heap.size ≤ gb176) ∧ (b 8 = true → gb167 ≠ gb176) ∧ (b 8 = true → gb176 ≠ gb167) ∧ (b 8 = true → gb168 ≠ gb176) ∧ (b 8 = true → gb176 ≠ gb168) ∧ (b 9 = true → w'.heap[gb176]? = some (.cells #[.float .f64 b_t173, .float .f64 b_t174] 26 (0, 0))) ∧ (b 1 = true → (m1_ : Value) = .agg #[.float .f64 b_t169, .float .f64 b_t170]) ∧ (b 3 = true → (m3_ : Value) = .agg #[.float .f64 b_t171, .float .f64 b_t172]) ∧ (b 4 = true → (m4_ : Value) = .tuple #[.agg #[.float .f64 b_t173, .float .f64 b_t174], .bool t175]) ∧ (b 5 = true → (m5_ : Value) = .tuple #[.agg #[.float .f64 b_t173, .float .f64 b_t174], .bool t175]) ∧ (b 6 = true → (m6_ : Value) = .agg #[.float .f64 b_t173, .float .f64 b_t174]) ∧ (b 8 = true → (m8_ : Value) = .pointer (some ⟨gb176, 0, none⟩))) HT_.out HW_.out (by kernel_rfl) (by kernel_rfl) ?_ ?_ ?_
      · exact ⟨0, 0, 0, 0, 0, 0, 0, .bool false, .bool false, .bool false, .bool false, .bool false, .bool false, by simp only [putSel, Bool.false_eq_true, if_false], BK167.out, BK168.out, HB.out, fun h_ => absurd h_ (by decide), fun h_ => absurd h_ (by decide), fun h_ => absurd h_ (by decide), fun h_ => absurd h_ (by decide), fun h_ => absurd h_ (by decide), fun h_ => absurd h_ (by decide), fun h_ => absurd h_ (by decide), fun h_ => absurd h_ (by decide), fun h_ => absurd h_ (by decide), fun h_ => absurd h_ (by decide), fun h_ => absurd h_ (by decide), fun h_ => absurd h_ (by decide), fun h_ => absurd h_ (by decide), fun h_ => absurd h_ (by decide), fun h_ => absurd h_ (by decide), fun h_ => absurd h_ (by decide), fun h_ => absurd h_ (by decide), fun h_ => absurd h_ (by decide), fun h_ => absurd h_ (by decide), fun h_ => absurd h_ (by decide)⟩
      · skip
        clear BK167 BK168 HB
        refine steps_cons ?_ ?_
        · rintro b a w' ⟨b_t169, b_t170, b_t171, b_t172, b_t173, b_t174, gb176, m1_, m3_, m4_, m5_, m6_, m8_, ha, Q_BK167, Q_BK168, Q_HB, Q_HF_t169, Q_HF_t170, Q_HF_t171, Q_HF_t172, Q_HF_t173, Q_HF_t174, Q_BK176, Q_GW176, Q_GE176, Q_NB167_176, Q_NB176_167, Q_NB168_176, Q_NB176_168, Q_BK176_e9, Q_X1_, Q_X3_, Q_X4_, Q_X5_, Q_X6_, Q_X8_⟩ hb_ hon hoff
          refine ⟨_, rfl, fun K hK => ?_⟩
          have e2 : a.tmps[2]? = some (.pointer (some ⟨gb167, 0, none⟩)) := by rw [ha]; exact (putSel_off rfl).trans rfl
          replace ha := Aside0.mk ha
          have BK167 := Aside0.mk Q_BK167
          have BK168 := Aside0.mk Q_BK168
          have HB := Aside0.mk Q_HB
          have hc0_ : w'.cell? ⟨gb167, 0, none⟩ = some (.float .f64 b_a0_0) := (blk_cell BK167.out 0).trans rfl
          have hc1_ : w'.cell? ⟨gb167, 1, none⟩ = some (.float .f64 b_a0_1) := (blk_cell BK167.out 1).trans rfl
          refine value_ (w1 := w') (v := .agg #[.float .f64 b_a0_0, .float .f64 b_a0_1]) (by rfl) rfl ?_ ?_
          · go_simp
            (try simp only [i64_w])
            try rfl
          refine hK.out _ _ ⟨b_t169, b_t170, b_t171, b_t172, b_t173, b_t174, gb176, m1_, m3_, m4_, m5_, m6_, m8_, (by rw [ha.out]; exact putSel_upk 0 hb_ rfl rfl rfl), Q_BK167, Q_BK168, Q_HB, fun h0_ => absurd ((hoff 1 (by kernel_rfl)).symm.trans h0_) (by decide), fun h0_ => absurd ((hoff 1 (by kernel_rfl)).symm.trans h0_) (by decide), fun h0_ => absurd ((hoff 3 (by kernel_rfl)).symm.trans h0_) (by decide), fun h0_ => absurd ((hoff 3 (by kernel_rfl)).symm.trans h0_) (by decide), fun h0_ => absurd ((hoff 4 (by kernel_rfl)).symm.trans h0_) (by decide), fun h0_ => absurd ((hoff 4 (by kernel_rfl)).symm.trans h0_) (by decide), Q_BK176, Q_GW176, Q_GE176, Q_NB167_176, Q_NB176_167, Q_NB168_176, Q_NB176_168, fun h0_ => absurd ((hoff 9 (by kernel_rfl)).symm.trans h0_) (by decide), fun h0_ => absurd ((hoff 1 (by kernel_rfl)).symm.trans h0_) (by decide), fun h0_ => absurd ((hoff 3 (by kernel_rfl)).symm.trans h0_) (by decide), fun h0_ => absurd ((hoff 4 (by kernel_rfl)).symm.trans h0_) (by decide), fun h0_ => absurd ((hoff 5 (by kernel_rfl)).symm.trans h0_) (by decide), fun h0_ => absurd ((hoff 6 (by kernel_rfl)).symm.trans h0_) (by decide), Q_X8_⟩
        refine steps_cons ?_ ?_
        · rintro b a w' ⟨b_t169, b_t170, b_t171, b_t172, b_t173, b_t174, gb176, m1_, m3_, m4_, m5_, m6_, m8_, ha, Q_BK167, Q_BK168, Q_HB, Q_HF_t169, Q_HF_t170, Q_HF_t171, Q_HF_t172, Q_HF_t173, Q_HF_t174, Q_BK176, Q_GW176, Q_GE176, Q_NB167_176, Q_NB176_167, Q_NB168_176, Q_NB176_168, Q_BK176_e9, Q_X1_, Q_X3_, Q_X4_, Q_X5_, Q_X6_, Q_X8_⟩ hb_ hon hoff
          refine ⟨_, rfl, fun K hK => ?_⟩
          have e10 : a.tmps[10]? = some (.agg #[.float .f64 b_a0_0, .float .f64 b_a0_1]) := by rw [ha]; exact putSel_on (e := (0, 10, .agg #[.float .f64 b_a0_0, .float .f64 b_a0_1])) 0 rfl rfl (hon 0 (by kernel_rfl)) rfl
          replace ha := Aside0.mk ha
          have BK167 := Aside0.mk Q_BK167
          have BK168 := Aside0.mk Q_BK168
          have HB := Aside0.mk Q_HB
          refine goes_ Try.func16 (by kernel_rfl) rfl #[.agg #[.float .f64 b_a0_0, .float .f64 b_a0_1]] (by rfl) rfl rfl (by first | (simp only [List.map_toArray, List.map_cons, List.map_nil, Act.eval, Array.getD_eq_getD_getElem?, Option.getD_some, e10]; done) | (simp only [List.map_toArray, List.map_cons, List.map_nil, Act.eval, Array.getD_eq_getD_getElem?, Option.getD_some, e10]; rfl)) ?_
          with_reducible refine (laws_toCx.calls b_a0_0 a0_0 b_a0_1 a0_1 t169 t170 _ ?side1 ?side2 A3.out).mono ?_
          (case side1 => exact hF_a0_0)
          (case side2 => exact hF_a0_1)
          rintro e w15 ⟨b_t169, b_t170, rfl, hF_t169, hF_t170, hb⟩
          refine ⟨_, rfl, ?_⟩
          have n0_ := Aside0.mk (blk_below (g := gb167) (o := .cells #[.float .f64 b_a0_0, .float .f64 b_a0_1] 24 (0, 0)) (by (with_reducible repeat (first | refine blk_drewN ?_ _ | refine blk_drew ?_ | refine blk_alloc ?_ _)); exact BK167.out) hb)
          have n1_ := Aside0.mk (blk_below (g := gb168) (o := .cells #[.float .f64 b_a1_0, .float .f64 b_a1_1] 24 (0, 0)) (by (with_reducible repeat (first | refine blk_drewN ?_ _ | refine blk_drew ?_ | refine blk_alloc ?_ _)); exact BK168.out) hb)
          have n2_ := Aside0.mk (below_step (by repeat (first | (with_reducible first | exact HB.out | apply below_alloc | apply pw_below_drewN | apply below_drew1 | refine below_set ?_ GE167.out | refine below_set ?_ GE168.out) | exact HB.out)) hb)
          have z_BK176 := fun (h0_ : b 8 = true) (h1_ : b 9 = false) => (show w15.heap[gb176]? = some (.cells #[.float .f64 0, .float .f64 0] 26 (0, 0)) from by first | exact (blk_below (g := gb176) (o := .cells #[.float .f64 0, .float .f64 0] 26 (0, 0)) (by (with_reducible repeat (first | refine blk_drewN ?_ _ | refine blk_drew ?_ | refine blk_alloc ?_ _)); exact (Q_BK176 h0_ h1_)) hb))
          clear BK167
          clear BK168
          clear HB
          have BK167 := n0_
          have BK168 := n1_
          have HB := n2_
          clear n0_ n1_ n2_
          (try clear hb)
          (try clear hb2)
          (try clear hk)
          (try clear hi)
          refine hK.out _ _ ⟨b_t169, b_t170, b_t171, b_t172, b_t173, b_t174, gb176, (.agg #[.float .f64 b_t169, .float .f64 b_t170]), m3_, m4_, m5_, m6_, m8_, (by rw [ha.out]; exact putSel_upk 1 hb_ rfl rfl rfl), (by (with_reducible repeat (first | refine blk_drewN ?_ _ | refine blk_drew ?_ | refine blk_alloc ?_ _)); exact BK167.out), (by (with_reducible repeat (first | refine blk_drewN ?_ _ | refine blk_drew ?_ | refine blk_alloc ?_ _)); exact BK168.out), (by repeat (first | (with_reducible first | exact HB.out | apply below_alloc | apply pw_below_drewN | apply below_drew1 | refine below_set ?_ GE167.out | refine below_set ?_ GE168.out) | exact HB.out)), fun _ => hF_t169, fun _ => hF_t170, fun h0_ => absurd ((hoff 3 (by kernel_rfl)).symm.trans h0_) (by decide), fun h0_ => absurd ((hoff 3 (by kernel_rfl)).symm.trans h0_) (by decide), fun h0_ => absurd ((hoff 4 (by kernel_rfl)).symm.trans h0_) (by decide), fun h0_ => absurd ((hoff 4 (by kernel_rfl)).symm.trans h0_) (by decide), z_BK176, Q_GW176, Q_GE176, Q_NB167_176, Q_NB176_167, Q_NB168_176, Q_NB176_168, fun h0_ => absurd ((hoff 9 (by kernel_rfl)).symm.trans h0_) (by decide), fun _ => rfl, fun h0_ => absurd ((hoff 3 (by kernel_rfl)).symm.trans h0_) (by decide), fun h0_ => absurd ((hoff 4 (by kernel_rfl)).symm.trans h0_) (by decide), fun h0_ => absurd ((hoff 5 (by kernel_rfl)).symm.trans h0_) (by decide), fun h0_ => absurd ((hoff 6 (by kernel_rfl)).symm.trans h0_) (by decide), Q_X8_⟩
        refine steps_cons ?_ ?_
        · rintro b a w' ⟨b_t169, b_t170, b_t171, b_t172, b_t173, b_t174, gb176, m1_, m3_, m4_, m5_, m6_, m8_, ha, Q_BK167, Q_BK168, Q_HB, Q_HF_t169, Q_HF_t170, Q_HF_t171, Q_HF_t172, Q_HF_t173, Q_HF_t174, Q_BK176, Q_GW176, Q_GE176, Q_NB167_176, Q_NB176_167, Q_NB168_176, Q_NB176_168, Q_BK176_e9, Q_X1_, Q_X3_, Q_X4_, Q_X5_, Q_X6_, Q_X8_⟩ hb_ hon hoff
          refine ⟨_, rfl, fun K hK => ?_⟩
          have e3 : a.tmps[3]? = some (.pointer (some ⟨gb168, 0, none⟩)) := by rw [ha]; exact (putSel_off rfl).trans rfl
          replace ha := Aside0.mk ha
          have BK167 := Aside0.mk Q_BK167
          have BK168 := Aside0.mk Q_BK168
          have HB := Aside0.mk Q_HB
          have hc0_ : w'.cell? ⟨gb168, 0, none⟩ = some (.float .f64 b_a1_0) := (blk_cell BK168.out 0).trans rfl
          have hc1_ : w'.cell? ⟨gb168, 1, none⟩ = some (.float .f64 b_a1_1) := (blk_cell BK168.out 1).trans rfl
          refine value_ (w1 := w') (v := .agg #[.float .f64 b_a1_0, .float .f64 b_a1_1]) (by rfl) rfl ?_ ?_
          · go_simp
            (try simp only [i64_w])
            try rfl
          refine hK.out _ _ ⟨b_t169, b_t170, b_t171, b_t172, b_t173, b_t174, gb176, m1_, m3_, m4_, m5_, m6_, m8_, (by rw [ha.out]; exact putSel_upk 2 hb_ rfl rfl rfl), Q_BK167, Q_BK168, Q_HB, Q_HF_t169, Q_HF_t170, fun h0_ => absurd ((hoff 3 (by kernel_rfl)).symm.trans h0_) (by decide), fun h0_ => absurd ((hoff 3 (by kernel_rfl)).symm.trans h0_) (by decide), fun h0_ => absurd ((hoff 4 (by kernel_rfl)).symm.trans h0_) (by decide), fun h0_ => absurd ((hoff 4 (by kernel_rfl)).symm.trans h0_) (by decide), Q_BK176, Q_GW176, Q_GE176, Q_NB167_176, Q_NB176_167, Q_NB168_176, Q_NB176_168, fun h0_ => absurd ((hoff 9 (by kernel_rfl)).symm.trans h0_) (by decide), Q_X1_, fun h0_ => absurd ((hoff 3 (by kernel_rfl)).symm.trans h0_) (by decide), fun h0_ => absurd ((hoff 4 (by kernel_rfl)).symm.trans h0_) (by decide), fun h0_ => absurd ((hoff 5 (by kernel_rfl)).symm.trans h0_) (by decide), fun h0_ => absurd ((hoff 6 (by kernel_rfl)).symm.trans h0_) (by decide), Q_X8_⟩
        refine steps_cons ?_ ?_
        · rintro b a w' ⟨b_t169, b_t170, b_t171, b_t172, b_t173, b_t174, gb176, m1_, m3_, m4_, m5_, m6_, m8_, ha, Q_BK167, Q_BK168, Q_HB, Q_HF_t169, Q_HF_t170, Q_HF_t171, Q_HF_t172, Q_HF_t173, Q_HF_t174, Q_BK176, Q_GW176, Q_GE176, Q_NB167_176, Q_NB176_167, Q_NB168_176, Q_NB176_168, Q_BK176_e9, Q_X1_, Q_X3_, Q_X4_, Q_X5_, Q_X6_, Q_X8_⟩ hb_ hon hoff
          refine ⟨_, rfl, fun K hK => ?_⟩
          have e12 : a.tmps[12]? = some (.agg #[.float .f64 b_a1_0, .float .f64 b_a1_1]) := by rw [ha]; exact putSel_on (e := (2, 12, .agg #[.float .f64 b_a1_0, .float .f64 b_a1_1])) 2 rfl rfl (hon 2 (by kernel_rfl)) rfl
          replace ha := Aside0.mk ha
          have BK167 := Aside0.mk Q_BK167
          have BK168 := Aside0.mk Q_BK168
          have HB := Aside0.mk Q_HB
          have HF_t169 := Aside0.mk (Q_HF_t169 (hon 1 (by kernel_rfl)))
          have HF_t170 := Aside0.mk (Q_HF_t170 (hon 1 (by kernel_rfl)))
          have hF_t169 := HF_t169.out
          have hF_t170 := HF_t170.out
          refine goes_ Try.func16 (by kernel_rfl) rfl #[.agg #[.float .f64 b_a1_0, .float .f64 b_a1_1]] (by rfl) rfl rfl (by first | (simp only [List.map_toArray, List.map_cons, List.map_nil, Act.eval, Array.getD_eq_getD_getElem?, Option.getD_some, e12]; done) | (simp only [List.map_toArray, List.map_cons, List.map_nil, Act.eval, Array.getD_eq_getD_getElem?, Option.getD_some, e12]; rfl)) ?_
          with_reducible refine (laws_toCx.calls b_a1_0 a1_0 b_a1_1 a1_1 t171 t172 _ ?side1 ?side2 A4.out).mono ?_
          (case side1 => exact hF_a1_0)
          (case side2 => exact hF_a1_1)
          rintro e w17 ⟨b_t171, b_t172, rfl, hF_t171, hF_t172, hb⟩
          refine ⟨_, rfl, ?_⟩
          have n0_ := Aside0.mk (blk_below (g := gb167) (o := .cells #[.float .f64 b_a0_0, .float .f64 b_a0_1] 24 (0, 0)) (by (with_reducible repeat (first | refine blk_drewN ?_ _ | refine blk_drew ?_ | refine blk_alloc ?_ _)); exact BK167.out) hb)
          have n1_ := Aside0.mk (blk_below (g := gb168) (o := .cells #[.float .f64 b_a1_0, .float .f64 b_a1_1] 24 (0, 0)) (by (with_reducible repeat (first | refine blk_drewN ?_ _ | refine blk_drew ?_ | refine blk_alloc ?_ _)); exact BK168.out) hb)
          have n2_ := Aside0.mk (below_step (by repeat (first | (with_reducible first | exact HB.out | apply below_alloc | apply pw_below_drewN | apply below_drew1 | refine below_set ?_ GE167.out | refine below_set ?_ GE168.out) | exact HB.out)) hb)
          have z_BK176 := fun (h0_ : b 8 = true) (h1_ : b 9 = false) => (show w17.heap[gb176]? = some (.cells #[.float .f64 0, .float .f64 0] 26 (0, 0)) from by first | exact (blk_below (g := gb176) (o := .cells #[.float .f64 0, .float .f64 0] 26 (0, 0)) (by (with_reducible repeat (first | refine blk_drewN ?_ _ | refine blk_drew ?_ | refine blk_alloc ?_ _)); exact (Q_BK176 h0_ h1_)) hb))
          clear BK167
          clear BK168
          clear HB
          have BK167 := n0_
          have BK168 := n1_
          have HB := n2_
          clear n0_ n1_ n2_
          (try clear hb)
          (try clear hb2)
          (try clear hk)
          (try clear hi)
          refine hK.out _ _ ⟨b_t169, b_t170, b_t171, b_t172, b_t173, b_t174, gb176, m1_, (.agg #[.float .f64 b_t171, .float .f64 b_t172]), m4_, m5_, m6_, m8_, (by rw [ha.out]; exact putSel_upk 3 hb_ rfl rfl rfl), (by (with_reducible repeat (first | refine blk_drewN ?_ _ | refine blk_drew ?_ | refine blk_alloc ?_ _)); exact BK167.out), (by (with_reducible repeat (first | refine blk_drewN ?_ _ | refine blk_drew ?_ | refine blk_alloc ?_ _)); exact BK168.out), (by repeat (first | (with_reducible first | exact HB.out | apply below_alloc | apply pw_below_drewN | apply below_drew1 | refine below_set ?_ GE167.out | refine below_set ?_ GE168.out) | exact HB.out)), fun _ => hF_t169, fun _ => hF_t170, fun _ => hF_t171, fun _ => hF_t172, fun h0_ => absurd ((hoff 4 (by kernel_rfl)).symm.trans h0_) (by decide), fun h0_ => absurd ((hoff 4 (by kernel_rfl)).symm.trans h0_) (by decide), z_BK176, Q_GW176, Q_GE176, Q_NB167_176, Q_NB176_167, Q_NB168_176, Q_NB176_168, fun h0_ => absurd ((hoff 9 (by kernel_rfl)).symm.trans h0_) (by decide), Q_X1_, fun _ => rfl, fun h0_ => absurd ((hoff 4 (by kernel_rfl)).symm.trans h0_) (by decide), fun h0_ => absurd ((hoff 5 (by kernel_rfl)).symm.trans h0_) (by decide), fun h0_ => absurd ((hoff 6 (by kernel_rfl)).symm.trans h0_) (by decide), Q_X8_⟩
        refine steps_cons ?_ ?_
        · rintro b a w' ⟨b_t169, b_t170, b_t171, b_t172, b_t173, b_t174, gb176, m1_, m3_, m4_, m5_, m6_, m8_, ha, Q_BK167, Q_BK168, Q_HB, Q_HF_t169, Q_HF_t170, Q_HF_t171, Q_HF_t172, Q_HF_t173, Q_HF_t174, Q_BK176, Q_GW176, Q_GE176, Q_NB167_176, Q_NB176_167, Q_NB168_176, Q_NB176_168, Q_BK176_e9, Q_X1_, Q_X3_, Q_X4_, Q_X5_, Q_X6_, Q_X8_⟩ hb_ hon hoff
          refine ⟨_, rfl, fun K hK => ?_⟩
          have e11 : a.tmps[11]? = some (m1_) := by rw [ha]; exact putSel_on (e := (1, 11, m1_)) 1 rfl rfl (hon 1 (by kernel_rfl)) rfl
          rw [Q_X1_ (hon 1 (by kernel_rfl))] at e11
          have e13 : a.tmps[13]? = some (m3_) := by rw [ha]; exact putSel_on (e := (3, 13, m3_)) 3 rfl rfl (hon 3 (by kernel_rfl)) rfl
          rw [Q_X3_ (hon 3 (by kernel_rfl))] at e13
          replace ha := Aside0.mk ha
          have BK167 := Aside0.mk Q_BK167
          have BK168 := Aside0.mk Q_BK168
          have HB := Aside0.mk Q_HB
          have HF_t169 := Aside0.mk (Q_HF_t169 (hon 1 (by kernel_rfl)))
          have HF_t170 := Aside0.mk (Q_HF_t170 (hon 1 (by kernel_rfl)))
          have HF_t171 := Aside0.mk (Q_HF_t171 (hon 3 (by kernel_rfl)))
          have HF_t172 := Aside0.mk (Q_HF_t172 (hon 3 (by kernel_rfl)))
          have hF_t169 := HF_t169.out
          have hF_t170 := HF_t170.out
          have hF_t171 := HF_t171.out
          have hF_t172 := HF_t172.out
          refine goes_ Try.func43 (by kernel_rfl) rfl #[.agg #[.float .f64 b_t169, .float .f64 b_t170], .agg #[.float .f64 b_t171, .float .f64 b_t172]] (by rfl) rfl rfl (by first | (simp only [List.map_toArray, List.map_cons, List.map_nil, Act.eval, Array.getD_eq_getD_getElem?, Option.getD_some, e11, e13]; done) | (simp only [List.map_toArray, List.map_cons, List.map_nil, Act.eval, Array.getD_eq_getD_getElem?, Option.getD_some, e11, e13]; rfl)) ?_
          with_reducible refine (spec_CxOver.calls k b_t169 t169 b_t170 t170 b_t171 t171 b_t172 t172 t173 t174 t175 _ ?side1 ?side2 ?side3 ?side4 A5.out).mono ?_
          (case side1 => exact hF_t169)
          (case side2 => exact hF_t170)
          (case side3 => exact hF_t171)
          (case side4 => exact hF_t172)
          rintro e w18 ⟨b_t173, b_t174, rfl, hF_t173, hF_t174, hb⟩
          refine ⟨_, rfl, ?_⟩
          have n0_ := Aside0.mk (blk_below (g := gb167) (o := .cells #[.float .f64 b_a0_0, .float .f64 b_a0_1] 24 (0, 0)) (by (with_reducible repeat (first | refine blk_drewN ?_ _ | refine blk_drew ?_ | refine blk_alloc ?_ _)); exact BK167.out) hb)
          have n1_ := Aside0.mk (blk_below (g := gb168) (o := .cells #[.float .f64 b_a1_0, .float .f64 b_a1_1] 24 (0, 0)) (by (with_reducible repeat (first | refine blk_drewN ?_ _ | refine blk_drew ?_ | refine blk_alloc ?_ _)); exact BK168.out) hb)
          have n2_ := Aside0.mk (below_step (by repeat (first | (with_reducible first | exact HB.out | apply below_alloc | apply pw_below_drewN | apply below_drew1 | refine below_set ?_ GE167.out | refine below_set ?_ GE168.out) | exact HB.out)) hb)
          have z_BK176 := fun (h0_ : b 8 = true) (h1_ : b 9 = false) => (show w18.heap[gb176]? = some (.cells #[.float .f64 0, .float .f64 0] 26 (0, 0)) from by first | exact (blk_below (g := gb176) (o := .cells #[.float .f64 0, .float .f64 0] 26 (0, 0)) (by (with_reducible repeat (first | refine blk_drewN ?_ _ | refine blk_drew ?_ | refine blk_alloc ?_ _)); exact (Q_BK176 h0_ h1_)) hb))
          clear BK167
          clear BK168
          clear HB
          have BK167 := n0_
          have BK168 := n1_
          have HB := n2_
          clear n0_ n1_ n2_
          (try clear hb)
          (try clear hb2)
          (try clear hk)
          (try clear hi)
          refine hK.out _ _ ⟨b_t169, b_t170, b_t171, b_t172, b_t173, b_t174, gb176, m1_, m3_, (.tuple #[.agg #[.float .f64 b_t173, .float .f64 b_t174], .bool t175]), m5_, m6_, m8_, (by rw [ha.out]; exact putSel_upk 4 hb_ rfl rfl rfl), (by (with_reducible repeat (first | refine blk_drewN ?_ _ | refine blk_drew ?_ | refine blk_alloc ?_ _)); exact BK167.out), (by (with_reducible repeat (first | refine blk_drewN ?_ _ | refine blk_drew ?_ | refine blk_alloc ?_ _)); exact BK168.out), (by repeat (first | (with_reducible first | exact HB.out | apply below_alloc | apply pw_below_drewN | apply below_drew1 | refine below_set ?_ GE167.out | refine below_set ?_ GE168.out) | exact HB.out)), fun _ => hF_t169, fun _ => hF_t170, fun _ => hF_t171, fun _ => hF_t172, fun _ => hF_t173, fun _ => hF_t174, z_BK176, Q_GW176, Q_GE176, Q_NB167_176, Q_NB176_167, Q_NB168_176, Q_NB176_168, fun h0_ => absurd ((hoff 9 (by kernel_rfl)).symm.trans h0_) (by decide), Q_X1_, Q_X3_, fun _ => rfl, fun h0_ => absurd ((hoff 5 (by kernel_rfl)).symm.trans h0_) (by decide), fun h0_ => absurd ((hoff 6 (by kernel_rfl)).symm.trans h0_) (by decide), Q_X8_⟩
        refine steps_cons ?_ ?_
        · rintro b a w' ⟨b_t169, b_t170, b_t171, b_t172, b_t173, b_t174, gb176, m1_, m3_, m4_, m5_, m6_, m8_, ha, Q_BK167, Q_BK168, Q_HB, Q_HF_t169, Q_HF_t170, Q_HF_t171, Q_HF_t172, Q_HF_t173, Q_HF_t174, Q_BK176, Q_GW176, Q_GE176, Q_NB167_176, Q_NB176_167, Q_NB168_176, Q_NB176_168, Q_BK176_e9, Q_X1_, Q_X3_, Q_X4_, Q_X5_, Q_X6_, Q_X8_⟩ hb_ hon hoff
          refine ⟨_, rfl, fun K hK => ?_⟩
          have e14 : a.tmps[14]? = some (m4_) := by rw [ha]; exact putSel_on (e := (4, 14, m4_)) 4 rfl rfl (hon 4 (by kernel_rfl)) rfl
          rw [Q_X4_ (hon 4 (by kernel_rfl))] at e14
          replace ha := Aside0.mk ha
          have BK167 := Aside0.mk Q_BK167
          have BK168 := Aside0.mk Q_BK168
          have HB := Aside0.mk Q_HB
          have HF_t169 := Aside0.mk (Q_HF_t169 (hon 1 (by kernel_rfl)))
          have HF_t170 := Aside0.mk (Q_HF_t170 (hon 1 (by kernel_rfl)))
          have HF_t171 := Aside0.mk (Q_HF_t171 (hon 3 (by kernel_rfl)))
          have HF_t172 := Aside0.mk (Q_HF_t172 (hon 3 (by kernel_rfl)))
          have HF_t173 := Aside0.mk (Q_HF_t173 (hon 4 (by kernel_rfl)))
          have HF_t174 := Aside0.mk (Q_HF_t174 (hon 4 (by kernel_rfl)))
          refine value_ (w1 := w') (v := .tuple #[.agg #[.float .f64 b_t173, .float .f64 b_t174], .bool t175]) (by rfl) rfl ?_ ?_
          · go_simp
            (try simp only [i64_w])
            try rfl
          refine hK.out _ _ ⟨b_t169, b_t170, b_t171, b_t172, b_t173, b_t174, gb176, m1_, m3_, m4_, (.tuple #[.agg #[.float .f64 b_t173, .float .f64 b_t174], .bool t175]), m6_, m8_, (by rw [ha.out]; exact putSel_upk 5 hb_ rfl rfl rfl), Q_BK167, Q_BK168, Q_HB, Q_HF_t169, Q_HF_t170, Q_HF_t171, Q_HF_t172, Q_HF_t173, Q_HF_t174, Q_BK176, Q_GW176, Q_GE176, Q_NB167_176, Q_NB176_167, Q_NB168_176, Q_NB176_168, fun h0_ => absurd ((hoff 9 (by kernel_rfl)).symm.trans h0_) (by decide), Q_X1_, Q_X3_, Q_X4_, fun _ => rfl, fun h0_ => absurd ((hoff 6 (by kernel_rfl)).symm.trans h0_) (by decide), Q_X8_⟩
        refine steps_cons ?_ ?_
        · rintro b a w' ⟨b_t169, b_t170, b_t171, b_t172, b_t173, b_t174, gb176, m1_, m3_, m4_, m5_, m6_, m8_, ha, Q_BK167, Q_BK168, Q_HB, Q_HF_t169, Q_HF_t170, Q_HF_t171, Q_HF_t172, Q_HF_t173, Q_HF_t174, Q_BK176, Q_GW176, Q_GE176, Q_NB167_176, Q_NB176_167, Q_NB168_176, Q_NB176_168, Q_BK176_e9, Q_X1_, Q_X3_, Q_X4_, Q_X5_, Q_X6_, Q_X8_⟩ hb_ hon hoff
          refine ⟨_, rfl, fun K hK => ?_⟩
          have e9 : a.tmps[9]? = some (m5_) := by rw [ha]; exact putSel_on (e := (5, 9, m5_)) 5 rfl rfl (hon 5 (by kernel_rfl)) rfl
          rw [Q_X5_ (hon 5 (by kernel_rfl))] at e9
          replace ha := Aside0.mk ha
          have BK167 := Aside0.mk Q_BK167
          have BK168 := Aside0.mk Q_BK168
          have HB := Aside0.mk Q_HB
          have HF_t169 := Aside0.mk (Q_HF_t169 (hon 1 (by kernel_rfl)))
          have HF_t170 := Aside0.mk (Q_HF_t170 (hon 1 (by kernel_rfl)))
          have HF_t171 := Aside0.mk (Q_HF_t171 (hon 3 (by kernel_rfl)))
          have HF_t172 := Aside0.mk (Q_HF_t172 (hon 3 (by kernel_rfl)))
          have HF_t173 := Aside0.mk (Q_HF_t173 (hon 4 (by kernel_rfl)))
          have HF_t174 := Aside0.mk (Q_HF_t174 (hon 4 (by kernel_rfl)))
          refine value_ (w1 := w') (v := .agg #[.float .f64 b_t173, .float .f64 b_t174]) (by rfl) rfl ?_ ?_
          · go_simp
            (try simp only [i64_w])
            try rfl
          refine hK.out _ _ ⟨b_t169, b_t170, b_t171, b_t172, b_t173, b_t174, gb176, m1_, m3_, m4_, m5_, (.agg #[.float .f64 b_t173, .float .f64 b_t174]), m8_, (by rw [ha.out]; exact putSel_upk 6 hb_ rfl rfl rfl), Q_BK167, Q_BK168, Q_HB, Q_HF_t169, Q_HF_t170, Q_HF_t171, Q_HF_t172, Q_HF_t173, Q_HF_t174, Q_BK176, Q_GW176, Q_GE176, Q_NB167_176, Q_NB176_167, Q_NB168_176, Q_NB176_168, fun h0_ => absurd ((hoff 9 (by kernel_rfl)).symm.trans h0_) (by decide), Q_X1_, Q_X3_, Q_X4_, Q_X5_, fun _ => rfl, Q_X8_⟩
        refine steps_cons ?_ ?_
        · rintro b a w' ⟨b_t169, b_t170, b_t171, b_t172, b_t173, b_t174, gb176, m1_, m3_, m4_, m5_, m6_, m8_, ha, Q_BK167, Q_BK168, Q_HB, Q_HF_t169, Q_HF_t170, Q_HF_t171, Q_HF_t172, Q_HF_t173, Q_HF_t174, Q_BK176, Q_GW176, Q_GE176, Q_NB167_176, Q_NB176_167, Q_NB168_176, Q_NB176_168, Q_BK176_e9, Q_X1_, Q_X3_, Q_X4_, Q_X5_, Q_X6_, Q_X8_⟩ hb_ hon hoff
          refine ⟨_, rfl, fun K hK => ?_⟩
          have e9 : a.tmps[9]? = some (m5_) := by rw [ha]; exact putSel_on (e := (5, 9, m5_)) 5 rfl rfl (hon 5 (by kernel_rfl)) rfl
          rw [Q_X5_ (hon 5 (by kernel_rfl))] at e9
          replace ha := Aside0.mk ha
          have BK167 := Aside0.mk Q_BK167
          have BK168 := Aside0.mk Q_BK168
          have HB := Aside0.mk Q_HB
          have HF_t169 := Aside0.mk (Q_HF_t169 (hon 1 (by kernel_rfl)))
          have HF_t170 := Aside0.mk (Q_HF_t170 (hon 1 (by kernel_rfl)))
          have HF_t171 := Aside0.mk (Q_HF_t171 (hon 3 (by kernel_rfl)))
          have HF_t172 := Aside0.mk (Q_HF_t172 (hon 3 (by kernel_rfl)))
          have HF_t173 := Aside0.mk (Q_HF_t173 (hon 4 (by kernel_rfl)))
          have HF_t174 := Aside0.mk (Q_HF_t174 (hon 4 (by kernel_rfl)))
          refine value_ (w1 := w') (v := .bool t175) (by rfl) rfl ?_ ?_
          · go_simp
            (try simp only [i64_w])
            try rfl
          refine hK.out _ _ ⟨b_t169, b_t170, b_t171, b_t172, b_t173, b_t174, gb176, m1_, m3_, m4_, m5_, m6_, m8_, (by rw [ha.out]; exact putSel_upk 7 hb_ rfl rfl rfl), Q_BK167, Q_BK168, Q_HB, Q_HF_t169, Q_HF_t170, Q_HF_t171, Q_HF_t172, Q_HF_t173, Q_HF_t174, Q_BK176, Q_GW176, Q_GE176, Q_NB167_176, Q_NB176_167, Q_NB168_176, Q_NB176_168, Q_BK176_e9, Q_X1_, Q_X3_, Q_X4_, Q_X5_, Q_X6_, Q_X8_⟩
        refine steps_cons ?_ ?_
        · rintro b a w' ⟨b_t169, b_t170, b_t171, b_t172, b_t173, b_t174, gb176, m1_, m3_, m4_, m5_, m6_, m8_, ha, Q_BK167, Q_BK168, Q_HB, Q_HF_t169, Q_HF_t170, Q_HF_t171, Q_HF_t172, Q_HF_t173, Q_HF_t174, Q_BK176, Q_GW176, Q_GE176, Q_NB167_176, Q_NB176_167, Q_NB168_176, Q_NB176_168, Q_BK176_e9, Q_X1_, Q_X3_, Q_X4_, Q_X5_, Q_X6_, Q_X8_⟩ hb_ hon hoff
          refine ⟨_, rfl, fun K hK => ?_⟩
          replace ha := Aside0.mk ha
          have BK167 := Aside0.mk Q_BK167
          have BK168 := Aside0.mk Q_BK168
          have HB := Aside0.mk Q_HB
          refine box_step ?hg (N := 5) ?hd (cs := #[.float .f64 0, .float .f64 0]) (t := 26) ?hr ?_; (case hd => rfl); (case hg => rfl); (case hr => first | (go_simp; done) | (go_simp; rfl))
          intro gb176 hg w15 hbox hb
          have n0_ := Aside0.mk (blk_below (g := gb167) (o := .cells #[.float .f64 b_a0_0, .float .f64 b_a0_1] 24 (0, 0)) (by (with_reducible repeat (first | refine blk_drewN ?_ _ | refine blk_drew ?_ | refine blk_alloc ?_ _)); exact BK167.out) hb)
          have n1_ := Aside0.mk (blk_below (g := gb168) (o := .cells #[.float .f64 b_a1_0, .float .f64 b_a1_1] 24 (0, 0)) (by (with_reducible repeat (first | refine blk_drewN ?_ _ | refine blk_drew ?_ | refine blk_alloc ?_ _)); exact BK168.out) hb)
          have n2_ := Aside0.mk (below_step (by repeat (first | (with_reducible first | exact HB.out | apply below_alloc | apply pw_below_drewN | apply below_drew1 | refine below_set ?_ GE167.out | refine below_set ?_ GE168.out) | exact HB.out)) hb)
          have n3_ := Aside0.mk (hbox)
          have n4_ := Aside0.mk ((by rw [hg]; exact (below_size (by repeat (first | (with_reducible first | exact HB.out | apply below_alloc | apply pw_below_drewN | apply below_drew1 | refine below_set ?_ GE167.out | refine below_set ?_ GE168.out) | exact HB.out))) : w.heap.size ≤ gb176))
          have n5_ := Aside0.mk ((by rw [hg]; exact (below_size (by repeat (first | (with_reducible first | exact HB.out | apply below_alloc | apply pw_below_drewN | apply below_drew1 | refine below_set ?_ GE167.out | refine below_set ?_ GE168.out) | exact HB.out))) : w.heap.size ≤ gb176))
          have n6_ := Aside0.mk ((by rw [hg]; exact Nat.ne_of_lt (blk_lt (g := gb167) (o := .cells #[.float .f64 b_a0_0, .float .f64 b_a0_1] 24 (0, 0)) (by (with_reducible repeat (first | refine blk_drewN ?_ _ | refine blk_drew ?_ | refine blk_alloc ?_ _)); exact BK167.out)) : gb167 ≠ gb176))
          have n7_ := Aside0.mk ((by rw [hg]; exact Nat.ne_of_gt (blk_lt (g := gb167) (o := .cells #[.float .f64 b_a0_0, .float .f64 b_a0_1] 24 (0, 0)) (by (with_reducible repeat (first | refine blk_drewN ?_ _ | refine blk_drew ?_ | refine blk_alloc ?_ _)); exact BK167.out)) : gb176 ≠ gb167))
          have n8_ := Aside0.mk ((by rw [hg]; exact Nat.ne_of_lt (blk_lt (g := gb168) (o := .cells #[.float .f64 b_a1_0, .float .f64 b_a1_1] 24 (0, 0)) (by (with_reducible repeat (first | refine blk_drewN ?_ _ | refine blk_drew ?_ | refine blk_alloc ?_ _)); exact BK168.out)) : gb168 ≠ gb176))
          have n9_ := Aside0.mk ((by rw [hg]; exact Nat.ne_of_gt (blk_lt (g := gb168) (o := .cells #[.float .f64 b_a1_0, .float .f64 b_a1_1] 24 (0, 0)) (by (with_reducible repeat (first | refine blk_drewN ?_ _ | refine blk_drew ?_ | refine blk_alloc ?_ _)); exact BK168.out)) : gb176 ≠ gb168))
          clear BK167
          clear BK168
          clear HB
          have BK167 := n0_
          have BK168 := n1_
          have HB := n2_
          have BK176 := n3_
          have GW176 := n4_
          have GE176 := n5_
          have NB167_176 := n6_
          have NB176_167 := n7_
          have NB168_176 := n8_
          have NB176_168 := n9_
          clear n0_ n1_ n2_ n3_ n4_ n5_ n6_ n7_ n8_ n9_
          clear hb hbox hg
          refine hK.out _ _ ⟨b_t169, b_t170, b_t171, b_t172, b_t173, b_t174, gb176, m1_, m3_, m4_, m5_, m6_, (.pointer (some ⟨gb176, 0, none⟩)), (by rw [ha.out]; exact putSel_upk 8 hb_ rfl rfl rfl), (by (with_reducible repeat (first | refine blk_drewN ?_ _ | refine blk_drew ?_ | refine blk_alloc ?_ _)); exact BK167.out), (by (with_reducible repeat (first | refine blk_drewN ?_ _ | refine blk_drew ?_ | refine blk_alloc ?_ _)); exact BK168.out), (by repeat (first | (with_reducible first | exact HB.out | apply below_alloc | apply pw_below_drewN | apply below_drew1 | refine below_set ?_ GE167.out | refine below_set ?_ GE168.out | refine below_set ?_ GE176.out) | exact HB.out)), Q_HF_t169, Q_HF_t170, Q_HF_t171, Q_HF_t172, Q_HF_t173, Q_HF_t174, fun _ _ => (by (with_reducible repeat (first | refine blk_drewN ?_ _ | refine blk_drew ?_ | refine blk_alloc ?_ _)); exact BK176.out), fun _ => GW176.out, fun _ => GE176.out, fun _ => NB167_176.out, fun _ => NB176_167.out, fun _ => NB168_176.out, fun _ => NB176_168.out, fun h0_ => absurd ((hoff 9 (by kernel_rfl)).symm.trans h0_) (by decide), Q_X1_, Q_X3_, Q_X4_, Q_X5_, Q_X6_, fun _ => rfl⟩
        refine steps_cons ?_ ?_
        · rintro b a w' ⟨b_t169, b_t170, b_t171, b_t172, b_t173, b_t174, gb176, m1_, m3_, m4_, m5_, m6_, m8_, ha, Q_BK167, Q_BK168, Q_HB, Q_HF_t169, Q_HF_t170, Q_HF_t171, Q_HF_t172, Q_HF_t173, Q_HF_t174, Q_BK176, Q_GW176, Q_GE176, Q_NB167_176, Q_NB176_167, Q_NB168_176, Q_NB176_168, Q_BK176_e9, Q_X1_, Q_X3_, Q_X4_, Q_X5_, Q_X6_, Q_X8_⟩ hb_ hon hoff
          refine ⟨_, rfl, fun K hK => ?_⟩
          have e5 : a.tmps[5]? = some (m8_) := by rw [ha]; exact putSel_on (e := (8, 5, m8_)) 8 rfl rfl (hon 8 (by kernel_rfl)) rfl
          rw [Q_X8_ (hon 8 (by kernel_rfl))] at e5
          have e15 : a.tmps[15]? = some (m6_) := by rw [ha]; exact putSel_on (e := (6, 15, m6_)) 6 rfl rfl (hon 6 (by kernel_rfl)) rfl
          rw [Q_X6_ (hon 6 (by kernel_rfl))] at e15
          replace ha := Aside0.mk ha
          have BK167 := Aside0.mk Q_BK167
          have BK168 := Aside0.mk Q_BK168
          have HB := Aside0.mk Q_HB
          have HF_t169 := Aside0.mk (Q_HF_t169 (hon 1 (by kernel_rfl)))
          have HF_t170 := Aside0.mk (Q_HF_t170 (hon 1 (by kernel_rfl)))
          have HF_t171 := Aside0.mk (Q_HF_t171 (hon 3 (by kernel_rfl)))
          have HF_t172 := Aside0.mk (Q_HF_t172 (hon 3 (by kernel_rfl)))
          have HF_t173 := Aside0.mk (Q_HF_t173 (hon 4 (by kernel_rfl)))
          have HF_t174 := Aside0.mk (Q_HF_t174 (hon 4 (by kernel_rfl)))
          have BK176 := Aside0.mk (Q_BK176 (hon 8 (by kernel_rfl)) hb_)
          have GW176 := Aside0.mk (Q_GW176 (hon 8 (by kernel_rfl)))
          have GE176 := Aside0.mk (Q_GE176 (hon 8 (by kernel_rfl)))
          have NB167_176 := Aside0.mk (Q_NB167_176 (hon 8 (by kernel_rfl)))
          have NB176_167 := Aside0.mk (Q_NB176_167 (hon 8 (by kernel_rfl)))
          have NB168_176 := Aside0.mk (Q_NB168_176 (hon 8 (by kernel_rfl)))
          have NB176_168 := Aside0.mk (Q_NB176_168 (hon 8 (by kernel_rfl)))
          have hF_t169 := HF_t169.out
          have hF_t170 := HF_t170.out
          have hF_t171 := HF_t171.out
          have hF_t172 := HF_t172.out
          have hF_t173 := HF_t173.out
          have hF_t174 := HF_t174.out
          have hs20 : w'.cell? ⟨gb176, 0, none⟩ = some (.float .f64 0) := (blk_cell BK176.out 0).trans rfl
          have hfs20 := blk_frozen BK176.out 0
          have hns20_0 := NB167_176.out
          have hns20_1 := NB168_176.out
          have hms20_0 := NB176_167.out
          have hms20_1 := NB176_168.out
          have hs21 : w'.cell? ⟨gb176, 1, none⟩ = some (.float .f64 0) := (blk_cell BK176.out 1).trans rfl
          have hfs21 := blk_frozen BK176.out 1
          have hns21_0 := NB167_176.out
          have hns21_1 := NB168_176.out
          have hms21_0 := NB176_167.out
          have hms21_1 := NB176_168.out
          refine skip_ (w1 := ?_) (by rfl) rfl ?_ ?_
          rotate_left
          · go_simp
            rfl
          refine hK.out _ _ ⟨b_t169, b_t170, b_t171, b_t172, b_t173, b_t174, gb176, m1_, m3_, m4_, m5_, m6_, m8_, (by rw [ha.out]; exact putSel_none (v := undef) rfl), (by (with_reducible repeat (first | refine blk_drewN ?_ _ | refine blk_drew ?_ | refine blk_alloc ?_ _)); refine blk_far ?_ NB167_176.out _; (with_reducible repeat (first | refine blk_drewN ?_ _ | refine blk_drew ?_ | refine blk_alloc ?_ _)); refine blk_far ?_ NB167_176.out _; (with_reducible repeat (first | refine blk_drewN ?_ _ | refine blk_drew ?_ | refine blk_alloc ?_ _)); exact BK167.out), (by (with_reducible repeat (first | refine blk_drewN ?_ _ | refine blk_drew ?_ | refine blk_alloc ?_ _)); refine blk_far ?_ NB168_176.out _; (with_reducible repeat (first | refine blk_drewN ?_ _ | refine blk_drew ?_ | refine blk_alloc ?_ _)); refine blk_far ?_ NB168_176.out _; (with_reducible repeat (first | refine blk_drewN ?_ _ | refine blk_drew ?_ | refine blk_alloc ?_ _)); exact BK168.out), (by repeat (first | (with_reducible first | exact HB.out | apply below_alloc | apply pw_below_drewN | apply below_drew1 | refine below_set ?_ GE167.out | refine below_set ?_ GE168.out | refine below_set ?_ GE176.out) | exact HB.out)), fun _ => hF_t169, fun _ => hF_t170, fun _ => hF_t171, fun _ => hF_t172, fun _ => hF_t173, fun _ => hF_t174, fun _ h1_ => absurd ((up_self b 9).symm.trans h1_) (by decide), fun _ => GW176.out, fun _ => GE176.out, fun _ => NB167_176.out, fun _ => NB176_167.out, fun _ => NB168_176.out, fun _ => NB176_168.out, fun _ => (by (with_reducible repeat (first | refine blk_drewN ?_ _ | refine blk_drew ?_ | refine blk_alloc ?_ _)); refine blk_put (cs := #[.float .f64 b_t173, .float .f64 0]) ?_ 1 _ rfl; (with_reducible repeat (first | refine blk_drewN ?_ _ | refine blk_drew ?_ | refine blk_alloc ?_ _)); refine blk_put (cs := #[.float .f64 0, .float .f64 0]) ?_ 0 _ rfl; (with_reducible repeat (first | refine blk_drewN ?_ _ | refine blk_drew ?_ | refine blk_alloc ?_ _)); exact BK176.out), Q_X1_, Q_X3_, Q_X4_, Q_X5_, Q_X6_, Q_X8_⟩
        refine steps_cons ?_ ?_
        · rintro b a w' ⟨b_t169, b_t170, b_t171, b_t172, b_t173, b_t174, gb176, m1_, m3_, m4_, m5_, m6_, m8_, ha, Q_BK167, Q_BK168, Q_HB, Q_HF_t169, Q_HF_t170, Q_HF_t171, Q_HF_t172, Q_HF_t173, Q_HF_t174, Q_BK176, Q_GW176, Q_GE176, Q_NB167_176, Q_NB176_167, Q_NB168_176, Q_NB176_168, Q_BK176_e9, Q_X1_, Q_X3_, Q_X4_, Q_X5_, Q_X6_, Q_X8_⟩ hb_ hon hoff
          refine ⟨_, rfl, fun K hK => ?_⟩
          have e16 : a.tmps[16]? = some (.bool t175) := by rw [ha]; exact putSel_on (e := (7, 16, .bool t175)) 7 rfl rfl (hon 7 (by kernel_rfl)) rfl
          replace ha := Aside0.mk ha
          have BK167 := Aside0.mk Q_BK167
          have BK168 := Aside0.mk Q_BK168
          have HB := Aside0.mk Q_HB
          have HF_t169 := Aside0.mk (Q_HF_t169 (hon 1 (by kernel_rfl)))
          have HF_t170 := Aside0.mk (Q_HF_t170 (hon 1 (by kernel_rfl)))
          have HF_t171 := Aside0.mk (Q_HF_t171 (hon 3 (by kernel_rfl)))
          have HF_t172 := Aside0.mk (Q_HF_t172 (hon 3 (by kernel_rfl)))
          have HF_t173 := Aside0.mk (Q_HF_t173 (hon 4 (by kernel_rfl)))
          have HF_t174 := Aside0.mk (Q_HF_t174 (hon 4 (by kernel_rfl)))
          have GW176 := Aside0.mk (Q_GW176 (hon 8 (by kernel_rfl)))
          have GE176 := Aside0.mk (Q_GE176 (hon 8 (by kernel_rfl)))
          have NB167_176 := Aside0.mk (Q_NB167_176 (hon 8 (by kernel_rfl)))
          have NB176_167 := Aside0.mk (Q_NB176_167 (hon 8 (by kernel_rfl)))
          have NB168_176 := Aside0.mk (Q_NB168_176 (hon 8 (by kernel_rfl)))
          have NB176_168 := Aside0.mk (Q_NB176_168 (hon 8 (by kernel_rfl)))
          have BK176 := Aside0.mk (Q_BK176_e9 (hon 9 (by kernel_rfl)))
          refine value_ (w1 := w') (v := .bool t175) (by rfl) rfl ?_ ?_
          · go_simp
            (try simp only [i64_w])
            try rfl
          refine hK.out _ _ ⟨b_t169, b_t170, b_t171, b_t172, b_t173, b_t174, gb176, m1_, m3_, m4_, m5_, m6_, m8_, (by rw [ha.out]; exact putSel_upk 9 hb_ rfl rfl rfl), Q_BK167, Q_BK168, Q_HB, Q_HF_t169, Q_HF_t170, Q_HF_t171, Q_HF_t172, Q_HF_t173, Q_HF_t174, fun _ h1_ => absurd ((hon 9 (by kernel_rfl)).symm.trans h1_) (by decide), Q_GW176, Q_GE176, Q_NB167_176, Q_NB176_167, Q_NB168_176, Q_NB176_168, Q_BK176_e9, Q_X1_, Q_X3_, Q_X4_, Q_X5_, Q_X6_, Q_X8_⟩
        exact steps_nil
      rintro b a w21 hall ⟨b_t169, b_t170, b_t171, b_t172, b_t173, b_t174, gb176, m1_, m3_, m4_, m5_, m6_, m8_, ha, Q_BK167, Q_BK168, Q_HB, Q_HF_t169, Q_HF_t170, Q_HF_t171, Q_HF_t172, Q_HF_t173, Q_HF_t174, Q_BK176, Q_GW176, Q_GE176, Q_NB167_176, Q_NB176_167, Q_NB168_176, Q_NB176_168, Q_BK176_e9, Q_X1_, Q_X3_, Q_X4_, Q_X5_, Q_X6_, Q_X8_⟩
      clear BK167 BK168 HB
      have hb0_ := hall 0 (by kernel_rfl)
      have hb1_ := hall 1 (by kernel_rfl)
      have hb2_ := hall 2 (by kernel_rfl)
      have hb3_ := hall 3 (by kernel_rfl)
      have hb4_ := hall 4 (by kernel_rfl)
      have hb5_ := hall 5 (by kernel_rfl)
      have hb6_ := hall 6 (by kernel_rfl)
      have hb7_ := hall 7 (by kernel_rfl)
      have hb8_ := hall 8 (by kernel_rfl)
      have hb9_ := hall 9 (by kernel_rfl)
      have hb10_ := hall 10 (by kernel_rfl)
      subst ha
      obtain rfl := Q_X1_ hb1_
      obtain rfl := Q_X3_ hb3_
      obtain rfl := Q_X4_ hb4_
      obtain rfl := Q_X5_ hb5_
      obtain rfl := Q_X6_ hb6_
      obtain rfl := Q_X8_ hb8_
      simp only [putSel, hb0_, hb1_, hb2_, hb3_, hb4_, hb5_, hb6_, hb7_, hb8_, hb9_, hb10_, if_true, Act.put, List.setIfInBounds_toArray, List.set_cons_zero, List.set_cons_succ]
      have BK167 := Aside0.mk Q_BK167
      clear Q_BK167
      have BK168 := Aside0.mk Q_BK168
      clear Q_BK168
      have HB := Aside0.mk Q_HB
      clear Q_HB
      have HF_t169 := Aside0.mk (Q_HF_t169 hb1_)
      clear Q_HF_t169
      have HF_t170 := Aside0.mk (Q_HF_t170 hb1_)
      clear Q_HF_t170
      have HF_t171 := Aside0.mk (Q_HF_t171 hb3_)
      clear Q_HF_t171
      have HF_t172 := Aside0.mk (Q_HF_t172 hb3_)
      clear Q_HF_t172
      have HF_t173 := Aside0.mk (Q_HF_t173 hb4_)
      clear Q_HF_t173
      have HF_t174 := Aside0.mk (Q_HF_t174 hb4_)
      clear Q_HF_t174
      clear Q_BK176
      have GW176 := Aside0.mk (Q_GW176 hb8_)
      clear Q_GW176
      have GE176 := Aside0.mk (Q_GE176 hb8_)
      clear Q_GE176
      have NB167_176 := Aside0.mk (Q_NB167_176 hb8_)
      clear Q_NB167_176
      have NB176_167 := Aside0.mk (Q_NB176_167 hb8_)
      clear Q_NB176_167
      have NB168_176 := Aside0.mk (Q_NB168_176 hb8_)
      clear Q_NB168_176
      have NB176_168 := Aside0.mk (Q_NB176_168 hb8_)
      clear Q_NB176_168
      have BK176 := Aside0.mk (Q_BK176_e9 hb9_)
      clear Q_BK176_e9
      clear hall hb0_ hb1_ hb2_ hb3_ hb4_ hb5_ hb6_ hb7_ hb8_ hb9_ hb10_
      have hF_t169 := HF_t169.out
      have hF_t170 := HF_t170.out
      have hF_t171 := HF_t171.out
      have hF_t172 := HF_t172.out
      have hF_t173 := HF_t173.out
      have hF_t174 := HF_t174.out
      try go_wp2
      have n0_ := Aside0.mk (blk_drew BK167.out)
      have n1_ := Aside0.mk (blk_drew BK168.out)
      have n2_ := Aside0.mk (blk_drew BK176.out)
      have n3_ := Aside0.mk (below_drew1 HB.out)
      clear BK167
      clear BK168
      clear BK176
      clear HB
      have BK167 := n0_
      have BK168 := n1_
      have BK176 := n2_
      have HB := n3_
      clear n0_ n1_ n2_ n3_
      refine start_ (n := 11) (S := fun w' => True) (ds := []) #[false, false, false, false, false, false, false, false, false, false, false] (by kernel_rfl) rfl rfl trivial (fun hHeld => ?_); refine with_tabW laws_FnExactCxOver.tab2 laws_FnExactCxOver.bits2 (fun HT_ HW_ => ?_)
      generalize w21.drew = w22 at BK167 BK168 BK176 HB hHeld ⊢
      refine inv_at [0, 1, 2, 3, 4, 5, 6, 7, 8, 9, 10] (fun a0_ b a w' => ∃ (b_t177 : Nat) (b_t178 : Nat) (b_t179 : Nat) (b_t180 : Nat) (b_t181 : Nat) (b_t182 : Nat) (gb184 : Nat) (m1_ : Value) (m3_ : Value) (m4_ : Value) (m5_ : Value) (m6_ : Value) (m8_ : Value), a = putSel a0_ b [(0, 18, .agg #[.float .f64 b_a0_0, .float .f64 b_a0_1]), (1, 19, m1_), (2, 20, .agg #[.float .f64 b_a1_0, .float .f64 b_a1_1]), (3, 21, m3_), (4, 22, m4_), (5, 17, m5_), (6, 23, m6_), (7, 24, .bool t183), (8, 7, m8_), (10, 8, .bool t183)] ∧ (w'.heap[gb167]? = some (.cells #[.float .f64 b_a0_0, .float .f64 b_a0_1] 24 (0, 0))) ∧ (w'.heap[gb168]? = some (.cells #[.float .f64 b_a1_0, .float .f64 b_a1_1] 24 (0, 0))) ∧ (w'.heap[gb176]? = some (.cells #[.float .f64 b_t173, .float .f64 b_t174] 26 (0, 0))) ∧ (Below w.heap.size w w') ∧ (b 1 = true → cn .f64 b_t177 = t177) ∧ (b 1 = true → cn .f64 b_t178 = t178) ∧ (b 3 = true → cn .f64 b_t179 = t179) ∧ (b 3 = true → cn .f64 b_t180 = t180) ∧ (b 4 = true → cn .f64 b_t181 = t181) ∧ (b 4 = true → cn .f64 b_t182 = t182) ∧ (b 8 = true → b 9 = false → w'.heap[gb184]? = some (.cells #[.float .f64 0, .float .f64 0] 26 (0, 0))) ∧ (b 8 = true → w.heap.size ≤ gb184) ∧ (b 8 = true → w.heap.size ≤ gb184) ∧ (b 8 = true → gb167 ≠ gb184) ∧ (b 8 = true → gb184 ≠ gb167) ∧ (b 8 = true → gb168 ≠ gb184) ∧ (b 8 = true → gb184 ≠ gb168) ∧ (b 8 = true → gb176 ≠ gb184) ∧ (b 8 = true → gb184 ≠ gb176) ∧ (b 9 = true → w'.heap[gb184]? = some (.cells #[.float .f64 b_t181, .float .f64 b_t182] 26 (0, 0))) ∧ (b 1 = true → (m1_ : Value) = .agg #[.float .f64 b_t177, .float .f64 b_t178]) ∧ (b 3 = true → (m3_ : Value) = .agg #[.float .f64 b_t179, .float .f64 b_t180]) ∧ (b 4 = true → (m4_ : Value) = .tuple #[.agg #[.float .f64 b_t181, .float .f64 b_t182], .bool t183]) ∧ (b 5 = true → (m5_ : Value) = .tuple #[.agg #[.float .f64 b_t181, .float .f64 b_t182], .bool t183]) ∧ (b 6 = true → (m6_ : Value) = .agg #[.float .f64 b_t181, .float .f64 b_t182]) ∧ (b 8 = true → (m8_ : Value) = .pointer (some ⟨gb184, 0, none⟩))) HT_.out HW_.out (by kernel_rfl) (by kernel_rfl) ?_ ?_ ?_
      · exact ⟨0, 0, 0, 0, 0, 0, 0, .bool false, .bool false, .bool false, .bool false, .bool false, .bool false, by simp only [putSel, Bool.false_eq_true, if_false], BK167.out, BK168.out, BK176.out, HB.out, fun h_ => absurd h_ (by decide), fun h_ => absurd h_ (by decide), fun h_ => absurd h_ (by decide), fun h_ => absurd h_ (by decide), fun h_ => absurd h_ (by decide), fun h_ => absurd h_ (by decide), fun h_ => absurd h_ (by decide), fun h_ => absurd h_ (by decide), fun h_ => absurd h_ (by decide), fun h_ => absurd h_ (by decide), fun h_ => absurd h_ (by decide), fun h_ => absurd h_ (by decide), fun h_ => absurd h_ (by decide), fun h_ => absurd h_ (by decide), fun h_ => absurd h_ (by decide), fun h_ => absurd h_ (by decide), fun h_ => absurd h_ (by decide), fun h_ => absurd h_ (by decide), fun h_ => absurd h_ (by decide), fun h_ => absurd h_ (by decide), fun h_ => absurd h_ (by decide), fun h_ => absurd h_ (by decide)⟩
      · skip
        clear BK167 BK168 BK176 HB
        refine steps_cons ?_ ?_
        · rintro b a w' ⟨b_t177, b_t178, b_t179, b_t180, b_t181, b_t182, gb184, m1_, m3_, m4_, m5_, m6_, m8_, ha, Q_BK167, Q_BK168, Q_BK176, Q_HB, Q_HF_t177, Q_HF_t178, Q_HF_t179, Q_HF_t180, Q_HF_t181, Q_HF_t182, Q_BK184, Q_GW184, Q_GE184, Q_NB167_184, Q_NB184_167, Q_NB168_184, Q_NB184_168, Q_NB176_184, Q_NB184_176, Q_BK184_e9, Q_X1_, Q_X3_, Q_X4_, Q_X5_, Q_X6_, Q_X8_⟩ hb_ hon hoff
          refine ⟨_, rfl, fun K hK => ?_⟩
          have e2 : a.tmps[2]? = some (.pointer (some ⟨gb167, 0, none⟩)) := by rw [ha]; exact (putSel_off rfl).trans rfl
          replace ha := Aside0.mk ha
          have BK167 := Aside0.mk Q_BK167
          have BK168 := Aside0.mk Q_BK168
          have BK176 := Aside0.mk Q_BK176
          have HB := Aside0.mk Q_HB
          have hc0_ : w'.cell? ⟨gb167, 0, none⟩ = some (.float .f64 b_a0_0) := (blk_cell BK167.out 0).trans rfl
          have hc1_ : w'.cell? ⟨gb167, 1, none⟩ = some (.float .f64 b_a0_1) := (blk_cell BK167.out 1).trans rfl
          refine value_ (w1 := w') (v := .agg #[.float .f64 b_a0_0, .float .f64 b_a0_1]) (by rfl) rfl ?_ ?_
          · go_simp
            (try simp only [i64_w])
            try rfl
          refine hK.out _ _ ⟨b_t177, b_t178, b_t179, b_t180, b_t181, b_t182, gb184, m1_, m3_, m4_, m5_, m6_, m8_, (by rw [ha.out]; exact putSel_upk 0 hb_ rfl rfl rfl), Q_BK167, Q_BK168, Q_BK176, Q_HB, fun h0_ => absurd ((hoff 1 (by kernel_rfl)).symm.trans h0_) (by decide), fun h0_ => absurd ((hoff 1 (by kernel_rfl)).symm.trans h0_) (by decide), fun h0_ => absurd ((hoff 3 (by kernel_rfl)).symm.trans h0_) (by decide), fun h0_ => absurd ((hoff 3 (by kernel_rfl)).symm.trans h0_) (by decide), fun h0_ => absurd ((hoff 4 (by kernel_rfl)).symm.trans h0_) (by decide), fun h0_ => absurd ((hoff 4 (by kernel_rfl)).symm.trans h0_) (by decide), Q_BK184, Q_GW184, Q_GE184, Q_NB167_184, Q_NB184_167, Q_NB168_184, Q_NB184_168, Q_NB176_184, Q_NB184_176, fun h0_ => absurd ((hoff 9 (by kernel_rfl)).symm.trans h0_) (by decide), fun h0_ => absurd ((hoff 1 (by kernel_rfl)).symm.trans h0_) (by decide), fun h0_ => absurd ((hoff 3 (by kernel_rfl)).symm.trans h0_) (by decide), fun h0_ => absurd ((hoff 4 (by kernel_rfl)).symm.trans h0_) (by decide), fun h0_ => absurd ((hoff 5 (by kernel_rfl)).symm.trans h0_) (by decide), fun h0_ => absurd ((hoff 6 (by kernel_rfl)).symm.trans h0_) (by decide), Q_X8_⟩
        refine steps_cons ?_ ?_
        · rintro b a w' ⟨b_t177, b_t178, b_t179, b_t180, b_t181, b_t182, gb184, m1_, m3_, m4_, m5_, m6_, m8_, ha, Q_BK167, Q_BK168, Q_BK176, Q_HB, Q_HF_t177, Q_HF_t178, Q_HF_t179, Q_HF_t180, Q_HF_t181, Q_HF_t182, Q_BK184, Q_GW184, Q_GE184, Q_NB167_184, Q_NB184_167, Q_NB168_184, Q_NB184_168, Q_NB176_184, Q_NB184_176, Q_BK184_e9, Q_X1_, Q_X3_, Q_X4_, Q_X5_, Q_X6_, Q_X8_⟩ hb_ hon hoff
          refine ⟨_, rfl, fun K hK => ?_⟩
          have e18 : a.tmps[18]? = some (.agg #[.float .f64 b_a0_0, .float .f64 b_a0_1]) := by rw [ha]; exact putSel_on (e := (0, 18, .agg #[.float .f64 b_a0_0, .float .f64 b_a0_1])) 0 rfl rfl (hon 0 (by kernel_rfl)) rfl
          replace ha := Aside0.mk ha
          have BK167 := Aside0.mk Q_BK167
          have BK168 := Aside0.mk Q_BK168
          have BK176 := Aside0.mk Q_BK176
          have HB := Aside0.mk Q_HB
          refine goes_ Try.func16 (by kernel_rfl) rfl #[.agg #[.float .f64 b_a0_0, .float .f64 b_a0_1]] (by rfl) rfl rfl (by first | (simp only [List.map_toArray, List.map_cons, List.map_nil, Act.eval, Array.getD_eq_getD_getElem?, Option.getD_some, e18]; done) | (simp only [List.map_toArray, List.map_cons, List.map_nil, Act.eval, Array.getD_eq_getD_getElem?, Option.getD_some, e18]; rfl)) ?_
          with_reducible refine (laws_toCx.calls b_a0_0 a0_0 b_a0_1 a0_1 t177 t178 _ ?side1 ?side2 A6.out).mono ?_
          (case side1 => exact hF_a0_0)
          (case side2 => exact hF_a0_1)
          rintro e w23 ⟨b_t177, b_t178, rfl, hF_t177, hF_t178, hb⟩
          refine ⟨_, rfl, ?_⟩
          have n0_ := Aside0.mk (blk_below (g := gb167) (o := .cells #[.float .f64 b_a0_0, .float .f64 b_a0_1] 24 (0, 0)) (by (with_reducible repeat (first | refine blk_drewN ?_ _ | refine blk_drew ?_ | refine blk_alloc ?_ _)); exact BK167.out) hb)
          have n1_ := Aside0.mk (blk_below (g := gb168) (o := .cells #[.float .f64 b_a1_0, .float .f64 b_a1_1] 24 (0, 0)) (by (with_reducible repeat (first | refine blk_drewN ?_ _ | refine blk_drew ?_ | refine blk_alloc ?_ _)); exact BK168.out) hb)
          have n2_ := Aside0.mk (blk_below (g := gb176) (o := .cells #[.float .f64 b_t173, .float .f64 b_t174] 26 (0, 0)) (by (with_reducible repeat (first | refine blk_drewN ?_ _ | refine blk_drew ?_ | refine blk_alloc ?_ _)); exact BK176.out) hb)
          have n3_ := Aside0.mk (below_step (by repeat (first | (with_reducible first | exact HB.out | apply below_alloc | apply pw_below_drewN | apply below_drew1 | refine below_set ?_ GE167.out | refine below_set ?_ GE168.out | refine below_set ?_ GE176.out) | exact HB.out)) hb)
          have z_BK184 := fun (h0_ : b 8 = true) (h1_ : b 9 = false) => (show w23.heap[gb184]? = some (.cells #[.float .f64 0, .float .f64 0] 26 (0, 0)) from by first | exact (blk_below (g := gb184) (o := .cells #[.float .f64 0, .float .f64 0] 26 (0, 0)) (by (with_reducible repeat (first | refine blk_drewN ?_ _ | refine blk_drew ?_ | refine blk_alloc ?_ _)); exact (Q_BK184 h0_ h1_)) hb))
          clear BK167
          clear BK168
          clear BK176
          clear HB
          have BK167 := n0_
          have BK168 := n1_
          have BK176 := n2_
          have HB := n3_
          clear n0_ n1_ n2_ n3_
          (try clear hb)
          (try clear hb2)
          (try clear hk)
          (try clear hi)
          refine hK.out _ _ ⟨b_t177, b_t178, b_t179, b_t180, b_t181, b_t182, gb184, (.agg #[.float .f64 b_t177, .float .f64 b_t178]), m3_, m4_, m5_, m6_, m8_, (by rw [ha.out]; exact putSel_upk 1 hb_ rfl rfl rfl), (by (with_reducible repeat (first | refine blk_drewN ?_ _ | refine blk_drew ?_ | refine blk_alloc ?_ _)); exact BK167.out), (by (with_reducible repeat (first | refine blk_drewN ?_ _ | refine blk_drew ?_ | refine blk_alloc ?_ _)); exact BK168.out), (by (with_reducible repeat (first | refine blk_drewN ?_ _ | refine blk_drew ?_ | refine blk_alloc ?_ _)); exact BK176.out), (by repeat (first | (with_reducible first | exact HB.out | apply below_alloc | apply pw_below_drewN | apply below_drew1 | refine below_set ?_ GE167.out | refine below_set ?_ GE168.out | refine below_set ?_ GE176.out) | exact HB.out)), fun _ => hF_t177, fun _ => hF_t178, fun h0_ => absurd ((hoff 3 (by kernel_rfl)).symm.trans h0_) (by decide), fun h0_ => absurd ((hoff 3 (by kernel_rfl)).symm.trans h0_) (by decide), fun h0_ => absurd ((hoff 4 (by kernel_rfl)).symm.trans h0_) (by decide), fun h0_ => absurd ((hoff 4 (by kernel_rfl)).symm.trans h0_) (by decide), z_BK184, Q_GW184, Q_GE184, Q_NB167_184, Q_NB184_167, Q_NB168_184, Q_NB184_168, Q_NB176_184, Q_NB184_176, fun h0_ => absurd ((hoff 9 (by kernel_rfl)).symm.trans h0_) (by decide), fun _ => rfl, fun h0_ => absurd ((hoff 3 (by kernel_rfl)).symm.trans h0_) (by decide), fun h0_ => absurd ((hoff 4 (by kernel_rfl)).symm.trans h0_) (by decide), fun h0_ => absurd ((hoff 5 (by kernel_rfl)).symm.trans h0_) (by decide), fun h0_ => absurd ((hoff 6 (by kernel_rfl)).symm.trans h0_) (by decide), Q_X8_⟩
        refine steps_cons ?_ ?_
        · rintro b a w' ⟨b_t177, b_t178, b_t179, b_t180, b_t181, b_t182, gb184, m1_, m3_, m4_, m5_, m6_, m8_, ha, Q_BK167, Q_BK168, Q_BK176, Q_HB, Q_HF_t177, Q_HF_t178, Q_HF_t179, Q_HF_t180, Q_HF_t181, Q_HF_t182, Q_BK184, Q_GW184, Q_GE184, Q_NB167_184, Q_NB184_167, Q_NB168_184, Q_NB184_168, Q_NB176_184, Q_NB184_176, Q_BK184_e9, Q_X1_, Q_X3_, Q_X4_, Q_X5_, Q_X6_, Q_X8_⟩ hb_ hon hoff
          refine ⟨_, rfl, fun K hK => ?_⟩
          have e3 : a.tmps[3]? = some (.pointer (some ⟨gb168, 0, none⟩)) := by rw [ha]; exact (putSel_off rfl).trans rfl
          replace ha := Aside0.mk ha
          have BK167 := Aside0.mk Q_BK167
          have BK168 := Aside0.mk Q_BK168
          have BK176 := Aside0.mk Q_BK176
          have HB := Aside0.mk Q_HB
          have hc0_ : w'.cell? ⟨gb168, 0, none⟩ = some (.float .f64 b_a1_0) := (blk_cell BK168.out 0).trans rfl
          have hc1_ : w'.cell? ⟨gb168, 1, none⟩ = some (.float .f64 b_a1_1) := (blk_cell BK168.out 1).trans rfl
          refine value_ (w1 := w') (v := .agg #[.float .f64 b_a1_0, .float .f64 b_a1_1]) (by rfl) rfl ?_ ?_
          · go_simp
            (try simp only [i64_w])
            try rfl
          refine hK.out _ _ ⟨b_t177, b_t178, b_t179, b_t180, b_t181, b_t182, gb184, m1_, m3_, m4_, m5_, m6_, m8_, (by rw [ha.out]; exact putSel_upk 2 hb_ rfl rfl rfl), Q_BK167, Q_BK168, Q_BK176, Q_HB, Q_HF_t177, Q_HF_t178, fun h0_ => absurd ((hoff 3 (by kernel_rfl)).symm.trans h0_) (by decide), fun h0_ => absurd ((hoff 3 (by kernel_rfl)).symm.trans h0_) (by decide), fun h0_ => absurd ((hoff 4 (by kernel_rfl)).symm.trans h0_) (by decide), fun h0_ => absurd ((hoff 4 (by kernel_rfl)).symm.trans h0_) (by decide), Q_BK184, Q_GW184, Q_GE184, Q_NB167_184, Q_NB184_167, Q_NB168_184, Q_NB184_168, Q_NB176_184, Q_NB184_176, fun h0_ => absurd ((hoff 9 (by kernel_rfl)).symm.trans h0_) (by decide), Q_X1_, fun h0_ => absurd ((hoff 3 (by kernel_rfl)).symm.trans h0_) (by decide), fun h0_ => absurd ((hoff 4 (by kernel_rfl)).symm.trans h0_) (by decide), fun h0_ => absurd ((hoff 5 (by kernel_rfl)).symm.trans h0_) (by decide), fun h0_ => absurd ((hoff 6 (by kernel_rfl)).symm.trans h0_) (by decide), Q_X8_⟩
        refine steps_cons ?_ ?_
        · rintro b a w' ⟨b_t177, b_t178, b_t179, b_t180, b_t181, b_t182, gb184, m1_, m3_, m4_, m5_, m6_, m8_, ha, Q_BK167, Q_BK168, Q_BK176, Q_HB, Q_HF_t177, Q_HF_t178, Q_HF_t179, Q_HF_t180, Q_HF_t181, Q_HF_t182, Q_BK184, Q_GW184, Q_GE184, Q_NB167_184, Q_NB184_167, Q_NB168_184, Q_NB184_168, Q_NB176_184, Q_NB184_176, Q_BK184_e9, Q_X1_, Q_X3_, Q_X4_, Q_X5_, Q_X6_, Q_X8_⟩ hb_ hon hoff
          refine ⟨_, rfl, fun K hK => ?_⟩
          have e20 : a.tmps[20]? = some (.agg #[.float .f64 b_a1_0, .float .f64 b_a1_1]) := by rw [ha]; exact putSel_on (e := (2, 20, .agg #[.float .f64 b_a1_0, .float .f64 b_a1_1])) 2 rfl rfl (hon 2 (by kernel_rfl)) rfl
          replace ha := Aside0.mk ha
          have BK167 := Aside0.mk Q_BK167
          have BK168 := Aside0.mk Q_BK168
          have BK176 := Aside0.mk Q_BK176
          have HB := Aside0.mk Q_HB
          have HF_t177 := Aside0.mk (Q_HF_t177 (hon 1 (by kernel_rfl)))
          have HF_t178 := Aside0.mk (Q_HF_t178 (hon 1 (by kernel_rfl)))
          have hF_t177 := HF_t177.out
          have hF_t178 := HF_t178.out
          refine goes_ Try.func16 (by kernel_rfl) rfl #[.agg #[.float .f64 b_a1_0, .float .f64 b_a1_1]] (by rfl) rfl rfl (by first | (simp only [List.map_toArray, List.map_cons, List.map_nil, Act.eval, Array.getD_eq_getD_getElem?, Option.getD_some, e20]; done) | (simp only [List.map_toArray, List.map_cons, List.map_nil, Act.eval, Array.getD_eq_getD_getElem?, Option.getD_some, e20]; rfl)) ?_
          with_reducible refine (laws_toCx.calls b_a1_0 a1_0 b_a1_1 a1_1 t179 t180 _ ?side1 ?side2 A7.out).mono ?_
          (case side1 => exact hF_a1_0)
          (case side2 => exact hF_a1_1)
          rintro e w25 ⟨b_t179, b_t180, rfl, hF_t179, hF_t180, hb⟩
          refine ⟨_, rfl, ?_⟩
          have n0_ := Aside0.mk (blk_below (g := gb167) (o := .cells #[.float .f64 b_a0_0, .float .f64 b_a0_1] 24 (0, 0)) (by (with_reducible repeat (first | refine blk_drewN ?_ _ | refine blk_drew ?_ | refine blk_alloc ?_ _)); exact BK167.out) hb)
          have n1_ := Aside0.mk (blk_below (g := gb168) (o := .cells #[.float .f64 b_a1_0, .float .f64 b_a1_1] 24 (0, 0)) (by (with_reducible repeat (first | refine blk_drewN ?_ _ | refine blk_drew ?_ | refine blk_alloc ?_ _)); exact BK168.out) hb)
          have n2_ := Aside0.mk (blk_below (g := gb176) (o := .cells #[.float .f64 b_t173, .float .f64 b_t174] 26 (0, 0)) (by (with_reducible repeat (first | refine blk_drewN ?_ _ | refine blk_drew ?_ | refine blk_alloc ?_ _)); exact BK176.out) hb)
          have n3_ := Aside0.mk (below_step (by repeat (first | (with_reducible first | exact HB.out | apply below_alloc | apply pw_below_drewN | apply below_drew1 | refine below_set ?_ GE167.out | refine below_set ?_ GE168.out | refine below_set ?_ GE176.out) | exact HB.out)) hb)
          have z_BK184 := fun (h0_ : b 8 = true) (h1_ : b 9 = false) => (show w25.heap[gb184]? = some (.cells #[.float .f64 0, .float .f64 0] 26 (0, 0)) from by first | exact (blk_below (g := gb184) (o := .cells #[.float .f64 0, .float .f64 0] 26 (0, 0)) (by (with_reducible repeat (first | refine blk_drewN ?_ _ | refine blk_drew ?_ | refine blk_alloc ?_ _)); exact (Q_BK184 h0_ h1_)) hb))
          clear BK167
          clear BK168
          clear BK176
          clear HB
          have BK167 := n0_
          have BK168 := n1_
          have BK176 := n2_
          have HB := n3_
          clear n0_ n1_ n2_ n3_
          (try clear hb)
          (try clear hb2)
          (try clear hk)
          (try clear hi)
          refine hK.out _ _ ⟨b_t177, b_t178, b_t179, b_t180, b_t181, b_t182, gb184, m1_, (.agg #[.float .f64 b_t179, .float .f64 b_t180]), m4_, m5_, m6_, m8_, (by rw [ha.out]; exact putSel_upk 3 hb_ rfl rfl rfl), (by (with_reducible repeat (first | refine blk_drewN ?_ _ | refine blk_drew ?_ | refine blk_alloc ?_ _)); exact BK167.out), (by (with_reducible repeat (first | refine blk_drewN ?_ _ | refine blk_drew ?_ | refine blk_alloc ?_ _)); exact BK168.out), (by (with_reducible repeat (first | refine blk_drewN ?_ _ | refine blk_drew ?_ | refine blk_alloc ?_ _)); exact BK176.out), (by repeat (first | (with_reducible first | exact HB.out | apply below_alloc | apply pw_below_drewN | apply below_drew1 | refine below_set ?_ GE167.out | refine below_set ?_ GE168.out | refine below_set ?_ GE176.out) | exact HB.out)), fun _ => hF_t177, fun _ => hF_t178, fun _ => hF_t179, fun _ => hF_t180, fun h0_ => absurd ((hoff 4 (by kernel_rfl)).symm.trans h0_) (by decide), fun h0_ => absurd ((hoff 4 (by kernel_rfl)).symm.trans h0_) (by decide), z_BK184, Q_GW184, Q_GE184, Q_NB167_184, Q_NB184_167, Q_NB168_184, Q_NB184_168, Q_NB176_184, Q_NB184_176, fun h0_ => absurd ((hoff 9 (by kernel_rfl)).symm.trans h0_) (by decide), Q_X1_, fun _ => rfl, fun h0_ => absurd ((hoff 4 (by kernel_rfl)).symm.trans h0_) (by decide), fun h0_ => absurd ((hoff 5 (by kernel_rfl)).symm.trans h0_) (by decide), fun h0_ => absurd ((hoff 6 (by kernel_rfl)).symm.trans h0_) (by decide), Q_X8_⟩
        refine steps_cons ?_ ?_
        · rintro b a w' ⟨b_t177, b_t178, b_t179, b_t180, b_t181, b_t182, gb184, m1_, m3_, m4_, m5_, m6_, m8_, ha, Q_BK167, Q_BK168, Q_BK176, Q_HB, Q_HF_t177, Q_HF_t178, Q_HF_t179, Q_HF_t180, Q_HF_t181, Q_HF_t182, Q_BK184, Q_GW184, Q_GE184, Q_NB167_184, Q_NB184_167, Q_NB168_184, Q_NB184_168, Q_NB176_184, Q_NB184_176, Q_BK184_e9, Q_X1_, Q_X3_, Q_X4_, Q_X5_, Q_X6_, Q_X8_⟩ hb_ hon hoff
          refine ⟨_, rfl, fun K hK => ?_⟩
          have e19 : a.tmps[19]? = some (m1_) := by rw [ha]; exact putSel_on (e := (1, 19, m1_)) 1 rfl rfl (hon 1 (by kernel_rfl)) rfl
          rw [Q_X1_ (hon 1 (by kernel_rfl))] at e19
          have e21 : a.tmps[21]? = some (m3_) := by rw [ha]; exact putSel_on (e := (3, 21, m3_)) 3 rfl rfl (hon 3 (by kernel_rfl)) rfl
          rw [Q_X3_ (hon 3 (by kernel_rfl))] at e21
          replace ha := Aside0.mk ha
          have BK167 := Aside0.mk Q_BK167
          have BK168 := Aside0.mk Q_BK168
          have BK176 := Aside0.mk Q_BK176
          have HB := Aside0.mk Q_HB
          have HF_t177 := Aside0.mk (Q_HF_t177 (hon 1 (by kernel_rfl)))
          have HF_t178 := Aside0.mk (Q_HF_t178 (hon 1 (by kernel_rfl)))
          have HF_t179 := Aside0.mk (Q_HF_t179 (hon 3 (by kernel_rfl)))
          have HF_t180 := Aside0.mk (Q_HF_t180 (hon 3 (by kernel_rfl)))
          have hF_t177 := HF_t177.out
          have hF_t178 := HF_t178.out
          have hF_t179 := HF_t179.out
          have hF_t180 := HF_t180.out
          refine goes_ Try.func44 (by kernel_rfl) rfl #[.agg #[.float .f64 b_t177, .float .f64 b_t178], .agg #[.float .f64 b_t179, .float .f64 b_t180]] (by rfl) rfl rfl (by first | (simp only [List.map_toArray, List.map_cons, List.map_nil, Act.eval, Array.getD_eq_getD_getElem?, Option.getD_some, e19, e21]; done) | (simp only [List.map_toArray, List.map_cons, List.map_nil, Act.eval, Array.getD_eq_getD_getElem?, Option.getD_some, e19, e21]; rfl)) ?_
          with_reducible refine (impl_CxOver.calls k b_t177 t177 b_t178 t178 b_t179 t179 b_t180 t180 t181 t182 t183 _ ?side1 ?side2 ?side3 ?side4 A8.out).mono ?_
          (case side1 => exact hF_t177)
          (case side2 => exact hF_t178)
          (case side3 => exact hF_t179)
          (case side4 => exact hF_t180)
          rintro e w26 ⟨b_t181, b_t182, rfl, hF_t181, hF_t182, hb⟩
          refine ⟨_, rfl, ?_⟩
          have n0_ := Aside0.mk (blk_below (g := gb167) (o := .cells #[.float .f64 b_a0_0, .float .f64 b_a0_1] 24 (0, 0)) (by (with_reducible repeat (first | refine blk_drewN ?_ _ | refine blk_drew ?_ | refine blk_alloc ?_ _)); exact BK167.out) hb)
          have n1_ := Aside0.mk (blk_below (g := gb168) (o := .cells #[.float .f64 b_a1_0, .float .f64 b_a1_1] 24 (0, 0)) (by (with_reducible repeat (first | refine blk_drewN ?_ _ | refine blk_drew ?_ | refine blk_alloc ?_ _)); exact BK168.out) hb)
          have n2_ := Aside0.mk (blk_below (g := gb176) (o := .cells #[.float .f64 b_t173, .float .f64 b_t174] 26 (0, 0)) (by (with_reducible repeat (first | refine blk_drewN ?_ _ | refine blk_drew ?_ | refine blk_alloc ?_ _)); exact BK176.out) hb)
          have n3_ := Aside0.mk (below_step (by repeat (first | (with_reducible first | exact HB.out | apply below_alloc | apply pw_below_drewN | apply below_drew1 | refine below_set ?_ GE167.out | refine below_set ?_ GE168.out | refine below_set ?_ GE176.out) | exact HB.out)) hb)
          have z_BK184 := fun (h0_ : b 8 = true) (h1_ : b 9 = false) => (show w26.heap[gb184]? = some (.cells #[.float .f64 0, .float .f64 0] 26 (0, 0)) from by first | exact (blk_below (g := gb184) (o := .cells #[.float .f64 0, .float .f64 0] 26 (0, 0)) (by (with_reducible repeat (first | refine blk_drewN ?_ _ | refine blk_drew ?_ | refine blk_alloc ?_ _)); exact (Q_BK184 h0_ h1_)) hb))
          clear BK167
          clear BK168
          clear BK176
          clear HB
          have BK167 := n0_
          have BK168 := n1_
          have BK176 := n2_
          have HB := n3_
          clear n0_ n1_ n2_ n3_
          (try clear hb)
          (try clear hb2)
          (try clear hk)
          (try clear hi)
          refine hK.out _ _ ⟨b_t177, b_t178, b_t179, b_t180, b_t181, b_t182, gb184, m1_, m3_, (.tuple #[.agg #[.float .f64 b_t181, .float .f64 b_t182], .bool t183]), m5_, m6_, m8_, (by rw [ha.out]; exact putSel_upk 4 hb_ rfl rfl rfl), (by (with_reducible repeat (first | refine blk_drewN ?_ _ | refine blk_drew ?_ | refine blk_alloc ?_ _)); exact BK167.out), (by (with_reducible repeat (first | refine blk_drewN ?_ _ | refine blk_drew ?_ | refine blk_alloc ?_ _)); exact BK168.out), (by (with_reducible repeat (first | refine blk_drewN ?_ _ | refine blk_drew ?_ | refine blk_alloc ?_ _)); exact BK176.out), (by repeat (first | (with_reducible first | exact HB.out | apply below_alloc | apply pw_below_drewN | apply below_drew1 | refine below_set ?_ GE167.out | refine below_set ?_ GE168.out | refine below_set ?_ GE176.out) | exact HB.out)), fun _ => hF_t177, fun _ => hF_t178, fun _ => hF_t179, fun _ => hF_t180, fun _ => hF_t181, fun _ => hF_t182, z_BK184, Q_GW184, Q_GE184, Q_NB167_184, Q_NB184_167, Q_NB168_184, Q_NB184_168, Q_NB176_184, Q_NB184_176, fun h0_ => absurd ((hoff 9 (by kernel_rfl)).symm.trans h0_) (by decide), Q_X1_, Q_X3_, fun _ => rfl, fun h0_ => absurd ((hoff 5 (by kernel_rfl)).symm.trans h0_) (by decide), fun h0_ => absurd ((hoff 6 (by kernel_rfl)).symm.trans h0_) (by decide), Q_X8_⟩
        refine steps_cons ?_ ?_
        · rintro b a w' ⟨b_t177, b_t178, b_t179, b_t180, b_t181, b_t182, gb184, m1_, m3_, m4_, m5_, m6_, m8_, ha, Q_BK167, Q_BK168, Q_BK176, Q_HB, Q_HF_t177, Q_HF_t178, Q_HF_t179, Q_HF_t180, Q_HF_t181, Q_HF_t182, Q_BK184, Q_GW184, Q_GE184, Q_NB167_184, Q_NB184_167, Q_NB168_184, Q_NB184_168, Q_NB176_184, Q_NB184_176, Q_BK184_e9, Q_X1_, Q_X3_, Q_X4_, Q_X5_, Q_X6_, Q_X8_⟩ hb_ hon hoff
          refine ⟨_, rfl, fun K hK => ?_⟩
          have e22 : a.tmps[22]? = some (m4_) := by rw [ha]; exact putSel_on (e := (4, 22, m4_)) 4 rfl rfl (hon 4 (by kernel_rfl)) rfl
          rw [Q_X4_ (hon 4 (by kernel_rfl))] at e22
          replace ha := Aside0.mk ha
          have BK167 := Aside0.mk Q_BK167
          have BK168 := Aside0.mk Q_BK168
          have BK176 := Aside0.mk Q_BK176
          have HB := Aside0.mk Q_HB
          have HF_t177 := Aside0.mk (Q_HF_t177 (hon 1 (by kernel_rfl)))
          have HF_t178 := Aside0.mk (Q_HF_t178 (hon 1 (by kernel_rfl)))
          have HF_t179 := Aside0.mk (Q_HF_t179 (hon 3 (by kernel_rfl)))
          have HF_t180 := Aside0.mk (Q_HF_t180 (hon 3 (by kernel_rfl)))
          have HF_t181 := Aside0.mk (Q_HF_t181 (hon 4 (by kernel_rfl)))
          have HF_t182 := Aside0.mk (Q_HF_t182 (hon 4 (by kernel_rfl)))
          refine value_ (w1 := w') (v := .tuple #[.agg #[.float .f64 b_t181, .float .f64 b_t182], .bool t183]) (by rfl) rfl ?_ ?_
          · go_simp
            (try simp only [i64_w])
            try rfl
          refine hK.out _ _ ⟨b_t177, b_t178, b_t179, b_t180, b_t181, b_t182, gb184, m1_, m3_, m4_, (.tuple #[.agg #[.float .f64 b_t181, .float .f64 b_t182], .bool t183]), m6_, m8_, (by rw [ha.out]; exact putSel_upk 5 hb_ rfl rfl rfl), Q_BK167, Q_BK168, Q_BK176, Q_HB, Q_HF_t177, Q_HF_t178, Q_HF_t179, Q_HF_t180, Q_HF_t181, Q_HF_t182, Q_BK184, Q_GW184, Q_GE184, Q_NB167_184, Q_NB184_167, Q_NB168_184, Q_NB184_168, Q_NB176_184, Q_NB184_176, fun h0_ => absurd ((hoff 9 (by kernel_rfl)).symm.trans h0_) (by decide), Q_X1_, Q_X3_, Q_X4_, fun _ => rfl, fun h0_ => absurd ((hoff 6 (by kernel_rfl)).symm.trans h0_) (by decide), Q_X8_⟩
        refine steps_cons ?_ ?_
        · rintro b a w' ⟨b_t177, b_t178, b_t179, b_t180, b_t181, b_t182, gb184, m1_, m3_, m4_, m5_, m6_, m8_, ha, Q_BK167, Q_BK168, Q_BK176, Q_HB, Q_HF_t177, Q_HF_t178, Q_HF_t179, Q_HF_t180, Q_HF_t181, Q_HF_t182, Q_BK184, Q_GW184, Q_GE184, Q_NB167_184, Q_NB184_167, Q_NB168_184, Q_NB184_168, Q_NB176_184, Q_NB184_176, Q_BK184_e9, Q_X1_, Q_X3_, Q_X4_, Q_X5_, Q_X6_, Q_X8_⟩ hb_ hon hoff
          refine ⟨_, rfl, fun K hK => ?_⟩
          have e17 : a.tmps[17]? = some (m5_) := by rw [ha]; exact putSel_on (e := (5, 17, m5_)) 5 rfl rfl (hon 5 (by kernel_rfl)) rfl
          rw [Q_X5_ (hon 5 (by kernel_rfl))] at e17
          replace ha := Aside0.mk ha
          have BK167 := Aside0.mk Q_BK167
          have BK168 := Aside0.mk Q_BK168
          have BK176 := Aside0.mk Q_BK176
          have HB := Aside0.mk Q_HB
          have HF_t177 := Aside0.mk (Q_HF_t177 (hon 1 (by kernel_rfl)))
          have HF_t178 := Aside0.mk (Q_HF_t178 (hon 1 (by kernel_rfl)))
          have HF_t179 := Aside0.mk (Q_HF_t179 (hon 3 (by kernel_rfl)))
          have HF_t180 := Aside0.mk (Q_HF_t180 (hon 3 (by kernel_rfl)))
          have HF_t181 := Aside0.mk (Q_HF_t181 (hon 4 (by kernel_rfl)))
          have HF_t182 := Aside0.mk (Q_HF_t182 (hon 4 (by kernel_rfl)))
          refine value_ (w1 := w') (v := .agg #[.float .f64 b_t181, .float .f64 b_t182]) (by rfl) rfl ?_ ?_
          · go_simp
            (try simp only [i64_w])
            try rfl
          refine hK.out _ _ ⟨b_t177, b_t178, b_t179, b_t180, b_t181, b_t182, gb184, m1_, m3_, m4_, m5_, (.agg #[.float .f64 b_t181, .float .f64 b_t182]), m8_, (by rw [ha.out]; exact putSel_upk 6 hb_ rfl rfl rfl), Q_BK167, Q_BK168, Q_BK176, Q_HB, Q_HF_t177, Q_HF_t178, Q_HF_t179, Q_HF_t180, Q_HF_t181, Q_HF_t182, Q_BK184, Q_GW184, Q_GE184, Q_NB167_184, Q_NB184_167, Q_NB168_184, Q_NB184_168, Q_NB176_184, Q_NB184_176, fun h0_ => absurd ((hoff 9 (by kernel_rfl)).symm.trans h0_) (by decide), Q_X1_, Q_X3_, Q_X4_, Q_X5_, fun _ => rfl, Q_X8_⟩
        refine steps_cons ?_ ?_
        · rintro b a w' ⟨b_t177, b_t178, b_t179, b_t180, b_t181, b_t182, gb184, m1_, m3_, m4_, m5_, m6_, m8_, ha, Q_BK167, Q_BK168, Q_BK176, Q_HB, Q_HF_t177, Q_HF_t178, Q_HF_t179, Q_HF_t180, Q_HF_t181, Q_HF_t182, Q_BK184, Q_GW184, Q_GE184, Q_NB167_184, Q_NB184_167, Q_NB168_184, Q_NB184_168, Q_NB176_184, Q_NB184_176, Q_BK184_e9, Q_X1_, Q_X3_, Q_X4_, Q_X5_, Q_X6_, Q_X8_⟩ hb_ hon hoff
          refine ⟨_, rfl, fun K hK => ?_⟩
          have e17 : a.tmps[17]? = some (m5_) := by rw [ha]; exact putSel_on (e := (5, 17, m5_)) 5 rfl rfl (hon 5 (by kernel_rfl)) rfl
          rw [Q_X5_ (hon 5 (by kernel_rfl))] at e17
          replace ha := Aside0.mk ha
          have BK167 := Aside0.mk Q_BK167
          have BK168 := Aside0.mk Q_BK168
          have BK176 := Aside0.mk Q_BK176
          have HB := Aside0.mk Q_HB
          have HF_t177 := Aside0.mk (Q_HF_t177 (hon 1 (by kernel_rfl)))
          have HF_t178 := Aside0.mk (Q_HF_t178 (hon 1 (by kernel_rfl)))
          have HF_t179 := Aside0.mk (Q_HF_t179 (hon 3 (by kernel_rfl)))
          have HF_t180 := Aside0.mk (Q_HF_t180 (hon 3 (by kernel_rfl)))
          have HF_t181 := Aside0.mk (Q_HF_t181 (hon 4 (by kernel_rfl)))
          have HF_t182 := Aside0.mk (Q_HF_t182 (hon 4 (by kernel_rfl)))
          refine value_ (w1 := w') (v := .bool t183) (by rfl) rfl ?_ ?_
          · go_simp
            (try simp only [i64_w])
            try rfl
          refine hK.out _ _ ⟨b_t177, b_t178, b_t179, b_t180, b_t181, b_t182, gb184, m1_, m3_, m4_, m5_, m6_, m8_, (by rw [ha.out]; exact putSel_upk 7 hb_ rfl rfl rfl), Q_BK167, Q_BK168, Q_BK176, Q_HB, Q_HF_t177, Q_HF_t178, Q_HF_t179, Q_HF_t180, Q_HF_t181, Q_HF_t182, Q_BK184, Q_GW184, Q_GE184, Q_NB167_184, Q_NB184_167, Q_NB168_184, Q_NB184_168, Q_NB176_184, Q_NB184_176, Q_BK184_e9, Q_X1_, Q_X3_, Q_X4_, Q_X5_, Q_X6_, Q_X8_⟩
        refine steps_cons ?_ ?_
        · rintro b a w' ⟨b_t177, b_t178, b_t179, b_t180, b_t181, b_t182, gb184, m1_, m3_, m4_, m5_, m6_, m8_, ha, Q_BK167, Q_BK168, Q_BK176, Q_HB, Q_HF_t177, Q_HF_t178, Q_HF_t179, Q_HF_t180, Q_HF_t181, Q_HF_t182, Q_BK184, Q_GW184, Q_GE184, Q_NB167_184, Q_NB184_167, Q_NB168_184, Q_NB184_168, Q_NB176_184, Q_NB184_176, Q_BK184_e9, Q_X1_, Q_X3_, Q_X4_, Q_X5_, Q_X6_, Q_X8_⟩ hb_ hon hoff
          refine ⟨_, rfl, fun K hK => ?_⟩
          replace ha := Aside0.mk ha
          have BK167 := Aside0.mk Q_BK167
          have BK168 := Aside0.mk Q_BK168
          have BK176 := Aside0.mk Q_BK176
          have HB := Aside0.mk Q_HB
          refine box_step ?hg (N := 7) ?hd (cs := #[.float .f64 0, .float .f64 0]) (t := 26) ?hr ?_; (case hd => rfl); (case hg => rfl); (case hr => first | (go_simp; done) | (go_simp; rfl))
          intro gb184 hg w23 hbox hb
          have n0_ := Aside0.mk (blk_below (g := gb167) (o := .cells #[.float .f64 b_a0_0, .float .f64 b_a0_1] 24 (0, 0)) (by (with_reducible repeat (first | refine blk_drewN ?_ _ | refine blk_drew ?_ | refine blk_alloc ?_ _)); exact BK167.out) hb)
          have n1_ := Aside0.mk (blk_below (g := gb168) (o := .cells #[.float .f64 b_a1_0, .float .f64 b_a1_1] 24 (0, 0)) (by (with_reducible repeat (first | refine blk_drewN ?_ _ | refine blk_drew ?_ | refine blk_alloc ?_ _)); exact BK168.out) hb)
          have n2_ := Aside0.mk (blk_below (g := gb176) (o := .cells #[.float .f64 b_t173, .float .f64 b_t174] 26 (0, 0)) (by (with_reducible repeat (first | refine blk_drewN ?_ _ | refine blk_drew ?_ | refine blk_alloc ?_ _)); exact BK176.out) hb)
          have n3_ := Aside0.mk (below_step (by repeat (first | (with_reducible first | exact HB.out | apply below_alloc | apply pw_below_drewN | apply below_drew1 | refine below_set ?_ GE167.out | refine below_set ?_ GE168.out | refine below_set ?_ GE176.out) | exact HB.out)) hb)
          have n4_ := Aside0.mk (hbox)
          have n5_ := Aside0.mk ((by rw [hg]; exact (below_size (by repeat (first | (with_reducible first | exact HB.out | apply below_alloc | apply pw_below_drewN | apply below_drew1 | refine below_set ?_ GE167.out | refine below_set ?_ GE168.out | refine below_set ?_ GE176.out) | exact HB.out))) : w.heap.size ≤ gb184))
          have n6_ := Aside0.mk ((by rw [hg]; exact (below_size (by repeat (first | (with_reducible first | exact HB.out | apply below_alloc | apply pw_below_drewN | apply below_drew1 | refine below_set ?_ GE167.out | refine below_set ?_ GE168.out | refine below_set ?_ GE176.out) | exact HB.out))) : w.heap.size ≤ gb184))
          have n7_ := Aside0.mk ((by rw [hg]; exact Nat.ne_of_lt (blk_lt (g := gb167) (o := .cells #[.float .f64 b_a0_0, .float .f64 b_a0_1] 24 (0, 0)) (by (with_reducible repeat (first | refine blk_drewN ?_ _ | refine blk_drew ?_ | refine blk_alloc ?_ _)); exact BK167.out)) : gb167 ≠ gb184))
          have n8_ := Aside0.mk ((by rw [hg]; exact Nat.ne_of_gt (blk_lt (g := gb167) (o := .cells #[.float .f64 b_a0_0, .float .f64 b_a0_1] 24 (0, 0)) (by (with_reducible repeat (first | refine blk_drewN ?_ _ | refine blk_drew ?_ | refine blk_alloc ?_ _)); exact BK167.out)) : gb184 ≠ gb167))
          have n9_ := Aside0.mk ((by rw [hg]; exact Nat.ne_of_lt (blk_lt (g := gb168) (o := .cells #[.float .f64 b_a1_0, .float .f64 b_a1_1] 24 (0, 0)) (by (with_reducible repeat (first | refine blk_drewN ?_ _ | refine blk_drew ?_ | refine blk_alloc ?_ _)); exact BK168.out)) : gb168 ≠ gb184))
          have n10_ := Aside0.mk ((by rw [hg]; exact Nat.ne_of_gt (blk_lt (g := gb168) (o := .cells #[.float .f64 b_a1_0, .float .f64 b_a1_1] 24 (0, 0)) (by (with_reducible repeat (first | refine blk_drewN ?_ _ | refine blk_drew ?_ | refine blk_alloc ?_ _)); exact BK168.out)) : gb184 ≠ gb168))
          have n11_ := Aside0.mk ((by rw [hg]; exact Nat.ne_of_lt (blk_lt (g := gb176) (o := .cells #[.float .f64 b_t173, .float .f64 b_t174] 26 (0, 0)) (by (with_reducible repeat (first | refine blk_drewN ?_ _ | refine blk_drew ?_ | refine blk_alloc ?_ _)); exact BK176.out)) : gb176 ≠ gb184))
          have n12_ := Aside0.mk ((by rw [hg]; exact Nat.ne_of_gt (blk_lt (g := gb176) (o := .cells #[.float .f64 b_t173, .float .f64 b_t174] 26 (0, 0)) (by (with_reducible repeat (first | refine blk_drewN ?_ _ | refine blk_drew ?_ | refine blk_alloc ?_ _)); exact BK176.out)) : gb184 ≠ gb176))
          clear BK167
          clear BK168
          clear BK176
          clear HB
          have BK167 := n0_
          have BK168 := n1_
          have BK176 := n2_
          have HB := n3_
          have BK184 := n4_
          have GW184 := n5_
          have GE184 := n6_
          have NB167_184 := n7_
          have NB184_167 := n8_
          have NB168_184 := n9_
          have NB184_168 := n10_
          have NB176_184 := n11_
          have NB184_176 := n12_
          clear n0_ n1_ n2_ n3_ n4_ n5_ n6_ n7_ n8_ n9_ n10_ n11_ n12_
          clear hb hbox hg
          refine hK.out _ _ ⟨b_t177, b_t178, b_t179, b_t180, b_t181, b_t182, gb184, m1_, m3_, m4_, m5_, m6_, (.pointer (some ⟨gb184, 0, none⟩)), (by rw [ha.out]; exact putSel_upk 8 hb_ rfl rfl rfl), (by (with_reducible repeat (first | refine blk_drewN ?_ _ | refine blk_drew ?_ | refine blk_alloc ?_ _)); exact BK167.out), (by (with_reducible repeat (first | refine blk_drewN ?_ _ | refine blk_drew ?_ | refine blk_alloc ?_ _)); exact BK168.out), (by (with_reducible repeat (first | refine blk_drewN ?_ _ | refine blk_drew ?_ | refine blk_alloc ?_ _)); exact BK176.out), (by repeat (first | (with_reducible first | exact HB.out | apply below_alloc | apply pw_below_drewN | apply below_drew1 | refine below_set ?_ GE167.out | refine below_set ?_ GE168.out | refine below_set ?_ GE176.out | refine below_set ?_ GE184.out) | exact HB.out)), Q_HF_t177, Q_HF_t178, Q_HF_t179, Q_HF_t180, Q_HF_t181, Q_HF_t182, fun _ _ => (by (with_reducible repeat (first | refine blk_drewN ?_ _ | refine blk_drew ?_ | refine blk_alloc ?_ _)); exact BK184.out), fun _ => GW184.out, fun _ => GE184.out, fun _ => NB167_184.out, fun _ => NB184_167.out, fun _ => NB168_184.out, fun _ => NB184_168.out, fun _ => NB176_184.out, fun _ => NB184_176.out, fun h0_ => absurd ((hoff 9 (by kernel_rfl)).symm.trans h0_) (by decide), Q_X1_, Q_X3_, Q_X4_, Q_X5_, Q_X6_, fun _ => rfl⟩
        refine steps_cons ?_ ?_
        · rintro b a w' ⟨b_t177, b_t178, b_t179, b_t180, b_t181, b_t182, gb184, m1_, m3_, m4_, m5_, m6_, m8_, ha, Q_BK167, Q_BK168, Q_BK176, Q_HB, Q_HF_t177, Q_HF_t178, Q_HF_t179, Q_HF_t180, Q_HF_t181, Q_HF_t182, Q_BK184, Q_GW184, Q_GE184, Q_NB167_184, Q_NB184_167, Q_NB168_184, Q_NB184_168, Q_NB176_184, Q_NB184_176, Q_BK184_e9, Q_X1_, Q_X3_, Q_X4_, Q_X5_, Q_X6_, Q_X8_⟩ hb_ hon hoff
          refine ⟨_, rfl, fun K hK => ?_⟩
          have e7 : a.tmps[7]? = some (m8_) := by rw [ha]; exact putSel_on (e := (8, 7, m8_)) 8 rfl rfl (hon 8 (by kernel_rfl)) rfl
          rw [Q_X8_ (hon 8 (by kernel_rfl))] at e7
          have e23 : a.tmps[23]? = some (m6_) := by rw [ha]; exact putSel_on (e := (6, 23, m6_)) 6 rfl rfl (hon 6 (by kernel_rfl)) rfl
          rw [Q_X6_ (hon 6 (by kernel_rfl))] at e23
          replace ha := Aside0.mk ha
          have BK167 := Aside0.mk Q_BK167
          have BK168 := Aside0.mk Q_BK168
          have BK176 := Aside0.mk Q_BK176
          have HB := Aside0.mk Q_HB
          have HF_t177 := Aside0.mk (Q_HF_t177 (hon 1 (by kernel_rfl)))
          have HF_t178 := Aside0.mk (Q_HF_t178 (hon 1 (by kernel_rfl)))
          have HF_t179 := Aside0.mk (Q_HF_t179 (hon 3 (by kernel_rfl)))
          have HF_t180 := Aside0.mk (Q_HF_t180 (hon 3 (by kernel_rfl)))
          have HF_t181 := Aside0.mk (Q_HF_t181 (hon 4 (by kernel_rfl)))
          have HF_t182 := Aside0.mk (Q_HF_t182 (hon 4 (by kernel_rfl)))
          have BK184 := Aside0.mk (Q_BK184 (hon 8 (by kernel_rfl)) hb_)
          have GW184 := Aside0.mk (Q_GW184 (hon 8 (by kernel_rfl)))
          have GE184 := Aside0.mk (Q_GE184 (hon 8 (by kernel_rfl)))
          have NB167_184 := Aside0.mk (Q_NB167_184 (hon 8 (by kernel_rfl)))
          have NB184_167 := Aside0.mk (Q_NB184_167 (hon 8 (by kernel_rfl)))
          have NB168_184 := Aside0.mk (Q_NB168_184 (hon 8 (by kernel_rfl)))
          have NB184_168 := Aside0.mk (Q_NB184_168 (hon 8 (by kernel_rfl)))
          have NB176_184 := Aside0.mk (Q_NB176_184 (hon 8 (by kernel_rfl)))
          have NB184_176 := Aside0.mk (Q_NB184_176 (hon 8 (by kernel_rfl)))
          have hF_t177 := HF_t177.out
          have hF_t178 := HF_t178.out
          have hF_t179 := HF_t179.out
          have hF_t180 := HF_t180.out
          have hF_t181 := HF_t181.out
          have hF_t182 := HF_t182.out
          have hs28 : w'.cell? ⟨gb184, 0, none⟩ = some (.float .f64 0) := (blk_cell BK184.out 0).trans rfl
          have hfs28 := blk_frozen BK184.out 0
          have hns28_0 := NB167_184.out
          have hns28_1 := NB168_184.out
          have hns28_2 := NB176_184.out
          have hms28_0 := NB184_167.out
          have hms28_1 := NB184_168.out
          have hms28_2 := NB184_176.out
          have hs29 : w'.cell? ⟨gb184, 1, none⟩ = some (.float .f64 0) := (blk_cell BK184.out 1).trans rfl
          have hfs29 := blk_frozen BK184.out 1
          have hns29_0 := NB167_184.out
          have hns29_1 := NB168_184.out
          have hns29_2 := NB176_184.out
          have hms29_0 := NB184_167.out
          have hms29_1 := NB184_168.out
          have hms29_2 := NB184_176.out
          refine skip_ (w1 := ?_) (by rfl) rfl ?_ ?_
          rotate_left
          · go_simp
            rfl
          refine hK.out _ _ ⟨b_t177, b_t178, b_t179, b_t180, b_t181, b_t182, gb184, m1_, m3_, m4_, m5_, m6_, m8_, (by rw [ha.out]; exact putSel_none (v := undef) rfl), (by (with_reducible repeat (first | refine blk_drewN ?_ _ | refine blk_drew ?_ | refine blk_alloc ?_ _)); refine blk_far ?_ NB167_184.out _; (with_reducible repeat (first | refine blk_drewN ?_ _ | refine blk_drew ?_ | refine blk_alloc ?_ _)); refine blk_far ?_ NB167_184.out _; (with_reducible repeat (first | refine blk_drewN ?_ _ | refine blk_drew ?_ | refine blk_alloc ?_ _)); exact BK167.out), (by (with_reducible repeat (first | refine blk_drewN ?_ _ | refine blk_drew ?_ | refine blk_alloc ?_ _)); refine blk_far ?_ NB168_184.out _; (with_reducible repeat (first | refine blk_drewN ?_ _ | refine blk_drew ?_ | refine blk_alloc ?_ _)); refine blk_far ?_ NB168_184.out _; (with_reducible repeat (first | refine blk_drewN ?_ _ | refine blk_drew ?_ | refine blk_alloc ?_ _)); exact BK168.out), (by (with_reducible repeat (first | refine blk_drewN ?_ _ | refine blk_drew ?_ | refine blk_alloc ?_ _)); refine blk_far ?_ NB176_184.out _; (with_reducible repeat (first | refine blk_drewN ?_ _ | refine blk_drew ?_ | refine blk_alloc ?_ _)); refine blk_far ?_ NB176_184.out _; (with_reducible repeat (first | refine blk_drewN ?_ _ | refine blk_drew ?_ | refine blk_alloc ?_ _)); exact BK176.out), (by repeat (first | (with_reducible first | exact HB.out | apply below_alloc | apply pw_below_drewN | apply below_drew1 | refine below_set ?_ GE167.out | refine below_set ?_ GE168.out | refine below_set ?_ GE176.out | refine below_set ?_ GE184.out) | exact HB.out)), fun _ => hF_t177, fun _ => hF_t178, fun _ => hF_t179, fun _ => hF_t180, fun _ => hF_t181, fun _ => hF_t182, fun _ h1_ => absurd ((up_self b 9).symm.trans h1_) (by decide), fun _ => GW184.out, fun _ => GE184.out, fun _ => NB167_184.out, fun _ => NB184_167.out, fun _ => NB168_184.out, fun _ => NB184_168.out, fun _ => NB176_184.out, fun _ => NB184_176.out, fun _ => (by (with_reducible repeat (first | refine blk_drewN ?_ _ | refine blk_drew ?_ | refine blk_alloc ?_ _)); refine blk_put (cs := #[.float .f64 b_t181, .float .f64 0]) ?_ 1 _ rfl; (with_reducible repeat (first | refine blk_drewN ?_ _ | refine blk_drew ?_ | refine blk_alloc ?_ _)); refine blk_put (cs := #[.float .f64 0, .float .f64 0]) ?_ 0 _ rfl; (with_reducible repeat (first | refine blk_drewN ?_ _ | refine blk_drew ?_ | refine blk_alloc ?_ _)); exact BK184.out), Q_X1_, Q_X3_, Q_X4_, Q_X5_, Q_X6_, Q_X8_⟩
        refine steps_cons ?_ ?_
        · rintro b a w' ⟨b_t177, b_t178, b_t179, b_t180, b_t181, b_t182, gb184, m1_, m3_, m4_, m5_, m6_, m8_, ha, Q_BK167, Q_BK168, Q_BK176, Q_HB, Q_HF_t177, Q_HF_t178, Q_HF_t179, Q_HF_t180, Q_HF_t181, Q_HF_t182, Q_BK184, Q_GW184, Q_GE184, Q_NB167_184, Q_NB184_167, Q_NB168_184, Q_NB184_168, Q_NB176_184, Q_NB184_176, Q_BK184_e9, Q_X1_, Q_X3_, Q_X4_, Q_X5_, Q_X6_, Q_X8_⟩ hb_ hon hoff
          refine ⟨_, rfl, fun K hK => ?_⟩
          have e24 : a.tmps[24]? = some (.bool t183) := by rw [ha]; exact putSel_on (e := (7, 24, .bool t183)) 7 rfl rfl (hon 7 (by kernel_rfl)) rfl
          replace ha := Aside0.mk ha
          have BK167 := Aside0.mk Q_BK167
          have BK168 := Aside0.mk Q_BK168
          have BK176 := Aside0.mk Q_BK176
          have HB := Aside0.mk Q_HB
          have HF_t177 := Aside0.mk (Q_HF_t177 (hon 1 (by kernel_rfl)))
          have HF_t178 := Aside0.mk (Q_HF_t178 (hon 1 (by kernel_rfl)))
          have HF_t179 := Aside0.mk (Q_HF_t179 (hon 3 (by kernel_rfl)))
          have HF_t180 := Aside0.mk (Q_HF_t180 (hon 3 (by kernel_rfl)))
          have HF_t181 := Aside0.mk (Q_HF_t181 (hon 4 (by kernel_rfl)))
          have HF_t182 := Aside0.mk (Q_HF_t182 (hon 4 (by kernel_rfl)))
          have GW184 := Aside0.mk (Q_GW184 (hon 8 (by kernel_rfl)))
          have GE184 := Aside0.mk (Q_GE184 (hon 8 (by kernel_rfl)))
          have NB167_184 := Aside0.mk (Q_NB167_184 (hon 8 (by kernel_rfl)))
          have NB184_167 := Aside0.mk (Q_NB184_167 (hon 8 (by kernel_rfl)))
          have NB168_184 := Aside0.mk (Q_NB168_184 (hon 8 (by kernel_rfl)))
          have NB184_168 := Aside0.mk (Q_NB184_168 (hon 8 (by kernel_rfl)))
          have NB176_184 := Aside0.mk (Q_NB176_184 (hon 8 (by kernel_rfl)))
          have NB184_176 := Aside0.mk (Q_NB184_176 (hon 8 (by kernel_rfl)))
          have BK184 := Aside0.mk (Q_BK184_e9 (hon 9 (by kernel_rfl)))
          refine value_ (w1 := w') (v := .bool t183) (by rfl) rfl ?_ ?_
          · go_simp
            (try simp only [i64_w])
            try rfl
          refine hK.out _ _ ⟨b_t177, b_t178, b_t179, b_t180, b_t181, b_t182, gb184, m1_, m3_, m4_, m5_, m6_, m8_, (by rw [ha.out]; exact putSel_upk 9 hb_ rfl rfl rfl), Q_BK167, Q_BK168, Q_BK176, Q_HB, Q_HF_t177, Q_HF_t178, Q_HF_t179, Q_HF_t180, Q_HF_t181, Q_HF_t182, fun _ h1_ => absurd ((hon 9 (by kernel_rfl)).symm.trans h1_) (by decide), Q_GW184, Q_GE184, Q_NB167_184, Q_NB184_167, Q_NB168_184, Q_NB184_168, Q_NB176_184, Q_NB184_176, Q_BK184_e9, Q_X1_, Q_X3_, Q_X4_, Q_X5_, Q_X6_, Q_X8_⟩
        exact steps_nil
      rintro b a w29 hall ⟨b_t177, b_t178, b_t179, b_t180, b_t181, b_t182, gb184, m1_, m3_, m4_, m5_, m6_, m8_, ha, Q_BK167, Q_BK168, Q_BK176, Q_HB, Q_HF_t177, Q_HF_t178, Q_HF_t179, Q_HF_t180, Q_HF_t181, Q_HF_t182, Q_BK184, Q_GW184, Q_GE184, Q_NB167_184, Q_NB184_167, Q_NB168_184, Q_NB184_168, Q_NB176_184, Q_NB184_176, Q_BK184_e9, Q_X1_, Q_X3_, Q_X4_, Q_X5_, Q_X6_, Q_X8_⟩
      clear BK167 BK168 BK176 HB
      have hb0_ := hall 0 (by kernel_rfl)
      have hb1_ := hall 1 (by kernel_rfl)
      have hb2_ := hall 2 (by kernel_rfl)
      have hb3_ := hall 3 (by kernel_rfl)
      have hb4_ := hall 4 (by kernel_rfl)
      have hb5_ := hall 5 (by kernel_rfl)
      have hb6_ := hall 6 (by kernel_rfl)
      have hb7_ := hall 7 (by kernel_rfl)
      have hb8_ := hall 8 (by kernel_rfl)
      have hb9_ := hall 9 (by kernel_rfl)
      have hb10_ := hall 10 (by kernel_rfl)
      subst ha
      obtain rfl := Q_X1_ hb1_
      obtain rfl := Q_X3_ hb3_
      obtain rfl := Q_X4_ hb4_
      obtain rfl := Q_X5_ hb5_
      obtain rfl := Q_X6_ hb6_
      obtain rfl := Q_X8_ hb8_
      simp only [putSel, hb0_, hb1_, hb2_, hb3_, hb4_, hb5_, hb6_, hb7_, hb8_, hb9_, hb10_, if_true, Act.put, List.setIfInBounds_toArray, List.set_cons_zero, List.set_cons_succ]
      have BK167 := Aside0.mk Q_BK167
      clear Q_BK167
      have BK168 := Aside0.mk Q_BK168
      clear Q_BK168
      have BK176 := Aside0.mk Q_BK176
      clear Q_BK176
      have HB := Aside0.mk Q_HB
      clear Q_HB
      have HF_t177 := Aside0.mk (Q_HF_t177 hb1_)
      clear Q_HF_t177
      have HF_t178 := Aside0.mk (Q_HF_t178 hb1_)
      clear Q_HF_t178
      have HF_t179 := Aside0.mk (Q_HF_t179 hb3_)
      clear Q_HF_t179
      have HF_t180 := Aside0.mk (Q_HF_t180 hb3_)
      clear Q_HF_t180
      have HF_t181 := Aside0.mk (Q_HF_t181 hb4_)
      clear Q_HF_t181
      have HF_t182 := Aside0.mk (Q_HF_t182 hb4_)
      clear Q_HF_t182
      clear Q_BK184
      have GW184 := Aside0.mk (Q_GW184 hb8_)
      clear Q_GW184
      have GE184 := Aside0.mk (Q_GE184 hb8_)
      clear Q_GE184
      have NB167_184 := Aside0.mk (Q_NB167_184 hb8_)
      clear Q_NB167_184
      have NB184_167 := Aside0.mk (Q_NB184_167 hb8_)
      clear Q_NB184_167
      have NB168_184 := Aside0.mk (Q_NB168_184 hb8_)
      clear Q_NB168_184
      have NB184_168 := Aside0.mk (Q_NB184_168 hb8_)
      clear Q_NB184_168
      have NB176_184 := Aside0.mk (Q_NB176_184 hb8_)
      clear Q_NB176_184
      have NB184_176 := Aside0.mk (Q_NB184_176 hb8_)
      clear Q_NB184_176
      have BK184 := Aside0.mk (Q_BK184_e9 hb9_)
      clear Q_BK184_e9
      clear hall hb0_ hb1_ hb2_ hb3_ hb4_ hb5_ hb6_ hb7_ hb8_ hb9_ hb10_
      have hF_t177 := HF_t177.out
      have hF_t178 := HF_t178.out
      have hF_t179 := HF_t179.out
      have hF_t180 := HF_t180.out
      have hF_t181 := HF_t181.out
      have hF_t182 := HF_t182.out
      have hnb30 := NB184_167.out
      have hnc30 := NB167_184.out
      have hnb31 := NB184_168.out
      have hnc31 := NB168_184.out
      have hnb32 := NB184_176.out
      have hnc32 := NB176_184.out
      have hcz33_0 : w29.cell? ⟨gb184, 0, none⟩ = some (.float .f64 b_t181) := (blk_cell BK184.out 0).trans rfl
      have hcz33_1 : w29.cell? ⟨gb184, 1, none⟩ = some (.float .f64 b_t182) := (blk_cell BK184.out 1).trans rfl
      have hfz33_0 := blk_frozen BK184.out 0
      have hfz33_1 := blk_frozen BK184.out 1
      have hnb34 := NB176_167.out
      have hnc34 := NB167_176.out
      have hnb35 := NB176_168.out
      have hnc35 := NB168_176.out
      have hcz36_0 : w29.cell? ⟨gb176, 0, none⟩ = some (.float .f64 b_t173) := (blk_cell BK176.out 0).trans rfl
      have hcz36_1 : w29.cell? ⟨gb176, 1, none⟩ = some (.float .f64 b_t174) := (blk_cell BK176.out 1).trans rfl
      have hfz36_0 := blk_frozen BK176.out 0
      have hfz36_1 := blk_frozen BK176.out 1
      try go_wp2_with (first | ((with_reducible refine gate_callee (f := 23) rfl ?_); refine goesL_ (some 27) rfl rfl Try.func23 (by kernel_rfl) rfl #[.agg #[.float .f64 b_t181, .float .f64 b_t182], .agg #[.float .f64 b_t173, .float .f64 b_t174]] rfl (by (try simp only [List.map_toArray, List.map_cons, List.map_nil]); first | done | rfl | (simp only [List.length_drop, List.length_take]; rfl)) ?_; (with_reducible refine (laws_eqCx.calls k b_t181 t181 b_t182 t182 b_t173 t173 b_t174 t174 true _ ?side1 ?side2 ?side3 ?side4 A9.out).mono ?_); (case side1 => exact hF_t181); (case side2 => exact hF_t182); (case side3 => exact hF_t173); (case side4 => exact hF_t174); rintro e w37 ⟨rfl, hb⟩; refine ⟨_, rfl, ?_⟩; have n0_ := Aside0.mk (blk_below (g := gb167) (o := .cells #[.float .f64 b_a0_0, .float .f64 b_a0_1] 24 (0, 0)) (by (with_reducible repeat (first | refine blk_drewN ?_ _ | refine blk_drew ?_ | refine blk_alloc ?_ _)); exact BK167.out) hb); have n1_ := Aside0.mk (blk_below (g := gb168) (o := .cells #[.float .f64 b_a1_0, .float .f64 b_a1_1] 24 (0, 0)) (by (with_reducible repeat (first | refine blk_drewN ?_ _ | refine blk_drew ?_ | refine blk_alloc ?_ _)); exact BK168.out) hb); have n2_ := Aside0.mk (blk_below (g := gb176) (o := .cells #[.float .f64 b_t173, .float .f64 b_t174] 26 (0, 0)) (by (with_reducible repeat (first | refine blk_drewN ?_ _ | refine blk_drew ?_ | refine blk_alloc ?_ _)); exact BK176.out) hb); have n3_ := Aside0.mk (blk_below (g := gb184) (o := .cells #[.float .f64 b_t181, .float .f64 b_t182] 26 (0, 0)) (by (with_reducible repeat (first | refine blk_drewN ?_ _ | refine blk_drew ?_ | refine blk_alloc ?_ _)); exact BK184.out) hb); have n4_ := Aside0.mk (below_step (by repeat (first | (with_reducible first | exact HB.out | apply below_alloc | apply pw_below_drewN | apply below_drew1 | refine below_set ?_ GE167.out | refine below_set ?_ GE168.out | refine below_set ?_ GE176.out | refine below_set ?_ GE184.out) | exact HB.out)) hb); clear BK167; clear BK168; clear BK176; clear BK184; clear HB; have BK167 := n0_; have BK168 := n1_; have BK176 := n2_; have BK184 := n3_; have HB := n4_; clear n0_ n1_ n2_ n3_ n4_; (try clear hb); (try clear hb2); (try clear hk); (try clear hi)))
      go_ret
      exact ⟨by first | rfl | (simp [errW_none, errW_some] <;> rfl) | (simp [*, errW_none, errW_some] <;> rfl), by repeat (first | (with_reducible first | exact HB.out | apply below_alloc | apply pw_below_drewN | apply below_drew1 | refine below_set ?_ GE167.out | refine below_set ?_ GE168.out | refine below_set ?_ GE176.out | refine below_set ?_ GE184.out) | exact HB.out)⟩
    · rw [if_neg c11] at H
      have c11b0 : (t183 != t175) = false := by simpa using c11
      (try (have c11b1 : decide (t183 = t175) = true := by simpa using c11))
      (try (have c11b2 : (t183 == t175) = true := by simpa using c11))
      clear c11
      obtain rfl := Option.some.inj H
      go_enter Try.func13, Try.ntmps13
      try go_wp2_with (first | ((with_reducible refine gate_dst (N := 2) rfl ?_); refine box_event ?hg (N := 2) ?hd (cs := #[.float .f64 b_a0_0, .float .f64 b_a0_1]) (t := 24) ?hr ?_; (case hd => rfl); (case hg => rfl); (case hr => first | (go_simp; done) | (go_simp; rfl)); intro gb167 hg w38 hbox hb; have n0_ := Aside0.mk (below_step (by repeat (first | (with_reducible first | exact HB.out | apply below_alloc | apply pw_below_drewN | apply below_drew1) | exact HB.out)) hb); have n1_ := Aside0.mk (hbox); have n2_ := Aside0.mk ((by rw [hg]; exact (below_size (by repeat (first | (with_reducible first | exact HB.out | apply below_alloc | apply pw_below_drewN | apply below_drew1) | exact HB.out))) : w.heap.size ≤ gb167)); have n3_ := Aside0.mk ((by rw [hg]; exact (below_size (by repeat (first | (with_reducible first | exact HB.out | apply below_alloc | apply pw_below_drewN | apply below_drew1) | exact HB.out))) : w.heap.size ≤ gb167)); clear HB; have HB := n0_; have BK167 := n1_; have GW167 := n2_; have GE167 := n3_; clear n0_ n1_ n2_ n3_; clear hb hbox hg) | ((with_reducible refine gate_dst (N := 3) rfl ?_); refine box_event ?hg (N := 3) ?hd (cs := #[.float .f64 b_a1_0, .float .f64 b_a1_1]) (t := 24) ?hr ?_; (case hd => rfl); (case hg => rfl); (case hr => first | (go_simp; done) | (go_simp; rfl)); intro gb168 hg w39 hbox hb; have n0_ := Aside0.mk (blk_below (g := gb167) (o := .cells #[.float .f64 b_a0_0, .float .f64 b_a0_1] 24 (0, 0)) (by (with_reducible repeat (first | refine blk_drewN ?_ _ | refine blk_drew ?_ | refine blk_alloc ?_ _)); exact BK167.out) hb); have n1_ := Aside0.mk (below_step (by repeat (first | (with_reducible first | exact HB.out | apply below_alloc | apply pw_below_drewN | apply below_drew1 | refine below_set ?_ GE167.out) | exact HB.out)) hb); have n2_ := Aside0.mk (hbox); have n3_ := Aside0.mk ((by rw [hg]; exact (below_size (by repeat (first | (with_reducible first | exact HB.out | apply below_alloc | apply pw_below_drewN | apply below_drew1 | refine below_set ?_ GE167.out) | exact HB.out))) : w.heap.size ≤ gb168)); have n4_ := Aside0.mk ((by rw [hg]; exact (below_size (by repeat (first | (with_reducible first | exact HB.out | apply below_alloc | apply pw_below_drewN | apply below_drew1 | refine below_set ?_ GE167.out) | exact HB.out))) : w.heap.size ≤ gb168)); have n5_ := Aside0.mk ((by rw [hg]; exact Nat.ne_of_lt (blk_lt (g := gb167) (o := .cells #[.float .f64 b_a0_0, .float .f64 b_a0_1] 24 (0, 0)) (by (with_reducible repeat (first | refine blk_drewN ?_ _ | refine blk_drew ?_ | refine blk_alloc ?_ _)); exact BK167.out)) : gb167 ≠ gb168)); have n6_ := Aside0.mk ((by rw [hg]; exact Nat.ne_of_gt (blk_lt (g := gb167) (o := .cells #[.float .f64 b_a0_0, .float .f64 b_a0_1] 24 (0, 0)) (by (with_reducible repeat (first | refine blk_drewN ?_ _ | refine blk_drew ?_ | refine blk_alloc ?_ _)); exact BK167.out)) : gb168 ≠ gb167)); clear BK167; clear HB; have BK167 := n0_; have HB := n1_; have BK168 := n2_; have GW168 := n3_; have GE168 := n4_; have NB167_168 := n5_; have NB168_167 := n6_; clear n0_ n1_ n2_ n3_ n4_ n5_ n6_; clear hb hbox hg))
      have n0_ := Aside0.mk (blk_drew BK167.out)
      have n1_ := Aside0.mk (blk_drew BK168.out)
      have n2_ := Aside0.mk (below_drew1 HB.out)
      clear BK167
      clear BK168
      clear HB
      have BK167 := n0_
      have BK168 := n1_
      have HB := n2_
      clear n0_ n1_ n2_
      refine start_ (n := 11) (S := fun w' => True) (ds := []) #[false, false, false, false, false, false, false, false, false, false, false] (by kernel_rfl) rfl rfl trivial (fun hHeld => ?_); refine with_tabW laws_FnExactCxOver.tab1 laws_FnExactCxOver.bits1 (fun HT_ HW_ => ?_)
      generalize w39.drew = w40 at BK167 BK168 HB hHeld ⊢
      refine inv_at [0, 1, 2, 3, 4, 5, 6, 7, 8, 9, 10] (fun a0_ b a w' => ∃ (b_t169 : Nat) (b_t170 : Nat) (b_t171 : Nat) (b_t172 : Nat) (b_t173 : Nat) (b_t174 : Nat) (gb176 : Nat) (m1_ : Value) (m3_ : Value) (m4_ : Value) (m5_ : Value) (m6_ : Value) (m8_ : Value), a = putSel a0_ b [(0, 10, .agg #[.float .f64 b_a0_0, .float .f64 b_a0_1]), (1, 11, m1_), (2, 12, .agg #[.float .f64 b_a1_0, .float .f64 b_a1_1]), (3, 13, m3_), (4, 14, m4_), (5, 9, m5_), (6, 15, m6_), (7, 16, .bool t175), (8, 5, m8_), (10, 6, .bool t175)] ∧ (w'.heap[gb167]? = some (.cells #[.float .f64 b_a0_0, .float .f64 b_a0_1] 24 (0, 0))) ∧ (w'.heap[gb168]? = some (.cells #[.float .f64 b_a1_0, .float .f64 b_a1_1] 24 (0, 0))) ∧ (Below w.heap.size w w') ∧ (b 1 = true → cn .f64 b_t169 = t169) ∧ (b 1 = true → cn .f64 b_t170 = t170) ∧ (b 3 = true → cn .f64 b_t171 = t171) ∧ (b 3 = true → cn .f64 b_t172 = t172) ∧ (b 4 = true → cn .f64 b_t173 = t173) ∧ (b 4 = true → cn .f64 b_t174 = t174) ∧ (b 8 = true → b 9 = false → w'.heap[gb176]? = some (.cells #[.float .f64 0, .float .f64 0] 26 (0, 0))) ∧ (b 8 = true → w.heap.size ≤ gb176) ∧ (b 8 = true → w.heap.size ≤ gb176) ∧ (b 8 = true → gb167 ≠ gb176) ∧ (b 8 = true → gb176 ≠ gb167) ∧ (b 8 = true → gb168 ≠ gb176) ∧ (b 8 = true → gb176 ≠ gb168) ∧ (b 9 = true → w'.heap[gb176]? = some (.cells #[.float .f64 b_t173, .float .f64 b_t174] 26 (0, 0))) ∧ (b 1 = true → (m1_ : Value) = .agg #[.float .f64 b_t169, .float .f64 b_t170]) ∧ (b 3 = true → (m3_ : Value) = .agg #[.float .f64 b_t171, .float .f64 b_t172]) ∧ (b 4 = true → (m4_ : Value) = .tuple #[.agg #[.float .f64 b_t173, .float .f64 b_t174], .bool t175]) ∧ (b 5 = true → (m5_ : Value) = .tuple #[.agg #[.float .f64 b_t173, .float .f64 b_t174], .bool t175]) ∧ (b 6 = true → (m6_ : Value) = .agg #[.float .f64 b_t173, .float .f64 b_t174]) ∧ (b 8 = true → (m8_ : Value) = .pointer (some ⟨gb176, 0, none⟩))) HT_.out HW_.out (by kernel_rfl) (by kernel_rfl) ?_ ?_ ?_
      · exact ⟨0, 0, 0, 0, 0, 0, 0, .bool false, .bool false, .bool false, .bool false, .bool false, .bool false, by simp only [putSel, Bool.false_eq_true, if_false], BK167.out, BK168.out, HB.out, fun h_ => absurd h_ (by decide), fun h_ => absurd h_ (by decide), fun h_ => absurd h_ (by decide), fun h_ => absurd h_ (by decide), fun h_ => absurd h_ (by decide), fun h_ => absurd h_ (by decide), fun h_ => absurd h_ (by decide), fun h_ => absurd h_ (by decide), fun h_ => absurd h_ (by decide), fun h_ => absurd h_ (by decide), fun h_ => absurd h_ (by decide), fun h_ => absurd h_ (by decide), fun h_ => absurd h_ (by decide), fun h_ => absurd h_ (by decide), fun h_ => absurd h_ (by decide), fun h_ => absurd h_ (by decide), fun h_ => absurd h_ (by decide), fun h_ => absurd h_ (by decide), fun h_ => absurd h_ (by decide), fun h_ => absurd h_ (by decide)⟩
      · skip
        clear BK167 BK168 HB
        refine steps_cons ?_ ?_
        · rintro b a w' ⟨b_t169, b_t170, b_t171, b_t172, b_t173, b_t174, gb176, m1_, m3_, m4_, m5_, m6_, m8_, ha, Q_BK167, Q_BK168, Q_HB, Q_HF_t169, Q_HF_t170, Q_HF_t171, Q_HF_t172, Q_HF_t173, Q_HF_t174, Q_BK176, Q_GW176, Q_GE176, Q_NB167_176, Q_NB176_167, Q_NB168_176, Q_NB176_168, Q_BK176_e9, Q_X1_, Q_X3_, Q_X4_, Q_X5_, Q_X6_, Q_X8_⟩ hb_ hon hoff
          refine ⟨_, rfl, fun K hK => ?_⟩
          have e2 : a.tmps[2]? = some (.pointer (some ⟨gb167, 0, none⟩)) := by rw [ha]; exact (putSel_off rfl).trans rfl
          replace ha := Aside0.mk ha
          have BK167 := Aside0.mk Q_BK167
          have BK168 := Aside0.mk Q_BK168
          have HB := Aside0.mk Q_HB
          have hc0_ : w'.cell? ⟨gb167, 0, none⟩ = some (.float .f64 b_a0_0) := (blk_cell BK167.out 0).trans rfl
          have hc1_ : w'.cell? ⟨gb167, 1, none⟩ = some (.float .f64 b_a0_1) := (blk_cell BK167.out 1).trans rfl
          refine value_ (w1 := w') (v := .agg #[.float .f64 b_a0_0, .float .f64 b_a0_1]) (by rfl) rfl ?_ ?_
          · go_simp
            (try simp only [i64_w])
            try rfl
          refine hK.out _ _ ⟨b_t169, b_t170, b_t171, b_t172, b_t173, b_t174, gb176, m1_, m3_, m4_, m5_, m6_, m8_, (by rw [ha.out]; exact putSel_upk 0 hb_ rfl rfl rfl), Q_BK167, Q_BK168, Q_HB, fun h0_ => absurd ((hoff 1 (by kernel_rfl)).symm.trans h0_) (by decide), fun h0_ => absurd ((hoff 1 (by kernel_rfl)).symm.trans h0_) (by decide), fun h0_ => absurd ((hoff 3 (by kernel_rfl)).symm.trans h0_) (by decide), fun h0_ => absurd ((hoff 3 (by kernel_rfl)).symm.trans h0_) (by decide), fun h0_ => absurd ((hoff 4 (by kernel_rfl)).symm.trans h0_) (by decide), fun h0_ => absurd ((hoff 4 (by kernel_rfl)).symm.trans h0_) (by decide), Q_BK176, Q_GW176, Q_GE176, Q_NB167_176, Q_NB176_167, Q_NB168_176, Q_NB176_168, fun h0_ => absurd ((hoff 9 (by kernel_rfl)).symm.trans h0_) (by decide), fun h0_ => absurd ((hoff 1 (by kernel_rfl)).symm.trans h0_) (by decide), fun h0_ => absurd ((hoff 3 (by kernel_rfl)).symm.trans h0_) (by decide), fun h0_ => absurd ((hoff 4 (by kernel_rfl)).symm.trans h0_) (by decide), fun h0_ => absurd ((hoff 5 (by kernel_rfl)).symm.trans h0_) (by decide), fun h0_ => absurd ((hoff 6 (by kernel_rfl)).symm.trans h0_) (by decide), Q_X8_⟩
        refine steps_cons ?_ ?_
        · rintro b a w' ⟨b_t169, b_t170, b_t171, b_t172, b_t173, b_t174, gb176, m1_, m3_, m4_, m5_, m6_, m8_, ha, Q_BK167, Q_BK168, Q_HB, Q_HF_t169, Q_HF_t170, Q_HF_t171, Q_HF_t172, Q_HF_t173, Q_HF_t174, Q_BK176, Q_GW176, Q_GE176, Q_NB167_176, Q_NB176_167, Q_NB168_176, Q_NB176_168, Q_BK176_e9, Q_X1_, Q_X3_, Q_X4_, Q_X5_, Q_X6_, Q_X8_⟩ hb_ hon hoff
          refine ⟨_, rfl, fun K hK => ?_⟩
          have e10 : a.tmps[10]? = some (.agg #[.float .f64 b_a0_0, .float .f64 b_a0_1]) := by rw [ha]; exact putSel_on (e := (0, 10, .agg #[.float .f64 b_a0_0, .float .f64 b_a0_1])) 0 rfl rfl (hon 0 (by kernel_rfl)) rfl
          replace ha := Aside0.mk ha
          have BK167 := Aside0.mk Q_BK167
          have BK168 := Aside0.mk Q_BK168
          have HB := Aside0.mk Q_HB
          refine goes_ Try.func16 (by kernel_rfl) rfl #[.agg #[.float .f64 b_a0_0, .float .f64 b_a0_1]] (by rfl) rfl rfl (by first | (simp only [List.map_toArray, List.map_cons, List.map_nil, Act.eval, Array.getD_eq_getD_getElem?, Option.getD_some, e10]; done) | (simp only [List.map_toArray, List.map_cons, List.map_nil, Act.eval, Array.getD_eq_getD_getElem?, Option.getD_some, e10]; rfl)) ?_
          with_reducible refine (laws_toCx.calls b_a0_0 a0_0 b_a0_1 a0_1 t169 t170 _ ?side1 ?side2 A3.out).mono ?_
          (case side1 => exact hF_a0_0)
          (case side2 => exact hF_a0_1)
          rintro e w41 ⟨b_t169, b_t170, rfl, hF_t169, hF_t170, hb⟩
          refine ⟨_, rfl, ?_⟩
          have n0_ := Aside0.mk (blk_below (g := gb167) (o := .cells #[.float .f64 b_a0_0, .float .f64 b_a0_1] 24 (0, 0)) (by (with_reducible repeat (first | refine blk_drewN ?_ _ | refine blk_drew ?_ | refine blk_alloc ?_ _)); exact BK167.out) hb)
          have n1_ := Aside0.mk (blk_below (g := gb168) (o := .cells #[.float .f64 b_a1_0, .float .f64 b_a1_1] 24 (0, 0)) (by (with_reducible repeat (first | refine blk_drewN ?_ _ | refine blk_drew ?_ | refine blk_alloc ?_ _)); exact BK168.out) hb)
          have n2_ := Aside0.mk (below_step (by repeat (first | (with_reducible first | exact HB.out | apply below_alloc | apply pw_below_drewN | apply below_drew1 | refine below_set ?_ GE167.out | refine below_set ?_ GE168.out) | exact HB.out)) hb)
          have z_BK176 := fun (h0_ : b 8 = true) (h1_ : b 9 = false) => (show w41.heap[gb176]? = some (.cells #[.float .f64 0, .float .f64 0] 26 (0, 0)) from by first | exact (blk_below (g := gb176) (o := .cells #[.float .f64 0, .float .f64 0] 26 (0, 0)) (by (with_reducible repeat (first | refine blk_drewN ?_ _ | refine blk_drew ?_ | refine blk_alloc ?_ _)); exact (Q_BK176 h0_ h1_)) hb))
          clear BK167
          clear BK168
          clear HB
          have BK167 := n0_
          have BK168 := n1_
          have HB := n2_
          clear n0_ n1_ n2_
          (try clear hb)
          (try clear hb2)
          (try clear hk)
          (try clear hi)
          refine hK.out _ _ ⟨b_t169, b_t170, b_t171, b_t172, b_t173, b_t174, gb176, (.agg #[.float .f64 b_t169, .float .f64 b_t170]), m3_, m4_, m5_, m6_, m8_, (by rw [ha.out]; exact putSel_upk 1 hb_ rfl rfl rfl), (by (with_reducible repeat (first | refine blk_drewN ?_ _ | refine blk_drew ?_ | refine blk_alloc ?_ _)); exact BK167.out), (by (with_reducible repeat (first | refine blk_drewN ?_ _ | refine blk_drew ?_ | refine blk_alloc ?_ _)); exact BK168.out), (by repeat (first | (with_reducible first | exact HB.out | apply below_alloc | apply pw_below_drewN | apply below_drew1 | refine below_set ?_ GE167.out | refine below_set ?_ GE168.out) | exact HB.out)), fun _ => hF_t169, fun _ => hF_t170, fun h0_ => absurd ((hoff 3 (by kernel_rfl)).symm.trans h0_) (by decide), fun h0_ => absurd ((hoff 3 (by kernel_rfl)).symm.trans h0_) (by decide), fun h0_ => absurd ((hoff 4 (by kernel_rfl)).symm.trans h0_) (by decide), fun h0_ => absurd ((hoff 4 (by kernel_rfl)).symm.trans h0_) (by decide), z_BK176, Q_GW176, Q_GE176, Q_NB167_176, Q_NB176_167, Q_NB168_176, Q_NB176_168, fun h0_ => absurd ((hoff 9 (by kernel_rfl)).symm.trans h0_) (by decide), fun _ => rfl, fun h0_ => absurd ((hoff 3 (by kernel_rfl)).symm.trans h0_) (by decide), fun h0_ => absurd ((hoff 4 (by kernel_rfl)).symm.trans h0_) (by decide), fun h0_ => absurd ((hoff 5 (by kernel_rfl)).symm.trans h0_) (by decide), fun h0_ => absurd ((hoff 6 (by kernel_rfl)).symm.trans h0_) (by decide), Q_X8_⟩
        refine steps_cons ?_ ?_
        · rintro b a w' ⟨b_t169, b_t170, b_t171, b_t172, b_t173, b_t174, gb176, m1_, m3_, m4_, m5_, m6_, m8_, ha, Q_BK167, Q_BK168, Q_HB, Q_HF_t169, Q_HF_t170, Q_HF_t171, Q_HF_t172, Q_HF_t173, Q_HF_t174, Q_BK176, Q_GW176, Q_GE176, Q_NB167_176, Q_NB176_167, Q_NB168_176, Q_NB176_168, Q_BK176_e9, Q_X1_, Q_X3_, Q_X4_, Q_X5_, Q_X6_, Q_X8_⟩ hb_ hon hoff
          refine ⟨_, rfl, fun K hK => ?_⟩
          have e3 : a.tmps[3]? = some (.pointer (some ⟨gb168, 0, none⟩)) := by rw [ha]; exact (putSel_off rfl).trans rfl
          replace ha := Aside0.mk ha
          have BK167 := Aside0.mk Q_BK167
          have BK168 := Aside0.mk Q_BK168
          have HB := Aside0.mk Q_HB
          have hc0_ : w'.cell? ⟨gb168, 0, none⟩ = some (.float .f64 b_a1_0) := (blk_cell BK168.out 0).trans rfl
          have hc1_ : w'.cell? ⟨gb168, 1, none⟩ = some (.float .f64 b_a1_1) := (blk_cell BK168.out 1).trans rfl
          refine value_ (w1 := w') (v := .agg #[.float .f64 b_a1_0, .float .f64 b_a1_1]) (by rfl) rfl ?_ ?_
          · go_simp
            (try simp only [i64_w])
            try rfl
          refine hK.out _ _ ⟨b_t169, b_t170, b_t171, b_t172, b_t173, b_t174, gb176, m1_, m3_, m4_, m5_, m6_, m8_, (by rw [ha.out]; exact putSel_upk 2 hb_ rfl rfl rfl), Q_BK167, Q_BK168, Q_HB, Q_HF_t169, Q_HF_t170, fun h0_ => absurd ((hoff 3 (by kernel_rfl)).symm.trans h0_) (by decide), fun h0_ => absurd ((hoff 3 (by kernel_rfl)).symm.trans h0_) (by decide), fun h0_ => absurd ((hoff 4 (by kernel_rfl)).symm.trans h0_) (by decide), fun h0_ => absurd ((hoff 4 (by kernel_rfl)).symm.trans h0_) (by decide), Q_BK176, Q_GW176, Q_GE176, Q_NB167_176, Q_NB176_167, Q_NB168_176, Q_NB176_168, fun h0_ => absurd ((hoff 9 (by kernel_rfl)).symm.trans h0_) (by decide), Q_X1_, fun h0_ => absurd ((hoff 3 (by kernel_rfl)).symm.trans h0_) (by decide), fun h0_ => absurd ((hoff 4 (by kernel_rfl)).symm.trans h0_) (by decide), fun h0_ => absurd ((hoff 5 (by kernel_rfl)).symm.trans h0_) (by decide), fun h0_ => absurd ((hoff 6 (by kernel_rfl)).symm.trans h0_) (by decide), Q_X8_⟩
        refine steps_cons ?_ ?_
        · rintro b a w' ⟨b_t169, b_t170, b_t171, b_t172, b_t173, b_t174, gb176, m1_, m3_, m4_, m5_, m6_, m8_, ha, Q_BK167, Q_BK168, Q_HB, Q_HF_t169, Q_HF_t170, Q_HF_t171, Q_HF_t172, Q_HF_t173, Q_HF_t174, Q_BK176, Q_GW176, Q_GE176, Q_NB167_176, Q_NB176_167, Q_NB168_176, Q_NB176_168, Q_BK176_e9, Q_X1_, Q_X3_, Q_X4_, Q_X5_, Q_X6_, Q_X8_⟩ hb_ hon hoff
          refine ⟨_, rfl, fun K hK => ?_⟩
          have e12 : a.tmps[12]? = some (.agg #[.float .f64 b_a1_0, .float .f64 b_a1_1]) := by rw [ha]; exact putSel_on (e := (2, 12, .agg #[.float .f64 b_a1_0, .float .f64 b_a1_1])) 2 rfl rfl (hon 2 (by kernel_rfl)) rfl
          replace ha := Aside0.mk ha
          have BK167 := Aside0.mk Q_BK167
          have BK168 := Aside0.mk Q_BK168
          have HB := Aside0.mk Q_HB
          have HF_t169 := Aside0.mk (Q_HF_t169 (hon 1 (by kernel_rfl)))
          have HF_t170 := Aside0.mk (Q_HF_t170 (hon 1 (by kernel_rfl)))
          have hF_t169 := HF_t169.out
          have hF_t170 := HF_t170.out
          refine goes_ Try.func16 (by kernel_rfl) rfl #[.agg #[.float .f64 b_a1_0, .float .f64 b_a1_1]] (by rfl) rfl rfl (by first | (simp only [List.map_toArray, List.map_cons, List.map_nil, Act.eval, Array.getD_eq_getD_getElem?, Option.getD_some, e12]; done) | (simp only [List.map_toArray, List.map_cons, List.map_nil, Act.eval, Array.getD_eq_getD_getElem?, Option.getD_some, e12]; rfl)) ?_
          with_reducible refine (laws_toCx.calls b_a1_0 a1_0 b_a1_1 a1_1 t171 t172 _ ?side1 ?side2 A4.out).mono ?_
          (case side1 => exact hF_a1_0)
          (case side2 => exact hF_a1_1)
          rintro e w43 ⟨b_t171, b_t172, rfl, hF_t171, hF_t172, hb⟩
          refine ⟨_, rfl, ?_⟩
          have n0_ := Aside0.mk (blk_below (g := gb167) (o := .cells #[.float .f64 b_a0_0, .float .f64 b_a0_1] 24 (0, 0)) (by (with_reducible repeat (first | refine blk_drewN ?_ _ | refine blk_drew ?_ | refine blk_alloc ?_ _)); exact BK167.out) hb)
          have n1_ := Aside0.mk (blk_below (g := gb168) (o := .cells #[.float .f64 b_a1_0, .float .f64 b_a1_1] 24 (0, 0)) (by (with_reducible repeat (first | refine blk_drewN ?_ _ | refine blk_drew ?_ | refine blk_alloc ?_ _)); exact BK168.out) hb)
          have n2_ := Aside0.mk (below_step (by repeat (first | (with_reducible first | exact HB.out | apply below_alloc | apply pw_below_drewN | apply below_drew1 | refine below_set ?_ GE167.out | refine below_set ?_ GE168.out) | exact HB.out)) hb)
          have z_BK176 := fun (h0_ : b 8 = true) (h1_ : b 9 = false) => (show w43.heap[gb176]? = some (.cells #[.float .f64 0, .float .f64 0] 26 (0, 0)) from by first | exact (blk_below (g := gb176) (o := .cells #[.float .f64 0, .float .f64 0] 26 (0, 0)) (by (with_reducible repeat (first | refine blk_drewN ?_ _ | refine blk_drew ?_ | refine blk_alloc ?_ _)); exact (Q_BK176 h0_ h1_)) hb))
          clear BK167
          clear BK168
          clear HB
          have BK167 := n0_
          have BK168 := n1_
          have HB := n2_
          clear n0_ n1_ n2_
          (try clear hb)
          (try clear hb2)
          (try clear hk)
          (try clear hi)
          refine hK.out _ _ ⟨b_t169, b_t170, b_t171, b_t172, b_t173, b_t174, gb176, m1_, (.agg #[.float .f64 b_t171, .float .f64 b_t172]), m4_, m5_, m6_, m8_, (by rw [ha.out]; exact putSel_upk 3 hb_ rfl rfl rfl), (by (with_reducible repeat (first | refine blk_drewN ?_ _ | refine blk_drew ?_ | refine blk_alloc ?_ _)); exact BK167.out), (by (with_reducible repeat (first | refine blk_drewN ?_ _ | refine blk_drew ?_ | refine blk_alloc ?_ _)); exact BK168.out), (by repeat (first | (with_reducible first | exact HB.out | apply below_alloc | apply pw_below_drewN | apply below_drew1 | refine below_set ?_ GE167.out | refine below_set ?_ GE168.out) | exact HB.out)), fun _ => hF_t169, fun _ => hF_t170, fun _ => hF_t171, fun _ => hF_t172, fun h0_ => absurd ((hoff 4 (by kernel_rfl)).symm.trans h0_) (by decide), fun h0_ => absurd ((hoff 4 (by kernel_rfl)).symm.trans h0_) (by decide), z_BK176, Q_GW176, Q_GE176, Q_NB167_176, Q_NB176_167, Q_NB168_176, Q_NB176_168, fun h0_ => absurd ((hoff 9 (by kernel_rfl)).symm.trans h0_) (by decide), Q_X1_, fun _ => rfl, fun h0_ => absurd ((hoff 4 (by kernel_rfl)).symm.trans h0_) (by decide), fun h0_ => absurd ((hoff 5 (by kernel_rfl)).symm.trans h0_) (by decide), fun h0_ => absurd ((hoff 6 (by kernel_rfl)).symm.trans h0_) (by decide), Q_X8_⟩
        refine steps_cons ?_ ?_
        · rintro b a w' ⟨b_t169, b_t170, b_t171, b_t172, b_t173, b_t174, gb176, m1_, m3_, m4_, m5_, m6_, m8_, ha, Q_BK167, Q_BK168, Q_HB, Q_HF_t169, Q_HF_t170, Q_HF_t171, Q_HF_t172, Q_HF_t173, Q_HF_t174, Q_BK176, Q_GW176, Q_GE176, Q_NB167_176, Q_NB176_167, Q_NB168_176, Q_NB176_168, Q_BK176_e9, Q_X1_, Q_X3_, Q_X4_, Q_X5_, Q_X6_, Q_X8_⟩ hb_ hon hoff
          refine ⟨_, rfl, fun K hK => ?_⟩
          have e11 : a.tmps[11]? = some (m1_) := by rw [ha]; exact putSel_on (e := (1, 11, m1_)) 1 rfl rfl (hon 1 (by kernel_rfl)) rfl
          rw [Q_X1_ (hon 1 (by kernel_rfl))] at e11
          have e13 : a.tmps[13]? = some (m3_) := by rw [ha]; exact putSel_on (e := (3, 13, m3_)) 3 rfl rfl (hon 3 (by kernel_rfl)) rfl
          rw [Q_X3_ (hon 3 (by kernel_rfl))] at e13
          replace ha := Aside0.mk ha
          have BK167 := Aside0.mk Q_BK167
          have BK168 := Aside0.mk Q_BK168
          have HB := Aside0.mk Q_HB
          have HF_t169 := Aside0.mk (Q_HF_t169 (hon 1 (by kernel_rfl)))
          have HF_t170 := Aside0.mk (Q_HF_t170 (hon 1 (by kernel_rfl)))
          have HF_t171 := Aside0.mk (Q_HF_t171 (hon 3 (by kernel_rfl)))
          have HF_t172 := Aside0.mk (Q_HF_t172 (hon 3 (by kernel_rfl)))
          have hF_t169 := HF_t169.out
          have hF_t170 := HF_t170.out
          have hF_t171 := HF_t171.out
          have hF_t172 := HF_t172.out
          refine goes_ Try.func43 (by kernel_rfl) rfl #[.agg #[.float .f64 b_t169, .float .f64 b_t170], .agg #[.float .f64 b_t171, .float .f64 b_t172]] (by rfl) rfl rfl (by first | (simp only [List.map_toArray, List.map_cons, List.map_nil, Act.eval, Array.getD_eq_getD_getElem?, Option.getD_some, e11, e13]; done) | (simp only [List.map_toArray, List.map_cons, List.map_nil, Act.eval, Array.getD_eq_getD_getElem?, Option.getD_some, e11, e13]; rfl)) ?_
          with_reducible refine (spec_CxOver.calls k b_t169 t169 b_t170 t170 b_t171 t171 b_t172 t172 t173 t174 t175 _ ?side1 ?side2 ?side3 ?side4 A5.out).mono ?_
          (case side1 => exact hF_t169)
          (case side2 => exact hF_t170)
          (case side3 => exact hF_t171)
          (case side4 => exact hF_t172)
          rintro e w44 ⟨b_t173, b_t174, rfl, hF_t173, hF_t174, hb⟩
          refine ⟨_, rfl, ?_⟩
          have n0_ := Aside0.mk (blk_below (g := gb167) (o := .cells #[.float .f64 b_a0_0, .float .f64 b_a0_1] 24 (0, 0)) (by (with_reducible repeat (first | refine blk_drewN ?_ _ | refine blk_drew ?_ | refine blk_alloc ?_ _)); exact BK167.out) hb)
          have n1_ := Aside0.mk (blk_below (g := gb168) (o := .cells #[.float .f64 b_a1_0, .float .f64 b_a1_1] 24 (0, 0)) (by (with_reducible repeat (first | refine blk_drewN ?_ _ | refine blk_drew ?_ | refine blk_alloc ?_ _)); exact BK168.out) hb)
          have n2_ := Aside0.mk (below_step (by repeat (first | (with_reducible first | exact HB.out | apply below_alloc | apply pw_below_drewN | apply below_drew1 | refine below_set ?_ GE167.out | refine below_set ?_ GE168.out) | exact HB.out)) hb)
          have z_BK176 := fun (h0_ : b 8 = true) (h1_ : b 9 = false) => (show w44.heap[gb176]? = some (.cells #[.float .f64 0, .float .f64 0] 26 (0, 0)) from by first | exact (blk_below (g := gb176) (o := .cells #[.float .f64 0, .float .f64 0] 26 (0, 0)) (by (with_reducible repeat (first | refine blk_drewN ?_ _ | refine blk_drew ?_ | refine blk_alloc ?_ _)); exact (Q_BK176 h0_ h1_)) hb))
          clear BK167
          clear BK168
          clear HB
          have BK167 := n0_
          have BK168 := n1_
          have HB := n2_
          clear n0_ n1_ n2_
          (try clear hb)
          (try clear hb2)
          (try clear hk)
          (try clear hi)
          refine hK.out _ _ ⟨b_t169, b_t170, b_t171, b_t172, b_t173, b_t174, gb176, m1_, m3_, (.tuple #[.agg #[.float .f64 b_t173, .float .f64 b_t174], .bool t175]), m5_, m6_, m8_, (by rw [ha.out]; exact putSel_upk 4 hb_ rfl rfl rfl), (by (with_reducible repeat (first | refine blk_drewN ?_ _ | refine blk_drew ?_ | refine blk_alloc ?_ _)); exact BK167.out), (by (with_reducible repeat (first | refine blk_drewN ?_ _ | refine blk_drew ?_ | refine blk_alloc ?_ _)); exact BK168.out), (by repeat (first | (with_reducible first | exact HB.out | apply below_alloc | apply pw_below_drewN | apply below_drew1 | refine below_set ?_ GE167.out | refine below_set ?_ GE168.out) | exact HB.out)), fun _ => hF_t169, fun _ => hF_t170, fun _ => hF_t171, fun _ => hF_t172, fun _ => hF_t173, fun _ => hF_t174, z_BK176, Q_GW176, Q_GE176, Q_NB167_176, Q_NB176_167, Q_NB168_176, Q_NB176_168, fun h0_ => absurd ((hoff 9 (by kernel_rfl)).symm.trans h0_) (by decide), Q_X1_, Q_X3_, fun _ => rfl, fun h0_ => absurd ((hoff 5 (by kernel_rfl)).symm.trans h0_) (by decide), fun h0_ => absurd ((hoff 6 (by kernel_rfl)).symm.trans h0_) (by decide), Q_X8_⟩
        refine steps_cons ?_ ?_
        · rintro b a w' ⟨b_t169, b_t170, b_t171, b_t172, b_t173, b_t174, gb176, m1_, m3_, m4_, m5_, m6_, m8_, ha, Q_BK167, Q_BK168, Q_HB, Q_HF_t169, Q_HF_t170, Q_HF_t171, Q_HF_t172, Q_HF_t173, Q_HF_t174, Q_BK176, Q_GW176, Q_GE176, Q_NB167_176, Q_NB176_167, Q_NB168_176, Q_NB176_168, Q_BK176_e9, Q_X1_, Q_X3_, Q_X4_, Q_X5_, Q_X6_, Q_X8_⟩ hb_ hon hoff
          refine ⟨_, rfl, fun K hK => ?_⟩
          have e14 : a.tmps[14]? = some (m4_) := by rw [ha]; exact putSel_on (e := (4, 14, m4_)) 4 rfl rfl (hon 4 (by kernel_rfl)) rfl
          rw [Q_X4_ (hon 4 (by kernel_rfl))] at e14
          replace ha := Aside0.mk ha
          have BK167 := Aside0.mk Q_BK167
          have BK168 := Aside0.mk Q_BK168
          have HB := Aside0.mk Q_HB
          have HF_t169 := Aside0.mk (Q_HF_t169 (hon 1 (by kernel_rfl)))
          have HF_t170 := Aside0.mk (Q_HF_t170 (hon 1 (by kernel_rfl)))
          have HF_t171 := Aside0.mk (Q_HF_t171 (hon 3 (by kernel_rfl)))
          have HF_t172 := Aside0.mk (Q_HF_t172 (hon 3 (by kernel_rfl)))
          have HF_t173 := Aside0.mk (Q_HF_t173 (hon 4 (by kernel_rfl)))
          have HF_t174 := Aside0.mk (Q_HF_t174 (hon 4 (by kernel_rfl)))
          refine value_ (w1 := w') (v := .tuple #[.agg #[.float .f64 b_t173, .float .f64 b_t174], .bool t175]) (by rfl) rfl ?_ ?_
          · go_simp
            (try simp only [i64_w])
            try rfl
          refine hK.out _ _ ⟨b_t169, b_t170, b_t171, b_t172, b_t173, b_t174, gb176, m1_, m3_, m4_, (.tuple #[.agg #[.float .f64 b_t173, .float .f64 b_t174], .bool t175]), m6_, m8_, (by rw [ha.out]; exact putSel_upk 5 hb_ rfl rfl rfl), Q_BK167, Q_BK168, Q_HB, Q_HF_t169, Q_HF_t170, Q_HF_t171, Q_HF_t172, Q_HF_t173, Q_HF_t174, Q_BK176, Q_GW176, Q_GE176, Q_NB167_176, Q_NB176_167, Q_NB168_176, Q_NB176_168, fun h0_ => absurd ((hoff 9 (by kernel_rfl)).symm.trans h0_) (by decide), Q_X1_, Q_X3_, Q_X4_, fun _ => rfl, fun h0_ => absurd ((hoff 6 (by kernel_rfl)).symm.trans h0_) (by decide), Q_X8_⟩
        refine steps_cons ?_ ?_
        · rintro b a w' ⟨b_t169, b_t170, b_t171, b_t172, b_t173, b_t174, gb176, m1_, m3_, m4_, m5_, m6_, m8_, ha, Q_BK167, Q_BK168, Q_HB, Q_HF_t169, Q_HF_t170, Q_HF_t171, Q_HF_t172, Q_HF_t173, Q_HF_t174, Q_BK176, Q_GW176, Q_GE176, Q_NB167_176, Q_NB176_167, Q_NB168_176, Q_NB176_168, Q_BK176_e9, Q_X1_, Q_X3_, Q_X4_, Q_X5_, Q_X6_, Q_X8_⟩ hb_ hon hoff
          refine ⟨_, rfl, fun K hK => ?_⟩
          have e9 : a.tmps[9]? = some (m5_) := by rw [ha]; exact putSel_on (e := (5, 9, m5_)) 5 rfl rfl (hon 5 (by kernel_rfl)) rfl
          rw [Q_X5_ (hon 5 (by kernel_rfl))] at e9
          replace ha := Aside0.mk ha
          have BK167 := Aside0.mk Q_BK167
          have BK168 := Aside0.mk Q_BK168
          have HB := Aside0.mk Q_HB
          have HF_t169 := Aside0.mk (Q_HF_t169 (hon 1 (by kernel_rfl)))
          have HF_t170 := Aside0.mk (Q_HF_t170 (hon 1 (by kernel_rfl)))
          have HF_t171 := Aside0.mk (Q_HF_t171 (hon 3 (by kernel_rfl)))
          have HF_t172 := Aside0.mk (Q_HF_t172 (hon 3 (by kernel_rfl)))
          have HF_t173 := Aside0.mk (Q_HF_t173 (hon 4 (by kernel_rfl)))
          have HF_t174 := Aside0.mk (Q_HF_t174 (hon 4 (by kernel_rfl)))
          refine value_ (w1 := w') (v := .agg #[.float .f64 b_t173, .float .f64 b_t174]) (by rfl) rfl ?_ ?_
          · go_simp
            (try simp only [i64_w])
            try rfl
          refine hK.out _ _ ⟨b_t169, b_t170, b_t171, b_t172, b_t173, b_t174, gb176, m1_, m3_, m4_, m5_, (.agg #[.float .f64 b_t173, .float .f64 b_t174]), m8_, (by rw [ha.out]; exact putSel_upk 6 hb_ rfl rfl rfl), Q_BK167, Q_BK168, Q_HB, Q_HF_t169, Q_HF_t170, Q_HF_t171, Q_HF_t172, Q_HF_t173, Q_HF_t174, Q_BK176, Q_GW176, Q_GE176, Q_NB167_176, Q_NB176_167, Q_NB168_176, Q_NB176_168, fun h0_ => absurd ((hoff 9 (by kernel_rfl)).symm.trans h0_) (by decide), Q_X1_, Q_X3_, Q_X4_, Q_X5_, fun _ => rfl, Q_X8_⟩
        refine steps_cons ?_ ?_
        · rintro b a w' ⟨b_t169, b_t170, b_t171, b_t172, b_t173, b_t174, gb176, m1_, m3_, m4_, m5_, m6_, m8_, ha, Q_BK167, Q_BK168, Q_HB, Q_HF_t169, Q_HF_t170, Q_HF_t171, Q_HF_t172, Q_HF_t173, Q_HF_t174, Q_BK176, Q_GW176, Q_GE176, Q_NB167_176, Q_NB176_167, Q_NB168_176, Q_NB176_168, Q_BK176_e9, Q_X1_, Q_X3_, Q_X4_, Q_X5_, Q_X6_, Q_X8_⟩ hb_ hon hoff
          refine ⟨_, rfl, fun K hK => ?_⟩
          have e9 : a.tmps[9]? = some (m5_) := by rw [ha]; exact putSel_on (e := (5, 9, m5_)) 5 rfl rfl (hon 5 (by kernel_rfl)) rfl
          rw [Q_X5_ (hon 5 (by kernel_rfl))] at e9
          replace ha := Aside0.mk ha
          have BK167 := Aside0.mk Q_BK167
          have BK168 := Aside0.mk Q_BK168
          have HB := Aside0.mk Q_HB
          have HF_t169 := Aside0.mk (Q_HF_t169 (hon 1 (by kernel_rfl)))
          have HF_t170 := Aside0.mk (Q_HF_t170 (hon 1 (by kernel_rfl)))
          have HF_t171 := Aside0.mk (Q_HF_t171 (hon 3 (by kernel_rfl)))
          have HF_t172 := Aside0.mk (Q_HF_t172 (hon 3 (by kernel_rfl)))
          have HF_t173 := Aside0.mk (Q_HF_t173 (hon 4 (by kernel_rfl)))
          have HF_t174 := Aside0.mk (Q_HF_t174 (hon 4 (by kernel_rfl)))
          refine value_ (w1 := w') (v := .bool t175) (by rfl) rfl ?_ ?_
          · go_simp
            (try simp only [i64_w])
            try rfl
          refine hK.out _ _ ⟨b_t169, b_t170, b_t171, b_t172, b_t173, b_t174, gb176, m1_, m3_, m4_, m5_, m6_, m8_, (by rw [ha.out]; exact putSel_upk 7 hb_ rfl rfl rfl), Q_BK167, Q_BK168, Q_HB, Q_HF_t169, Q_HF_t170, Q_HF_t171, Q_HF_t172, Q_HF_t173, Q_HF_t174, Q_BK176, Q_GW176, Q_GE176, Q_NB167_176, Q_NB176_167, Q_NB168_176, Q_NB176_168, Q_BK176_e9, Q_X1_, Q_X3_, Q_X4_, Q_X5_, Q_X6_, Q_X8_⟩
        refine steps_cons ?_ ?_
        · rintro b a w' ⟨b_t169, b_t170, b_t171, b_t172, b_t173, b_t174, gb176, m1_, m3_, m4_, m5_, m6_, m8_, ha, Q_BK167, Q_BK168, Q_HB, Q_HF_t169, Q_HF_t170, Q_HF_t171, Q_HF_t172, Q_HF_t173, Q_HF_t174, Q_BK176, Q_GW176, Q_GE176, Q_NB167_176, Q_NB176_167, Q_NB168_176, Q_NB176_168, Q_BK176_e9, Q_X1_, Q_X3_, Q_X4_, Q_X5_, Q_X6_, Q_X8_⟩ hb_ hon hoff
          refine ⟨_, rfl, fun K hK => ?_⟩
          replace ha := Aside0.mk ha
          have BK167 := Aside0.mk Q_BK167
          have BK168 := Aside0.mk Q_BK168
          have HB := Aside0.mk Q_HB
          refine box_step ?hg (N := 5) ?hd (cs := #[.float .f64 0, .float .f64 0]) (t := 26) ?hr ?_; (case hd => rfl); (case hg => rfl); (case hr => first | (go_simp; done) | (go_simp; rfl))
          intro gb176 hg w41 hbox hb
          have n0_ := Aside0.mk (blk_below (g := gb167) (o := .cells #[.float .f64 b_a0_0, .float .f64 b_a0_1] 24 (0, 0)) (by (with_reducible repeat (first | refine blk_drewN ?_ _ | refine blk_drew ?_ | refine blk_alloc ?_ _)); exact BK167.out) hb)
          have n1_ := Aside0.mk (blk_below (g := gb168) (o := .cells #[.float .f64 b_a1_0, .float .f64 b_a1_1] 24 (0, 0)) (by (with_reducible repeat (first | refine blk_drewN ?_ _ | refine blk_drew ?_ | refine blk_alloc ?_ _)); exact BK168.out) hb)
          have n2_ := Aside0.mk (below_step (by repeat (first | (with_reducible first | exact HB.out | apply below_alloc | apply pw_below_drewN | apply below_drew1 | refine below_set ?_ GE167.out | refine below_set ?_ GE168.out) | exact HB.out)) hb)
          have n3_ := Aside0.mk (hbox)
          have n4_ := Aside0.mk ((by rw [hg]; exact (below_size (by repeat (first | (with_reducible first | exact HB.out | apply below_alloc | apply pw_below_drewN | apply below_drew1 | refine below_set ?_ GE167.out | refine below_set ?_ GE168.out) | exact HB.out))) : w.heap.size ≤ gb176))
          have n5_ := Aside0.mk ((by rw [hg]; exact (below_size (by repeat (first | (with_reducible first | exact HB.out | apply below_alloc | apply pw_below_drewN | apply below_drew1 | refine below_set ?_ GE167.out | refine below_set ?_ GE168.out) | exact HB.out))) : w.heap.size ≤ gb176))
          have n6_ := Aside0.mk ((by rw [hg]; exact Nat.ne_of_lt (blk_lt (g := gb167) (o := .cells #[.float .f64 b_a0_0, .float .f64 b_a0_1] 24 (0, 0)) (by (with_reducible repeat (first | refine blk_drewN ?_ _ | refine blk_drew ?_ | refine blk_alloc ?_ _)); exact BK167.out)) : gb167 ≠ gb176))
          have n7_ := Aside0.mk ((by rw [hg]; exact Nat.ne_of_gt (blk_lt (g := gb167) (o := .cells #[.float .f64 b_a0_0, .float .f64 b_a0_1] 24 (0, 0)) (by (with_reducible repeat (first | refine blk_drewN ?_ _ | refine blk_drew ?_ | refine blk_alloc ?_ _)); exact BK167.out)) : gb176 ≠ gb167))
          have n8_ := Aside0.mk ((by rw [hg]; exact Nat.ne_of_lt (blk_lt (g := gb168) (o := .cells #[.float .f64 b_a1_0, .float .f64 b_a1_1] 24 (0, 0)) (by (with_reducible repeat (first | refine blk_drewN ?_ _ | refine blk_drew ?_ | refine blk_alloc ?_ _)); exact BK168.out)) : gb168 ≠ gb176))
          have n9_ := Aside0.mk ((by rw [hg]; exact Nat.ne_of_gt (blk_lt (g := gb168) (o := .cells #[.float .f64 b_a1_0, .float .f64 b_a1_1] 24 (0, 0)) (by (with_reducible repeat (first | refine blk_drewN ?_ _ | refine blk_drew ?_ | refine blk_alloc ?_ _)); exact BK168.out)) : gb176 ≠ gb168))
          clear BK167
          clear BK168
          clear HB
          have BK167 := n0_
          have BK168 := n1_
          have HB := n2_
          have BK176 := n3_
          have GW176 := n4_
          have GE176 := n5_
          have NB167_176 := n6_
          have NB176_167 := n7_
          have NB168_176 := n8_
          have NB176_168 := n9_
          clear n0_ n1_ n2_ n3_ n4_ n5_ n6_ n7_ n8_ n9_
          clear hb hbox hg
          refine hK.out _ _ ⟨b_t169, b_t170, b_t171, b_t172, b_t173, b_t174, gb176, m1_, m3_, m4_, m5_, m6_, (.pointer (some ⟨gb176, 0, none⟩)), (by rw [ha.out]; exact putSel_upk 8 hb_ rfl rfl rfl), (by (with_reducible repeat (first | refine blk_drewN ?_ _ | refine blk_drew ?_ | refine blk_alloc ?_ _)); exact BK167.out), (by (with_reducible repeat (first | refine blk_drewN ?_ _ | refine blk_drew ?_ | refine blk_alloc ?_ _)); exact BK168.out), (by repeat (first | (with_reducible first | exact HB.out | apply below_alloc | apply pw_below_drewN | apply below_drew1 | refine below_set ?_ GE167.out | refine below_set ?_ GE168.out | refine below_set ?_ GE176.out) | exact HB.out)), Q_HF_t169, Q_HF_t170, Q_HF_t171, Q_HF_t172, Q_HF_t173, Q_HF_t174, fun _ _ => (by (with_reducible repeat (first | refine blk_drewN ?_ _ | refine blk_drew ?_ | refine blk_alloc ?_ _)); exact BK176.out), fun _ => GW176.out, fun _ => GE176.out, fun _ => NB167_176.out, fun _ => NB176_167.out, fun _ => NB168_176.out, fun _ => NB176_168.out, fun h0_ => absurd ((hoff 9 (by kernel_rfl)).symm.trans h0_) (by decide), Q_X1_, Q_X3_, Q_X4_, Q_X5_, Q_X6_, fun _ => rfl⟩
        refine steps_cons ?_ ?_
        · rintro b a w' ⟨b_t169, b_t170, b_t171, b_t172, b_t173, b_t174, gb176, m1_, m3_, m4_, m5_, m6_, m8_, ha, Q_BK167, Q_BK168, Q_HB, Q_HF_t169, Q_HF_t170, Q_HF_t171, Q_HF_t172, Q_HF_t173, Q_HF_t174, Q_BK176, Q_GW176, Q_GE176, Q_NB167_176, Q_NB176_167, Q_NB168_176, Q_NB176_168, Q_BK176_e9, Q_X1_, Q_X3_, Q_X4_, Q_X5_, Q_X6_, Q_X8_⟩ hb_ hon hoff
          refine ⟨_, rfl, fun K hK => ?_⟩
          have e5 : a.tmps[5]? = some (m8_) := by rw [ha]; exact putSel_on (e := (8, 5, m8_)) 8 rfl rfl (hon 8 (by kernel_rfl)) rfl
          rw [Q_X8_ (hon 8 (by kernel_rfl))] at e5
          have e15 : a.tmps[15]? = some (m6_) := by rw [ha]; exact putSel_on (e := (6, 15, m6_)) 6 rfl rfl (hon 6 (by kernel_rfl)) rfl
          rw [Q_X6_ (hon 6 (by kernel_rfl))] at e15
          replace ha := Aside0.mk ha
          have BK167 := Aside0.mk Q_BK167
          have BK168 := Aside0.mk Q_BK168
          have HB := Aside0.mk Q_HB
          have HF_t169 := Aside0.mk (Q_HF_t169 (hon 1 (by kernel_rfl)))
          have HF_t170 := Aside0.mk (Q_HF_t170 (hon 1 (by kernel_rfl)))
          have HF_t171 := Aside0.mk (Q_HF_t171 (hon 3 (by kernel_rfl)))
          have HF_t172 := Aside0.mk (Q_HF_t172 (hon 3 (by kernel_rfl)))
          have HF_t173 := Aside0.mk (Q_HF_t173 (hon 4 (by kernel_rfl)))
          have HF_t174 := Aside0.mk (Q_HF_t174 (hon 4 (by kernel_rfl)))
          have BK176 := Aside0.mk (Q_BK176 (hon 8 (by kernel_rfl)) hb_)
          have GW176 := Aside0.mk (Q_GW176 (hon 8 (by kernel_rfl)))
          have GE176 := Aside0.mk (Q_GE176 (hon 8 (by kernel_rfl)))
          have NB167_176 := Aside0.mk (Q_NB167_176 (hon 8 (by kernel_rfl)))
          have NB176_167 := Aside0.mk (Q_NB176_167 (hon 8 (by kernel_rfl)))
          have NB168_176 := Aside0.mk (Q_NB168_176 (hon 8 (by kernel_rfl)))
          have NB176_168 := Aside0.mk (Q_NB176_168 (hon 8 (by kernel_rfl)))
          have hF_t169 := HF_t169.out
          have hF_t170 := HF_t170.out
          have hF_t171 := HF_t171.out
          have hF_t172 := HF_t172.out
          have hF_t173 := HF_t173.out
          have hF_t174 := HF_t174.out
          have hs46 : w'.cell? ⟨gb176, 0, none⟩ = some (.float .f64 0) := (blk_cell BK176.out 0).trans rfl
          have hfs46 := blk_frozen BK176.out 0
          have hns46_0 := NB167_176.out
          have hns46_1 := NB168_176.out
          have hms46_0 := NB176_167.out
          have hms46_1 := NB176_168.out
          have hs47 : w'.cell? ⟨gb176, 1, none⟩ = some (.float .f64 0) := (blk_cell BK176.out 1).trans rfl
          have hfs47 := blk_frozen BK176.out 1
          have hns47_0 := NB167_176.out
          have hns47_1 := NB168_176.out
          have hms47_0 := NB176_167.out
          have hms47_1 := NB176_168.out
          refine skip_ (w1 := ?_) (by rfl) rfl ?_ ?_
          rotate_left
          · go_simp
            rfl
          refine hK.out _ _ ⟨b_t169, b_t170, b_t171, b_t172, b_t173, b_t174, gb176, m1_, m3_, m4_, m5_, m6_, m8_, (by rw [ha.out]; exact putSel_none (v := undef) rfl), (by (with_reducible repeat (first | refine blk_drewN ?_ _ | refine blk_drew ?_ | refine blk_alloc ?_ _)); refine blk_far ?_ NB167_176.out _; (with_reducible repeat (first | refine blk_drewN ?_ _ | refine blk_drew ?_ | refine blk_alloc ?_ _)); refine blk_far ?_ NB167_176.out _; (with_reducible repeat (first | refine blk_drewN ?_ _ | refine blk_drew ?_ | refine blk_alloc ?_ _)); exact BK167.out), (by (with_reducible repeat (first | refine blk_drewN ?_ _ | refine blk_drew ?_ | refine blk_alloc ?_ _)); refine blk_far ?_ NB168_176.out _; (with_reducible repeat (first | refine blk_drewN ?_ _ | refine blk_drew ?_ | refine blk_alloc ?_ _)); refine blk_far ?_ NB168_176.out _; (with_reducible repeat (first | refine blk_drewN ?_ _ | refine blk_drew ?_ | refine blk_alloc ?_ _)); exact BK168.out), (by repeat (first | (with_reducible first | exact HB.out | apply below_alloc | apply pw_below_drewN | apply below_drew1 | refine below_set ?_ GE167.out | refine below_set ?_ GE168.out | refine below_set ?_ GE176.out) | exact HB.out)), fun _ => hF_t169, fun _ => hF_t170, fun _ => hF_t171, fun _ => hF_t172, fun _ => hF_t173, fun _ => hF_t174, fun _ h1_ => absurd ((up_self b 9).symm.trans h1_) (by decide), fun _ => GW176.out, fun _ => GE176.out, fun _ => NB167_176.out, fun _ => NB176_167.out, fun _ => NB168_176.out, fun _ => NB176_168.out, fun _ => (by (with_reducible repeat (first | refine blk_drewN ?_ _ | refine blk_drew ?_ | refine blk_alloc ?_ _)); refine blk_put (cs := #[.float .f64 b_t173, .float .f64 0]) ?_ 1 _ rfl; (with_reducible repeat (first | refine blk_drewN ?_ _ | refine blk_drew ?_ | refine blk_alloc ?_ _)); refine blk_put (cs := #[.float .f64 0, .float .f64 0]) ?_ 0 _ rfl; (with_reducible repeat (first | refine blk_drewN ?_ _ | refine blk_drew ?_ | refine blk_alloc ?_ _)); exact BK176.out), Q_X1_, Q_X3_, Q_X4_, Q_X5_, Q_X6_, Q_X8_⟩
        refine steps_cons ?_ ?_
        · rintro b a w' ⟨b_t169, b_t170, b_t171, b_t172, b_t173, b_t174, gb176, m1_, m3_, m4_, m5_, m6_, m8_, ha, Q_BK167, Q_BK168, Q_HB, Q_HF_t169, Q_HF_t170, Q_HF_t171, Q_HF_t172, Q_HF_t173, Q_HF_t174, Q_BK176, Q_GW176, Q_GE176, Q_NB167_176, Q_NB176_167, Q_NB168_176, Q_NB176_168, Q_BK176_e9, Q_X1_, Q_X3_, Q_X4_, Q_X5_, Q_X6_, Q_X8_⟩ hb_ hon hoff
          refine ⟨_, rfl, fun K hK => ?_⟩
          have e16 : a.tmps[16]? = some (.bool t175) := by rw [ha]; exact putSel_on (e := (7, 16, .bool t175)) 7 rfl rfl (hon 7 (by kernel_rfl)) rfl
          replace ha := Aside0.mk ha
          have BK167 := Aside0.mk Q_BK167
          have BK168 := Aside0.mk Q_BK168
          have HB := Aside0.mk Q_HB
          have HF_t169 := Aside0.mk (Q_HF_t169 (hon 1 (by kernel_rfl)))
          have HF_t170 := Aside0.mk (Q_HF_t170 (hon 1 (by kernel_rfl)))
          have HF_t171 := Aside0.mk (Q_HF_t171 (hon 3 (by kernel_rfl)))
          have HF_t172 := Aside0.mk (Q_HF_t172 (hon 3 (by kernel_rfl)))
          have HF_t173 := Aside0.mk (Q_HF_t173 (hon 4 (by kernel_rfl)))
          have HF_t174 := Aside0.mk (Q_HF_t174 (hon 4 (by kernel_rfl)))
          have GW176 := Aside0.mk (Q_GW176 (hon 8 (by kernel_rfl)))
          have GE176 := Aside0.mk (Q_GE176 (hon 8 (by kernel_rfl)))
          have NB167_176 := Aside0.mk (Q_NB167_176 (hon 8 (by kernel_rfl)))
          have NB176_167 := Aside0.mk (Q_NB176_167 (hon 8 (by kernel_rfl)))
          have NB168_176 := Aside0.mk (Q_NB168_176 (hon 8 (by kernel_rfl)))
          have NB176_168 := Aside0.mk (Q_NB176_168 (hon 8 (by kernel_rfl)))
          have BK176 := Aside0.mk (Q_BK176_e9 (hon 9 (by kernel_rfl)))
          refine value_ (w1 := w') (v := .bool t175) (by rfl) rfl ?_ ?_
          · go_simp
            (try simp only [i64_w])
            try rfl
          refine hK.out _ _ ⟨b_t169, b_t170, b_t171, b_t172, b_t173, b_t174, gb176, m1_, m3_, m4_, m5_, m6_, m8_, (by rw [ha.out]; exact putSel_upk 9 hb_ rfl rfl rfl), Q_BK167, Q_BK168, Q_HB, Q_HF_t169, Q_HF_t170, Q_HF_t171, Q_HF_t172, Q_HF_t173, Q_HF_t174, fun _ h1_ => absurd ((hon 9 (by kernel_rfl)).symm.trans h1_) (by decide), Q_GW176, Q_GE176, Q_NB167_176, Q_NB176_167, Q_NB168_176, Q_NB176_168, Q_BK176_e9, Q_X1_, Q_X3_, Q_X4_, Q_X5_, Q_X6_, Q_X8_⟩
        exact steps_nil
      rintro b a w47 hall ⟨b_t169, b_t170, b_t171, b_t172, b_t173, b_t174, gb176, m1_, m3_, m4_, m5_, m6_, m8_, ha, Q_BK167, Q_BK168, Q_HB, Q_HF_t169, Q_HF_t170, Q_HF_t171, Q_HF_t172, Q_HF_t173, Q_HF_t174, Q_BK176, Q_GW176, Q_GE176, Q_NB167_176, Q_NB176_167, Q_NB168_176, Q_NB176_168, Q_BK176_e9, Q_X1_, Q_X3_, Q_X4_, Q_X5_, Q_X6_, Q_X8_⟩
      clear BK167 BK168 HB
      have hb0_ := hall 0 (by kernel_rfl)
      have hb1_ := hall 1 (by kernel_rfl)
      have hb2_ := hall 2 (by kernel_rfl)
      have hb3_ := hall 3 (by kernel_rfl)
      have hb4_ := hall 4 (by kernel_rfl)
      have hb5_ := hall 5 (by kernel_rfl)
      have hb6_ := hall 6 (by kernel_rfl)
      have hb7_ := hall 7 (by kernel_rfl)
      have hb8_ := hall 8 (by kernel_rfl)
      have hb9_ := hall 9 (by kernel_rfl)
      have hb10_ := hall 10 (by kernel_rfl)
      subst ha
      obtain rfl := Q_X1_ hb1_
      obtain rfl := Q_X3_ hb3_
      obtain rfl := Q_X4_ hb4_
      obtain rfl := Q_X5_ hb5_
      obtain rfl := Q_X6_ hb6_
      obtain rfl := Q_X8_ hb8_
      simp only [putSel, hb0_, hb1_, hb2_, hb3_, hb4_, hb5_, hb6_, hb7_, hb8_, hb9_, hb10_, if_true, Act.put, List.setIfInBounds_toArray, List.set_cons_zero, List.set_cons_succ]
      have BK167 := Aside0.mk Q_BK167
      clear Q_BK167
      have BK168 := Aside0.mk Q_BK168
      clear Q_BK168
      have HB := Aside0.mk Q_HB
      clear Q_HB
      have HF_t169 := Aside0.mk (Q_HF_t169 hb1_)
      clear Q_HF_t169
      have HF_t170 := Aside0.mk (Q_HF_t170 hb1_)
      clear Q_HF_t170
      have HF_t171 := Aside0.mk (Q_HF_t171 hb3_)
      clear Q_HF_t171
      have HF_t172 := Aside0.mk (Q_HF_t172 hb3_)
      clear Q_HF_t172
      have HF_t173 := Aside0.mk (Q_HF_t173 hb4_)
      clear Q_HF_t173
      have HF_t174 := Aside0.mk (Q_HF_t174 hb4_)
      clear Q_HF_t174
      clear Q_BK176
      have GW176 := Aside0.mk (Q_GW176 hb8_)
      clear Q_GW176
      have GE176 := Aside0.mk (Q_GE176 hb8_)
      clear Q_GE176
      have NB167_176 := Aside0.mk (Q_NB167_176 hb8_)
      clear Q_NB167_176
      have NB176_167 := Aside0.mk (Q_NB176_167 hb8_)
      clear Q_NB176_167
      have NB168_176 := Aside0.mk (Q_NB168_176 hb8_)
      clear Q_NB168_176
      have NB176_168 := Aside0.mk (Q_NB176_168 hb8_)
      clear Q_NB176_168
      have BK176 := Aside0.mk (Q_BK176_e9 hb9_)
      clear Q_BK176_e9
      clear hall hb0_ hb1_ hb2_ hb3_ hb4_ hb5_ hb6_ hb7_ hb8_ hb9_ hb10_
      have hF_t169 := HF_t169.out
      have hF_t170 := HF_t170.out
      have hF_t171 := HF_t171.out
      have hF_t172 := HF_t172.out
      have hF_t173 := HF_t173.out
      have hF_t174 := HF_t174.out
      try go_wp2
      have n0_ := Aside0.mk (blk_drew BK167.out)
      have n1_ := Aside0.mk (blk_drew BK168.out)
      have n2_ := Aside0.mk (blk_drew BK176.out)
      have n3_ := Aside0.mk (below_drew1 HB.out)
      clear BK167
      clear BK168
      clear BK176
      clear HB
      have BK167 := n0_
      have BK168 := n1_
      have BK176 := n2_
      have HB := n3_
      clear n0_ n1_ n2_ n3_
      refine start_ (n := 11) (S := fun w' => True) (ds := []) #[false, false, false, false, false, false, false, false, false, false, false] (by kernel_rfl) rfl rfl trivial (fun hHeld => ?_); refine with_tabW laws_FnExactCxOver.tab2 laws_FnExactCxOver.bits2 (fun HT_ HW_ => ?_)
      generalize w47.drew = w48 at BK167 BK168 BK176 HB hHeld ⊢
      refine inv_at [0, 1, 2, 3, 4, 5, 6, 7, 8, 9, 10] (fun a0_ b a w' => ∃ (b_t177 : Nat) (b_t178 : Nat) (b_t179 : Nat) (b_t180 : Nat) (b_t181 : Nat) (b_t182 : Nat) (gb184 : Nat) (m1_ : Value) (m3_ : Value) (m4_ : Value) (m5_ : Value) (m6_ : Value) (m8_ : Value), a = putSel a0_ b [(0, 18, .agg #[.float .f64 b_a0_0, .float .f64 b_a0_1]), (1, 19, m1_), (2, 20, .agg #[.float .f64 b_a1_0, .float .f64 b_a1_1]), (3, 21, m3_), (4, 22, m4_), (5, 17, m5_), (6, 23, m6_), (7, 24, .bool t183), (8, 7, m8_), (10, 8, .bool t183)] ∧ (w'.heap[gb167]? = some (.cells #[.float .f64 b_a0_0, .float .f64 b_a0_1] 24 (0, 0))) ∧ (w'.heap[gb168]? = some (.cells #[.float .f64 b_a1_0, .float .f64 b_a1_1] 24 (0, 0))) ∧ (w'.heap[gb176]? = some (.cells #[.float .f64 b_t173, .float .f64 b_t174] 26 (0, 0))) ∧ (Below w.heap.size w w') ∧ (b 1 = true → cn .f64 b_t177 = t177) ∧ (b 1 = true → cn .f64 b_t178 = t178) ∧ (b 3 = true → cn .f64 b_t179 = t179) ∧ (b 3 = true → cn .f64 b_t180 = t180) ∧ (b 4 = true → cn .f64 b_t181 = t181) ∧ (b 4 = true → cn .f64 b_t182 = t182) ∧ (b 8 = true → b 9 = false → w'.heap[gb184]? = some (.cells #[.float .f64 0, .float .f64 0] 26 (0, 0))) ∧ (b 8 = true → w.heap.size ≤ gb184) ∧ (b 8 = true → w.heap.size ≤ gb184) ∧ (b 8 = true → gb167 ≠ gb184) ∧ (b 8 = true → gb184 ≠ gb167) ∧ (b 8 = true → gb168 ≠ gb184) ∧ (b 8 = true → gb184 ≠ gb168) ∧ (b 8 = true → gb176 ≠ gb184) ∧ (b 8 = true → gb184 ≠ gb176) ∧ (b 9 = true → w'.heap[gb184]? = some (.cells #[.float .f64 b_t181, .float .f64 b_t182] 26 (0, 0))) ∧ (b 1 = true → (m1_ : Value) = .agg #[.float .f64 b_t177, .float .f64 b_t178]) ∧ (b 3 = true → (m3_ : Value) = .agg #[.float .f64 b_t179, .float .f64 b_t180]) ∧ (b 4 = true → (m4_ : Value) = .tuple #[.agg #[.float .f64 b_t181, .float .f64 b_t182], .bool t183]) ∧ (b 5 = true → (m5_ : Value) = .tuple #[.agg #[.float .f64 b_t181, .float .f64 b_t182], .bool t183]) ∧ (b 6 = true → (m6_ : Value) = .agg #[.float .f64 b_t181, .float .f64 b_t182]) ∧ (b 8 = true → (m8_ : Value) = .pointer (some ⟨gb184, 0, none⟩))) HT_.out HW_.out (by kernel_rfl) (by kernel_rfl) ?_ ?_ ?_
      · exact ⟨0, 0, 0, 0, 0, 0, 0, .bool false, .bool false, .bool false, .bool false, .bool false, .bool false, by simp only [putSel, Bool.false_eq_true, if_false], BK167.out, BK168.out, BK176.out, HB.out, fun h_ => absurd h_ (by decide), fun h_ => absurd h_ (by decide), fun h_ => absurd h_ (by decide), fun h_ => absurd h_ (by decide), fun h_ => absurd h_ (by decide), fun h_ => absurd h_ (by decide), fun h_ => absurd h_ (by decide), fun h_ => absurd h_ (by decide), fun h_ => absurd h_ (by decide), fun h_ => absurd h_ (by decide), fun h_ => absurd h_ (by decide), fun h_ => absurd h_ (by decide), fun h_ => absurd h_ (by decide), fun h_ => absurd h_ (by decide), fun h_ => absurd h_ (by decide), fun h_ => absurd h_ (by decide), fun h_ => absurd h_ (by decide), fun h_ => absurd h_ (by decide), fun h_ => absurd h_ (by decide), fun h_ => absurd h_ (by decide), fun h_ => absurd h_ (by decide), fun h_ => absurd h_ (by decide)⟩
      · skip
        clear BK167 BK168 BK176 HB
        refine steps_cons ?_ ?_
        · rintro b a w' ⟨b_t177, b_t178, b_t179, b_t180, b_t181, b_t182, gb184, m1_, m3_, m4_, m5_, m6_, m8_, ha, Q_BK167, Q_BK168, Q_BK176, Q_HB, Q_HF_t177, Q_HF_t178, Q_HF_t179, Q_HF_t180, Q_HF_t181, Q_HF_t182, Q_BK184, Q_GW184, Q_GE184, Q_NB167_184, Q_NB184_167, Q_NB168_184, Q_NB184_168, Q_NB176_184, Q_NB184_176, Q_BK184_e9, Q_X1_, Q_X3_, Q_X4_, Q_X5_, Q_X6_, Q_X8_⟩ hb_ hon hoff
          refine ⟨_, rfl, fun K hK => ?_⟩
          have e2 : a.tmps[2]? = some (.pointer (some ⟨gb167, 0, none⟩)) := by rw [ha]; exact (putSel_off rfl).trans rfl
          replace ha := Aside0.mk ha
          have BK167 := Aside0.mk Q_BK167
          have BK168 := Aside0.mk Q_BK168
          have BK176 := Aside0.mk Q_BK176
          have HB := Aside0.mk Q_HB
          have hc0_ : w'.cell? ⟨gb167, 0, none⟩ = some (.float .f64 b_a0_0) := (blk_cell BK167.out 0).trans rfl
          have hc1_ : w'.cell? ⟨gb167, 1, none⟩ = some (.float .f64 b_a0_1) := (blk_cell BK167.out 1).trans rfl
          refine value_ (w1 := w') (v := .agg #[.float .f64 b_a0_0, .float .f64 b_a0_1]) (by rfl) rfl ?_ ?_
          · go_simp
            (try simp only [i64_w])
            try rfl
          refine hK.out _ _ ⟨b_t177, b_t178, b_t179, b_t180, b_t181, b_t182, gb184, m1_, m3_, m4_, m5_, m6_, m8_, (by rw [ha.out]; exact putSel_upk 0 hb_ rfl rfl rfl), Q_BK167, Q_BK168, Q_BK176, Q_HB, fun h0_ => absurd ((hoff 1 (by kernel_rfl)).symm.trans h0_) (by decide), fun h0_ => absurd ((hoff 1 (by kernel_rfl)).symm.trans h0_) (by decide), fun h0_ => absurd ((hoff 3 (by kernel_rfl)).symm.trans h0_) (by decide), fun h0_ => absurd ((hoff 3 (by kernel_rfl)).symm.trans h0_) (by decide), fun h0_ => absurd ((hoff 4 (by kernel_rfl)).symm.trans h0_) (by decide), fun h0_ => absurd ((hoff 4 (by kernel_rfl)).symm.trans h0_) (by decide), Q_BK184, Q_GW184, Q_GE184, Q_NB167_184, Q_NB184_167, Q_NB168_184, Q_NB184_168, Q_NB176_184, Q_NB184_176, fun h0_ => absurd ((hoff 9 (by kernel_rfl)).symm.trans h0_) (by decide), fun h0_ => absurd ((hoff 1 (by kernel_rfl)).symm.trans h0_) (by decide), fun h0_ => absurd ((hoff 3 (by kernel_rfl)).symm.trans h0_) (by decide), fun h0_ => absurd ((hoff 4 (by kernel_rfl)).symm.trans h0_) (by decide), fun h0_ => absurd ((hoff 5 (by kernel_rfl)).symm.trans h0_) (by decide), fun h0_ => absurd ((hoff 6 (by kernel_rfl)).symm.trans h0_) (by decide), Q_X8_⟩
        refine steps_cons ?_ ?_
        · rintro b a w' ⟨b_t177, b_t178, b_t179, b_t180, b_t181, b_t182, gb184, m1_, m3_, m4_, m5_, m6_, m8_, ha, Q_BK167, Q_BK168, Q_BK176, Q_HB, Q_HF_t177, Q_HF_t178, Q_HF_t179, Q_HF_t180, Q_HF_t181, Q_HF_t182, Q_BK184, Q_GW184, Q_GE184, Q_NB167_184, Q_NB184_167, Q_NB168_184, Q_NB184_168, Q_NB176_184, Q_NB184_176, Q_BK184_e9, Q_X1_, Q_X3_, Q_X4_, Q_X5_, Q_X6_, Q_X8_⟩ hb_ hon hoff
          refine ⟨_, rfl, fun K hK => ?_⟩
          have e18 : a.tmps[18]? = some (.agg #[.float .f64 b_a0_0, .float .f64 b_a0_1]) := by rw [ha]; exact putSel_on (e := (0, 18, .agg #[.float .f64 b_a0_0, .float .f64 b_a0_1])) 0 rfl rfl (hon 0 (by kernel_rfl)) rfl
          replace ha := Aside0.mk ha
          have BK167 := Aside0.mk Q_BK167
          have BK168 := Aside0.mk Q_BK168
          have BK176 := Aside0.mk Q_BK176
          have HB := Aside0.mk Q_HB
          refine goes_ Try.func16 (by kernel_rfl) rfl #[.agg #[.float .f64 b_a0_0, .float .f64 b_a0_1]] (by rfl) rfl rfl (by first | (simp only [List.map_toArray, List.map_cons, List.map_nil, Act.eval, Array.getD_eq_getD_getElem?, Option.getD_some, e18]; done) | (simp only [List.map_toArray, List.map_cons, List.map_nil, Act.eval, Array.getD_eq_getD_getElem?, Option.getD_some, e18]; rfl)) ?_
          with_reducible refine (laws_toCx.calls b_a0_0 a0_0 b_a0_1 a0_1 t177 t178 _ ?side1 ?side2 A6.out).mono ?_
          (case side1 => exact hF_a0_0)
          (case side2 => exact hF_a0_1)
          rintro e w49 ⟨b_t177, b_t178, rfl, hF_t177, hF_t178, hb⟩
          refine ⟨_, rfl, ?_⟩
          have n0_ := Aside0.mk (blk_below (g := gb167) (o := .cells #[.float .f64 b_a0_0, .float .f64 b_a0_1] 24 (0, 0)) (by (with_reducible repeat (first | refine blk_drewN ?_ _ | refine blk_drew ?_ | refine blk_alloc ?_ _)); exact BK167.out) hb)
          have n1_ := Aside0.mk (blk_below (g := gb168) (o := .cells #[.float .f64 b_a1_0, .float .f64 b_a1_1] 24 (0, 0)) (by (with_reducible repeat (first | refine blk_drewN ?_ _ | refine blk_drew ?_ | refine blk_alloc ?_ _)); exact BK168.out) hb)
          have n2_ := Aside0.mk (blk_below (g := gb176) (o := .cells #[.float .f64 b_t173, .float .f64 b_t174] 26 (0, 0)) (by (with_reducible repeat (first | refine blk_drewN ?_ _ | refine blk_drew ?_ | refine blk_alloc ?_ _)); exact BK176.out) hb)
          have n3_ := Aside0.mk (below_step (by repeat (first | (with_reducible first | exact HB.out | apply below_alloc | apply pw_below_drewN | apply below_drew1 | refine below_set ?_ GE167.out | refine below_set ?_ GE168.out | refine below_set ?_ GE176.out) | exact HB.out)) hb)
          have z_BK184 := fun (h0_ : b 8 = true) (h1_ : b 9 = false) => (show w49.heap[gb184]? = some (.cells #[.float .f64 0, .float .f64 0] 26 (0, 0)) from by first | exact (blk_below (g := gb184) (o := .cells #[.float .f64 0, .float .f64 0] 26 (0, 0)) (by (with_reducible repeat (first | refine blk_drewN ?_ _ | refine blk_drew ?_ | refine blk_alloc ?_ _)); exact (Q_BK184 h0_ h1_)) hb))
          clear BK167
          clear BK168
          clear BK176
          clear HB
          have BK167 := n0_
          have BK168 := n1_
          have BK176 := n2_
          have HB := n3_
          clear n0_ n1_ n2_ n3_
          (try clear hb)
          (try clear hb2)
          (try clear hk)
          (try clear hi)
          refine hK.out _ _ ⟨b_t177, b_t178, b_t179, b_t180, b_t181, b_t182, gb184, (.agg #[.float .f64 b_t177, .float .f64 b_t178]), m3_, m4_, m5_, m6_, m8_, (by rw [ha.out]; exact putSel_upk 1 hb_ rfl rfl rfl), (by (with_reducible repeat (first | refine blk_drewN ?_ _ | refine blk_drew ?_ | refine blk_alloc ?_ _)); exact BK167.out), (by (with_reducible repeat (first | refine blk_drewN ?_ _ | refine blk_drew ?_ | refine blk_alloc ?_ _)); exact BK168.out), (by (with_reducible repeat (first | refine blk_drewN ?_ _ | refine blk_drew ?_ | refine blk_alloc ?_ _)); exact BK176.out), (by repeat (first | (with_reducible first | exact HB.out | apply below_alloc | apply pw_below_drewN | apply below_drew1 | refine below_set ?_ GE167.out | refine below_set ?_ GE168.out | refine below_set ?_ GE176.out) | exact HB.out)), fun _ => hF_t177, fun _ => hF_t178, fun h0_ => absurd ((hoff 3 (by kernel_rfl)).symm.trans h0_) (by decide), fun h0_ => absurd ((hoff 3 (by kernel_rfl)).symm.trans h0_) (by decide), fun h0_ => absurd ((hoff 4 (by kernel_rfl)).symm.trans h0_) (by decide), fun h0_ => absurd ((hoff 4 (by kernel_rfl)).symm.trans h0_) (by decide), z_BK184, Q_GW184, Q_GE184, Q_NB167_184, Q_NB184_167, Q_NB168_184, Q_NB184_168, Q_NB176_184, Q_NB184_176, fun h0_ => absurd ((hoff 9 (by kernel_rfl)).symm.trans h0_) (by decide), fun _ => rfl, fun h0_ => absurd ((hoff 3 (by kernel_rfl)).symm.trans h0_) (by decide), fun h0_ => absurd ((hoff 4 (by kernel_rfl)).symm.trans h0_) (by decide), fun h0_ => absurd ((hoff 5 (by kernel_rfl)).symm.trans h0_) (by decide), fun h0_ => absurd ((hoff 6 (by kernel_rfl)).symm.trans h0_) (by decide), Q_X8_⟩
        refine steps_cons ?_ ?_
        · rintro b a w' ⟨b_t177, b_t178, b_t179, b_t180, b_t181, b_t182, gb184, m1_, m3_, m4_, m5_, m6_, m8_, ha, Q_BK167, Q_BK168, Q_BK176, Q_HB, Q_HF_t177, Q_HF_t178, Q_HF_t179, Q_HF_t180, Q_HF_t181, Q_HF_t182, Q_BK184, Q_GW184, Q_GE184, Q_NB167_184, Q_NB184_167, Q_NB168_184, Q_NB184_168, Q_NB176_184, Q_NB184_176, Q_BK184_e9, Q_X1_, Q_X3_, Q_X4_, Q_X5_, Q_X6_, Q_X8_⟩ hb_ hon hoff
          refine ⟨_, rfl, fun K hK => ?_⟩
          have e3 : a.tmps[3]? = some (.pointer (some ⟨gb168, 0, none⟩)) := by rw [ha]; exact (putSel_off rfl).trans rfl
          replace ha := Aside0.mk ha
          have BK167 := Aside0.mk Q_BK167
          have BK168 := Aside0.mk Q_BK168
          have BK176 := Aside0.mk Q_BK176
          have HB := Aside0.mk Q_HB
          have hc0_ : w'.cell? ⟨gb168, 0, none⟩ = some (.float .f64 b_a1_0) := (blk_cell BK168.out 0).trans rfl
          have hc1_ : w'.cell? ⟨gb168, 1, none⟩ = some (.float .f64 b_a1_1) := (blk_cell BK168.out 1).trans rfl
          refine value_ (w1 := w') (v := .agg #[.float .f64 b_a1_0, .float .f64 b_a1_1]) (by rfl) rfl ?_ ?_
          · go_simp
            (try simp only [i64_w])
            try rfl
          refine hK.out _ _ ⟨b_t177, b_t178, b_t179, b_t180, b_t181, b_t182, gb184, m1_, m3_, m4_, m5_, m6_, m8_, (by rw [ha.out]; exact putSel_upk 2 hb_ rfl rfl rfl), Q_BK167, Q_BK168, Q_BK176, Q_HB, Q_HF_t177, Q_HF_t178, fun h0_ => absurd ((hoff 3 (by kernel_rfl)).symm.trans h0_) (by decide), fun h0_ => absurd ((hoff 3 (by kernel_rfl)).symm.trans h0_) (by decide), fun h0_ => absurd ((hoff 4 (by kernel_rfl)).symm.trans h0_) (by decide), fun h0_ => absurd ((hoff 4 (by kernel_rfl)).symm.trans h0_) (by decide), Q_BK184, Q_GW184, Q_GE184, Q_NB167_184, Q_NB184_167, Q_NB168_184, Q_NB184_168, Q_NB176_184, Q_NB184_176, fun h0_ => absurd ((hoff 9 (by kernel_rfl)).symm.trans h0_) (by decide), Q_X1_, fun h0_ => absurd ((hoff 3 (by kernel_rfl)).symm.trans h0_) (by decide), fun h0_ => absurd ((hoff 4 (by kernel_rfl)).symm.trans h0_) (by decide), fun h0_ => absurd ((hoff 5 (by kernel_rfl)).symm.trans h0_) (by decide), fun h0_ => absurd ((hoff 6 (by kernel_rfl)).symm.trans h0_) (by decide), Q_X8_⟩
        refine steps_cons ?_ ?_
        · rintro b a w' ⟨b_t177, b_t178, b_t179, b_t180, b_t181, b_t182, gb184, m1_, m3_, m4_, m5_, m6_, m8_, ha, Q_BK167, Q_BK168, Q_BK176, Q_HB, Q_HF_t177, Q_HF_t178, Q_HF_t179, Q_HF_t180, Q_HF_t181, Q_HF_t182, Q_BK184, Q_GW184, Q_GE184, Q_NB167_184, Q_NB184_167, Q_NB168_184, Q_NB184_168, Q_NB176_184, Q_NB184_176, Q_BK184_e9, Q_X1_, Q_X3_, Q_X4_, Q_X5_, Q_X6_, Q_X8_⟩ hb_ hon hoff
          refine ⟨_, rfl, fun K hK => ?_⟩
          have e20 : a.tmps[20]? = some (.agg #[.float .f64 b_a1_0, .float .f64 b_a1_1]) := by rw [ha]; exact putSel_on (e := (2, 20, .agg #[.float .f64 b_a1_0, .float .f64 b_a1_1])) 2 rfl rfl (hon 2 (by kernel_rfl)) rfl
          replace ha := Aside0.mk ha
          have BK167 := Aside0.mk Q_BK167
          have BK168 := Aside0.mk Q_BK168
          have BK176 := Aside0.mk Q_BK176
          have HB := Aside0.mk Q_HB
          have HF_t177 := Aside0.mk (Q_HF_t177 (hon 1 (by kernel_rfl)))
          have HF_t178 := Aside0.mk (Q_HF_t178 (hon 1 (by kernel_rfl)))
          have hF_t177 := HF_t177.out
          have hF_t178 := HF_t178.out
          refine goes_ Try.func16 (by kernel_rfl) rfl #[.agg #[.float .f64 b_a1_0, .float .f64 b_a1_1]] (by rfl) rfl rfl (by first | (simp only [List.map_toArray, List.map_cons, List.map_nil, Act.eval, Array.getD_eq_getD_getElem?, Option.getD_some, e20]; done) | (simp only [List.map_toArray, List.map_cons, List.map_nil, Act.eval, Array.getD_eq_getD_getElem?, Option.getD_some, e20]; rfl)) ?_
          with_reducible refine (laws_toCx.calls b_a1_0 a1_0 b_a1_1 a1_1 t179 t180 _ ?side1 ?side2 A7.out).mono ?_
          (case side1 => exact hF_a1_0)
          (case side2 => exact hF_a1_1)
          rintro e w51 ⟨b_t179, b_t180, rfl, hF_t179, hF_t180, hb⟩
          refine ⟨_, rfl, ?_⟩
          have n0_ := Aside0.mk (blk_below (g := gb167) (o := .cells #[.float .f64 b_a0_0, .float .f64 b_a0_1] 24 (0, 0)) (by (with_reducible repeat (first | refine blk_drewN ?_ _ | refine blk_drew ?_ | refine blk_alloc ?_ _)); exact BK167.out) hb)
          have n1_ := Aside0.mk (blk_below (g := gb168) (o := .cells #[.float .f64 b_a1_0, .float .f64 b_a1_1] 24 (0, 0)) (by (with_reducible repeat (first | refine blk_drewN ?_ _ | refine blk_drew ?_ | refine blk_alloc ?_ _)); exact BK168.out) hb)
          have n2_ := Aside0.mk (blk_below (g := gb176) (o := .cells #[.float .f64 b_t173, .float .f64 b_t174] 26 (0, 0)) (by (with_reducible repeat (first | refine blk_drewN ?_ _ | refine blk_drew ?_ | refine blk_alloc ?_ _)); exact BK176.out) hb)
          have n3_ := Aside0.mk (below_step (by repeat (first | (with_reducible first | exact HB.out | apply below_alloc | apply pw_below_drewN | apply below_drew1 | refine below_set ?_ GE167.out | refine below_set ?_ GE168.out | refine below_set ?_ GE176.out) | exact HB.out)) hb)
          have z_BK184 := fun (h0_ : b 8 = true) (h1_ : b 9 = false) => (show w51.heap[gb184]? = some (.cells #[.float .f64 0, .float .f64 0] 26 (0, 0)) from by first | exact (blk_below (g := gb184) (o := .cells #[.float .f64 0, .float .f64 0] 26 (0, 0)) (by (with_reducible repeat (first | refine blk_drewN ?_ _ | refine blk_drew ?_ | refine blk_alloc ?_ _)); exact (Q_BK184 h0_ h1_)) hb))
          clear BK167
          clear BK168
          clear BK176
          clear HB
          have BK167 := n0_
          have BK168 := n1_
          have BK176 := n2_
          have HB := n3_
          clear n0_ n1_ n2_ n3_
          (try clear hb)
          (try clear hb2)
          (try clear hk)
          (try clear hi)
          refine hK.out _ _ ⟨b_t177, b_t178, b_t179, b_t180, b_t181, b_t182, gb184, m1_, (.agg #[.float .f64 b_t179, .float .f64 b_t180]), m4_, m5_, m6_, m8_, (by rw [ha.out]; exact putSel_upk 3 hb_ rfl rfl rfl), (by (with_reducible repeat (first | refine blk_drewN ?_ _ | refine blk_drew ?_ | refine blk_alloc ?_ _)); exact BK167.out), (by (with_reducible repeat (first | refine blk_drewN ?_ _ | refine blk_drew ?_ | refine blk_alloc ?_ _)); exact BK168.out), (by (with_reducible repeat (first | refine blk_drewN ?_ _ | refine blk_drew ?_ | refine blk_alloc ?_ _)); exact BK176.out), (by repeat (first | (with_reducible first | exact HB.out | apply below_alloc | apply pw_below_drewN | apply below_drew1 | refine below_set ?_ GE167.out | refine below_set ?_ GE168.out | refine below_set ?_ GE176.out) | exact HB.out)), fun _ => hF_t177, fun _ => hF_t178, fun _ => hF_t179, fun _ => hF_t180, fun h0_ => absurd ((hoff 4 (by kernel_rfl)).symm.trans h0_) (by decide), fun h0_ => absurd ((hoff 4 (by kernel_rfl)).symm.trans h0_) (by decide), z_BK184, Q_GW184, Q_GE184, Q_NB167_184, Q_NB184_167, Q_NB168_184, Q_NB184_168, Q_NB176_184, Q_NB184_176, fun h0_ => absurd ((hoff 9 (by kernel_rfl)).symm.trans h0_) (by decide), Q_X1_, fun _ => rfl, fun h0_ => absurd ((hoff 4 (by kernel_rfl)).symm.trans h0_) (by decide), fun h0_ => absurd ((hoff 5 (by kernel_rfl)).symm.trans h0_) (by decide), fun h0_ => absurd ((hoff 6 (by kernel_rfl)).symm.trans h0_) (by decide), Q_X8_⟩
        refine steps_cons ?_ ?_
        · rintro b a w' ⟨b_t177, b_t178, b_t179, b_t180, b_t181, b_t182, gb184, m1_, m3_, m4_, m5_, m6_, m8_, ha, Q_BK167, Q_BK168, Q_BK176, Q_HB, Q_HF_t177, Q_HF_t178, Q_HF_t179, Q_HF_t180, Q_HF_t181, Q_HF_t182, Q_BK184, Q_GW184, Q_GE184, Q_NB167_184, Q_NB184_167, Q_NB168_184, Q_NB184_168, Q_NB176_184, Q_NB184_176, Q_BK184_e9, Q_X1_, Q_X3_, Q_X4_, Q_X5_, Q_X6_, Q_X8_⟩ hb_ hon hoff
          refine ⟨_, rfl, fun K hK => ?_⟩
          have e19 : a.tmps[19]? = some (m1_) := by rw [ha]; exact putSel_on (e := (1, 19, m1_)) 1 rfl rfl (hon 1 (by kernel_rfl)) rfl
          rw [Q_X1_ (hon 1 (by kernel_rfl))] at e19
          have e21 : a.tmps[21]? = some (m3_) := by rw [ha]; exact putSel_on (e := (3, 21, m3_)) 3 rfl rfl (hon 3 (by kernel_rfl)) rfl
          rw [Q_X3_ (hon 3 (by kernel_rfl))] at e21
          replace ha := Aside0.mk ha
          have BK167 := Aside0.mk Q_BK167
          have BK168 := Aside0.mk Q_BK168
          have BK176 := Aside0.mk Q_BK176
          have HB := Aside0.mk Q_HB
          have HF_t177 := Aside0.mk (Q_HF_t177 (hon 1 (by kernel_rfl)))
          have HF_t178 := Aside0.mk (Q_HF_t178 (hon 1 (by kernel_rfl)))
          have HF_t179 := Aside0.mk (Q_HF_t179 (hon 3 (by kernel_rfl)))
          have HF_t180 := Aside0.mk (Q_HF_t180 (hon 3 (by kernel_rfl)))
          have hF_t177 := HF_t177.out
          have hF_t178 := HF_t178.out
          have hF_t179 := HF_t179.out
          have hF_t180 := HF_t180.out
          refine goes_ Try.func44 (by kernel_rfl) rfl #[.agg #[.float .f64 b_t177, .float .f64 b_t178], .agg #[.float .f64 b_t179, .float .f64 b_t180]] (by rfl) rfl rfl (by first | (simp only [List.map_toArray, List.map_cons, List.map_nil, Act.eval, Array.getD_eq_getD_getElem?, Option.getD_some, e19, e21]; done) | (simp only [List.map_toArray, List.map_cons, List.map_nil, Act.eval, Array.getD_eq_getD_getElem?, Option.getD_some, e19, e21]; rfl)) ?_
          with_reducible refine (impl_CxOver.calls k b_t177 t177 b_t178 t178 b_t179 t179 b_t180 t180 t181 t182 t183 _ ?side1 ?side2 ?side3 ?side4 A8.out).mono ?_
          (case side1 => exact hF_t177)
          (case side2 => exact hF_t178)
          (case side3 => exact hF_t179)
          (case side4 => exact hF_t180)
          rintro e w52 ⟨b_t181, b_t182, rfl, hF_t181, hF_t182, hb⟩
          refine ⟨_, rfl, ?_⟩
          have n0_ := Aside0.mk (blk_below (g := gb167) (o := .cells #[.float .f64 b_a0_0, .float .f64 b_a0_1] 24 (0, 0)) (by (with_reducible repeat (first | refine blk_drewN ?_ _ | refine blk_drew ?_ | refine blk_alloc ?_ _)); exact BK167.out) hb)
          have n1_ := Aside0.mk (blk_below (g := gb168) (o := .cells #[.float .f64 b_a1_0, .float .f64 b_a1_1] 24 (0, 0)) (by (with_reducible repeat (first | refine blk_drewN ?_ _ | refine blk_drew ?_ | refine blk_alloc ?_ _)); exact BK168.out) hb)
          have n2_ := Aside0.mk (blk_below (g := gb176) (o := .cells #[.float .f64 b_t173, .float .f64 b_t174] 26 (0, 0)) (by (with_reducible repeat (first | refine blk_drewN ?_ _ | refine blk_drew ?_ | refine blk_alloc ?_ _)); exact BK176.out) hb)
          have n3_ := Aside0.mk (below_step (by repeat (first | (with_reducible first | exact HB.out | apply below_alloc | apply pw_below_drewN | apply below_drew1 | refine below_set ?_ GE167.out | refine below_set ?_ GE168.out | refine below_set ?_ GE176.out) | exact HB.out)) hb)
          have z_BK184 := fun (h0_ : b 8 = true) (h1_ : b 9 = false) => (show w52.heap[gb184]? = some (.cells #[.float .f64 0, .float .f64 0] 26 (0, 0)) from by first | exact (blk_below (g := gb184) (o := .cells #[.float .f64 0, .float .f64 0] 26 (0, 0)) (by (with_reducible repeat (first | refine blk_drewN ?_ _ | refine blk_drew ?_ | refine blk_alloc ?_ _)); exact (Q_BK184 h0_ h1_)) hb))
          clear BK167
          clear BK168
          clear BK176
          clear HB
          have BK167 := n0_
          have BK168 := n1_
          have BK176 := n2_
          have HB := n3_
          clear n0_ n1_ n2_ n3_
          (try clear hb)
          (try clear hb2)
          (try clear hk)
          (try clear hi)
          refine hK.out _ _ ⟨b_t177, b_t178, b_t179, b_t180, b_t181, b_t182, gb184, m1_, m3_, (.tuple #[.agg #[.float .f64 b_t181, .float .f64 b_t182], .bool t183]), m5_, m6_, m8_, (by rw [ha.out]; exact putSel_upk 4 hb_ rfl rfl rfl), (by (with_reducible repeat (first | refine blk_drewN ?_ _ | refine blk_drew ?_ | refine blk_alloc ?_ _)); exact BK167.out), (by (with_reducible repeat (first | refine blk_drewN ?_ _ | refine blk_drew ?_ | refine blk_alloc ?_ _)); exact BK168.out), (by (with_reducible repeat (first | refine blk_drewN ?_ _ | refine blk_drew ?_ | refine blk_alloc ?_ _)); exact BK176.out), (by repeat (first | (with_reducible first | exact HB.out | apply below_alloc | apply pw_below_drewN | apply below_drew1 | refine below_set ?_ GE167.out | refine below_set ?_ GE168.out | refine below_set ?_ GE176.out) | exact HB.out)), fun _ => hF_t177, fun _ => hF_t178, fun _ => hF_t179, fun _ => hF_t180, fun _ => hF_t181, fun _ => hF_t182, z_BK184, Q_GW184, Q_GE184, Q_NB167_184, Q_NB184_167, Q_NB168_184, Q_NB184_168, Q_NB176_184, Q_NB184_176, fun h0_ => absurd ((hoff 9 (by kernel_rfl)).symm.trans h0_) (by decide), Q_X1_, Q_X3_, fun _ => rfl, fun h0_ => absurd ((hoff 5 (by kernel_rfl)).symm.trans h0_) (by decide), fun h0_ => absurd ((hoff 6 (by kernel_rfl)).symm.trans h0_) (by decide), Q_X8_⟩
        refine steps_cons ?_ ?_
        · rintro b a w' ⟨b_t177, b_t178, b_t179, b_t180, b_t181, b_t182, gb184, m1_, m3_, m4_, m5_, m6_, m8_, ha, Q_BK167, Q_BK168, Q_BK176, Q_HB, Q_HF_t177, Q_HF_t178, Q_HF_t179, Q_HF_t180, Q_HF_t181, Q_HF_t182, Q_BK184, Q_GW184, Q_GE184, Q_NB167_184, Q_NB184_167, Q_NB168_184, Q_NB184_168, Q_NB176_184, Q_NB184_176, Q_BK184_e9, Q_X1_, Q_X3_, Q_X4_, Q_X5_, Q_X6_, Q_X8_⟩ hb_ hon hoff
          refine ⟨_, rfl, fun K hK => ?_⟩
          have e22 : a.tmps[22]? = some (m4_) := by rw [ha]; exact putSel_on (e := (4, 22, m4_)) 4 rfl rfl (hon 4 (by kernel_rfl)) rfl
          rw [Q_X4_ (hon 4 (by kernel_rfl))] at e22
          replace ha := Aside0.mk ha
          have BK167 := Aside0.mk Q_BK167
          have BK168 := Aside0.mk Q_BK168
          have BK176 := Aside0.mk Q_BK176
          have HB := Aside0.mk Q_HB
          have HF_t177 := Aside0.mk (Q_HF_t177 (hon 1 (by kernel_rfl)))
          have HF_t178 := Aside0.mk (Q_HF_t178 (hon 1 (by kernel_rfl)))
          have HF_t179 := Aside0.mk (Q_HF_t179 (hon 3 (by kernel_rfl)))
          have HF_t180 := Aside0.mk (Q_HF_t180 (hon 3 (by kernel_rfl)))
          have HF_t181 := Aside0.mk (Q_HF_t181 (hon 4 (by kernel_rfl)))
          have HF_t182 := Aside0.mk (Q_HF_t182 (hon 4 (by kernel_rfl)))
          refine value_ (w1 := w') (v := .tuple #[.agg #[.float .f64 b_t181, .float .f64 b_t182], .bool t183]) (by rfl) rfl ?_ ?_
          · go_simp
            (try simp only [i64_w])
            try rfl
          refine hK.out _ _ ⟨b_t177, b_t178, b_t179, b_t180, b_t181, b_t182, gb184, m1_, m3_, m4_, (.tuple #[.agg #[.float .f64 b_t181, .float .f64 b_t182], .bool t183]), m6_, m8_, (by rw [ha.out]; exact putSel_upk 5 hb_ rfl rfl rfl), Q_BK167, Q_BK168, Q_BK176, Q_HB, Q_HF_t177, Q_HF_t178, Q_HF_t179, Q_HF_t180, Q_HF_t181, Q_HF_t182, Q_BK184, Q_GW184, Q_GE184, Q_NB167_184, Q_NB184_167, Q_NB168_184, Q_NB184_168, Q_NB176_184, Q_NB184_176, fun h0_ => absurd ((hoff 9 (by kernel_rfl)).symm.trans h0_) (by decide), Q_X1_, Q_X3_, Q_X4_, fun _ => rfl, fun h0_ => absurd ((hoff 6 (by kernel_rfl)).symm.trans h0_) (by decide), Q_X8_⟩
        refine steps_cons ?_ ?_
        · rintro b a w' ⟨b_t177, b_t178, b_t179, b_t180, b_t181, b_t182, gb184, m1_, m3_, m4_, m5_, m6_, m8_, ha, Q_BK167, Q_BK168, Q_BK176, Q_HB, Q_HF_t177, Q_HF_t178, Q_HF_t179, Q_HF_t180, Q_HF_t181, Q_HF_t182, Q_BK184, Q_GW184, Q_GE184, Q_NB167_184, Q_NB184_167, Q_NB168_184, Q_NB184_168, Q_NB176_184, Q_NB184_176, Q_BK184_e9, Q_X1_, Q_X3_, Q_X4_, Q_X5_, Q_X6_, Q_X8_⟩ hb_ hon hoff
          refine ⟨_, rfl, fun K hK => ?_⟩
          have e17 : a.tmps[17]? = some (m5_) := by rw [ha]; exact putSel_on (e := (5, 17, m5_)) 5 rfl rfl (hon 5 (by kernel_rfl)) rfl
          rw [Q_X5_ (hon 5 (by kernel_rfl))] at e17
          replace ha := Aside0.mk ha
          have BK167 := Aside0.mk Q_BK167
          have BK168 := Aside0.mk Q_BK168
          have BK176 := Aside0.mk Q_BK176
          have HB := Aside0.mk Q_HB
          have HF_t177 := Aside0.mk (Q_HF_t177 (hon 1 (by kernel_rfl)))
          have HF_t178 := Aside0.mk (Q_HF_t178 (hon 1 (by kernel_rfl)))
          have HF_t179 := Aside0.mk (Q_HF_t179 (hon 3 (by kernel_rfl)))
          have HF_t180 := Aside0.mk (Q_HF_t180 (hon 3 (by kernel_rfl)))
          have HF_t181 := Aside0.mk (Q_HF_t181 (hon 4 (by kernel_rfl)))
          have HF_t182 := Aside0.mk (Q_HF_t182 (hon 4 (by kernel_rfl)))
          refine value_ (w1 := w') (v := .agg #[.float .f64 b_t181, .float .f64 b_t182]) (by rfl) rfl ?_ ?_
          · go_simp
            (try simp only [i64_w])
            try rfl
          refine hK.out _ _ ⟨b_t177, b_t178, b_t179, b_t180, b_t181, b_t182, gb184, m1_, m3_, m4_, m5_, (.agg #[.float .f64 b_t181, .float .f64 b_t182]), m8_, (by rw [ha.out]; exact putSel_upk 6 hb_ rfl rfl rfl), Q_BK167, Q_BK168, Q_BK176, Q_HB, Q_HF_t177, Q_HF_t178, Q_HF_t179, Q_HF_t180, Q_HF_t181, Q_HF_t182, Q_BK184, Q_GW184, Q_GE184, Q_NB167_184, Q_NB184_167, Q_NB168_184, Q_NB184_168, Q_NB176_184, Q_NB184_176, fun h0_ => absurd ((hoff 9 (by kernel_rfl)).symm.trans h0_) (by decide), Q_X1_, Q_X3_, Q_X4_, Q_X5_, fun _ => rfl, Q_X8_⟩
        refine steps_cons ?_ ?_
        · rintro b a w' ⟨b_t177, b_t178, b_t179, b_t180, b_t181, b_t182, gb184, m1_, m3_, m4_, m5_, m6_, m8_, ha, Q_BK167, Q_BK168, Q_BK176, Q_HB, Q_HF_t177, Q_HF_t178, Q_HF_t179, Q_HF_t180, Q_HF_t181, Q_HF_t182, Q_BK184, Q_GW184, Q_GE184, Q_NB167_184, Q_NB184_167, Q_NB168_184, Q_NB184_168, Q_NB176_184, Q_NB184_176, Q_BK184_e9, Q_X1_, Q_X3_, Q_X4_, Q_X5_, Q_X6_, Q_X8_⟩ hb_ hon hoff
          refine ⟨_, rfl, fun K hK => ?_⟩
          have e17 : a.tmps[17]? = some (m5_) := by rw [ha]; exact putSel_on (e := (5, 17, m5_)) 5 rfl rfl (hon 5 (by kernel_rfl)) rfl
          rw [Q_X5_ (hon 5 (by kernel_rfl))] at e17
          replace ha := Aside0.mk ha
          have BK167 := Aside0.mk Q_BK167
          have BK168 := Aside0.mk Q_BK168
          have BK176 := Aside0.mk Q_BK176
          have HB := Aside0.mk Q_HB
          have HF_t177 := Aside0.mk (Q_HF_t177 (hon 1 (by kernel_rfl)))
          have HF_t178 := Aside0.mk (Q_HF_t178 (hon 1 (by kernel_rfl)))
          have HF_t179 := Aside0.mk (Q_HF_t179 (hon 3 (by kernel_rfl)))
          have HF_t180 := Aside0.mk (Q_HF_t180 (hon 3 (by kernel_rfl)))
          have HF_t181 := Aside0.mk (Q_HF_t181 (hon 4 (by kernel_rfl)))
          have HF_t182 := Aside0.mk (Q_HF_t182 (hon 4 (by kernel_rfl)))
          refine value_ (w1 := w') (v := .bool t183) (by rfl) rfl ?_ ?_
          · go_simp
            (try simp only [i64_w])
            try rfl
          refine hK.out _ _ ⟨b_t177, b_t178, b_t179, b_t180, b_t181, b_t182, gb184, m1_, m3_, m4_, m5_, m6_, m8_, (by rw [ha.out]; exact putSel_upk 7 hb_ rfl rfl rfl), Q_BK167, Q_BK168, Q_BK176, Q_HB, Q_HF_t177, Q_HF_t178, Q_HF_t179, Q_HF_t180, Q_HF_t181, Q_HF_t182, Q_BK184, Q_GW184, Q_GE184, Q_NB167_184, Q_NB184_167, Q_NB168_184, Q_NB184_168, Q_NB176_184, Q_NB184_176, Q_BK184_e9, Q_X1_, Q_X3_, Q_X4_, Q_X5_, Q_X6_, Q_X8_⟩
        refine steps_cons ?_ ?_
        · rintro b a w' ⟨b_t177, b_t178, b_t179, b_t180, b_t181, b_t182, gb184, m1_, m3_, m4_, m5_, m6_, m8_, ha, Q_BK167, Q_BK168, Q_BK176, Q_HB, Q_HF_t177, Q_HF_t178, Q_HF_t179, Q_HF_t180, Q_HF_t181, Q_HF_t182, Q_BK184, Q_GW184, Q_GE184, Q_NB167_184, Q_NB184_167, Q_NB168_184, Q_NB184_168, Q_NB176_184, Q_NB184_176, Q_BK184_e9, Q_X1_, Q_X3_, Q_X4_, Q_X5_, Q_X6_, Q_X8_⟩ hb_ hon hoff
          refine ⟨_, rfl, fun K hK => ?_⟩
          replace ha := Aside0.mk ha
          have BK167 := Aside0.mk Q_BK167
          have BK168 := Aside0.mk Q_BK168
          have BK176 := Aside0.mk Q_BK176
          have HB := Aside0.mk Q_HB
          refine box_step ?hg (N := 7) ?hd (cs := #[.float .f64 0, .float .f64 0]) (t := 26) ?hr ?_; (case hd => rfl); (case hg => rfl); (case hr => first | (go_simp; done) | (go_simp; rfl))
          intro gb184 hg w49 hbox hb
          have n0_ := Aside0.mk (blk_below (g := gb167) (o := .cells #[.float .f64 b_a0_0, .float .f64 b_a0_1] 24 (0, 0)) (by (with_reducible repeat (first | refine blk_drewN ?_ _ | refine blk_drew ?_ | refine blk_alloc ?_ _)); exact BK167.out) hb)
          have n1_ := Aside0.mk (blk_below (g := gb168) (o := .cells #[.float .f64 b_a1_0, .float .f64 b_a1_1] 24 (0, 0)) (by (with_reducible repeat (first | refine blk_drewN ?_ _ | refine blk_drew ?_ | refine blk_alloc ?_ _)); exact BK168.out) hb)
          have n2_ := Aside0.mk (blk_below (g := gb176) (o := .cells #[.float .f64 b_t173, .float .f64 b_t174] 26 (0, 0)) (by (with_reducible repeat (first | refine blk_drewN ?_ _ | refine blk_drew ?_ | refine blk_alloc ?_ _)); exact BK176.out) hb)
          have n3_ := Aside0.mk (below_step (by repeat (first | (with_reducible first | exact HB.out | apply below_alloc | apply pw_below_drewN | apply below_drew1 | refine below_set ?_ GE167.out | refine below_set ?_ GE168.out | refine below_set ?_ GE176.out) | exact HB.out)) hb)
          have n4_ := Aside0.mk (hbox)
          have n5_ := Aside0.mk ((by rw [hg]; exact (below_size (by repeat (first | (with_reducible first | exact HB.out | apply below_alloc | apply pw_below_drewN | apply below_drew1 | refine below_set ?_ GE167.out | refine below_set ?_ GE168.out | refine below_set ?_ GE176.out) | exact HB.out))) : w.heap.size ≤ gb184))
          have n6_ := Aside0.mk ((by rw [hg]; exact (below_size (by repeat (first | (with_reducible first | exact HB.out | apply below_alloc | apply pw_below_drewN | apply below_drew1 | refine below_set ?_ GE167.out | refine below_set ?_ GE168.out | refine below_set ?_ GE176.out) | exact HB.out))) : w.heap.size ≤ gb184))
          have n7_ := Aside0.mk ((by rw [hg]; exact Nat.ne_of_lt (blk_lt (g := gb167) (o := .cells #[.float .f64 b_a0_0, .float .f64 b_a0_1] 24 (0, 0)) (by (with_reducible repeat (first | refine blk_drewN ?_ _ | refine blk_drew ?_ | refine blk_alloc ?_ _)); exact BK167.out)) : gb167 ≠ gb184))
          have n8_ := Aside0.mk ((by rw [hg]; exact Nat.ne_of_gt (blk_lt (g := gb167) (o := .cells #[.float .f64 b_a0_0, .float .f64 b_a0_1] 24 (0, 0)) (by (with_reducible repeat (first | refine blk_drewN ?_ _ | refine blk_drew ?_ | refine blk_alloc ?_ _)); exact BK167.out)) : gb184 ≠ gb167))
          have n9_ := Aside0.mk ((by rw [hg]; exact Nat.ne_of_lt (blk_lt (g := gb168) (o := .cells #[.float .f64 b_a1_0, .float .f64 b_a1_1] 24 (0, 0)) (by (with_reducible repeat (first | refine blk_drewN ?_ _ | refine blk_drew ?_ | refine blk_alloc ?_ _)); exact BK168.out)) : gb168 ≠ gb184))
          have n10_ := Aside0.mk ((by rw [hg]; exact Nat.ne_of_gt (blk_lt (g := gb168) (o := .cells #[.float .f64 b_a1_0, .float .f64 b_a1_1] 24 (0, 0)) (by (with_reducible repeat (first | refine blk_drewN ?_ _ | refine blk_drew ?_ | refine blk_alloc ?_ _)); exact BK168.out)) : gb184 ≠ gb168))
          have n11_ := Aside0.mk ((by rw [hg]; exact Nat.ne_of_lt (blk_lt (g := gb176) (o := .cells #[.float .f64 b_t173, .float .f64 b_t174] 26 (0, 0)) (by (with_reducible repeat (first | refine blk_drewN ?_ _ | refine blk_drew ?_ | refine blk_alloc ?_ _)); exact BK176.out)) : gb176 ≠ gb184))
          have n12_ := Aside0.mk ((by rw [hg]; exact Nat.ne_of_gt (blk_lt (g := gb176) (o := .cells #[.float .f64 b_t173, .float .f64 b_t174] 26 (0, 0)) (by (with_reducible repeat (first | refine blk_drewN ?_ _ | refine blk_drew ?_ | refine blk_alloc ?_ _)); exact BK176.out)) : gb184 ≠ gb176))
          clear BK167
          clear BK168
          clear BK176
          clear HB
          have BK167 := n0_
          have BK168 := n1_
          have BK176 := n2_
          have HB := n3_
          have BK184 := n4_
          have GW184 := n5_
          have GE184 := n6_
          have NB167_184 := n7_
          have NB184_167 := n8_
          have NB168_184 := n9_
          have NB184_168 := n10_
          have NB176_184 := n11_
          have NB184_176 := n12_
          clear n0_ n1_ n2_ n3_ n4_ n5_ n6_ n7_ n8_ n9_ n10_ n11_ n12_
          clear hb hbox hg
          refine hK.out _ _ ⟨b_t177, b_t178, b_t179, b_t180, b_t181, b_t182, gb184, m1_, m3_, m4_, m5_, m6_, (.pointer (some ⟨gb184, 0, none⟩)), (by rw [ha.out]; exact putSel_upk 8 hb_ rfl rfl rfl), (by (with_reducible repeat (first | refine blk_drewN ?_ _ | refine blk_drew ?_ | refine blk_alloc ?_ _)); exact BK167.out), (by (with_reducible repeat (first | refine blk_drewN ?_ _ | refine blk_drew ?_ | refine blk_alloc ?_ _)); exact BK168.out), (by (with_reducible repeat (first | refine blk_drewN ?_ _ | refine blk_drew ?_ | refine blk_alloc ?_ _)); exact BK176.out), (by repeat (first | (with_reducible first | exact HB.out | apply below_alloc | apply pw_below_drewN | apply below_drew1 | refine below_set ?_ GE167.out | refine below_set ?_ GE168.out | refine below_set ?_ GE176.out | refine below_set ?_ GE184.out) | exact HB.out)), Q_HF_t177, Q_HF_t178, Q_HF_t179, Q_HF_t180, Q_HF_t181, Q_HF_t182, fun _ _ => (by (with_reducible repeat (first | refine blk_drewN ?_ _ | refine blk_drew ?_ | refine blk_alloc ?_ _)); exact BK184.out), fun _ => GW184.out, fun _ => GE184.out, fun _ => NB167_184.out, fun _ => NB184_167.out, fun _ => NB168_184.out, fun _ => NB184_168.out, fun _ => NB176_184.out, fun _ => NB184_176.out, fun h0_ => absurd ((hoff 9 (by kernel_rfl)).symm.trans h0_) (by decide), Q_X1_, Q_X3_, Q_X4_, Q_X5_, Q_X6_, fun _ => rfl⟩
        refine steps_cons ?_ ?_
        · rintro b a w' ⟨b_t177, b_t178, b_t179, b_t180, b_t181, b_t182, gb184, m1_, m3_, m4_, m5_, m6_, m8_, ha, Q_BK167, Q_BK168, Q_BK176, Q_HB, Q_HF_t177, Q_HF_t178, Q_HF_t179, Q_HF_t180, Q_HF_t181, Q_HF_t182, Q_BK184, Q_GW184, Q_GE184, Q_NB167_184, Q_NB184_167, Q_NB168_184, Q_NB184_168, Q_NB176_184, Q_NB184_176, Q_BK184_e9, Q_X1_, Q_X3_, Q_X4_, Q_X5_, Q_X6_, Q_X8_⟩ hb_ hon hoff
          refine ⟨_, rfl, fun K hK => ?_⟩
          have e7 : a.tmps[7]? = some (m8_) := by rw [ha]; exact putSel_on (e := (8, 7, m8_)) 8 rfl rfl (hon 8 (by kernel_rfl)) rfl
          rw [Q_X8_ (hon 8 (by kernel_rfl))] at e7
          have e23 : a.tmps[23]? = some (m6_) := by rw [ha]; exact putSel_on (e := (6, 23, m6_)) 6 rfl rfl (hon 6 (by kernel_rfl)) rfl
          rw [Q_X6_ (hon 6 (by kernel_rfl))] at e23
          replace ha := Aside0.mk ha
          have BK167 := Aside0.mk Q_BK167
          have BK168 := Aside0.mk Q_BK168
          have BK176 := Aside0.mk Q_BK176
          have HB := Aside0.mk Q_HB
          have HF_t177 := Aside0.mk (Q_HF_t177 (hon 1 (by kernel_rfl)))
          have HF_t178 := Aside0.mk (Q_HF_t178 (hon 1 (by kernel_rfl)))
          have HF_t179 := Aside0.mk (Q_HF_t179 (hon 3 (by kernel_rfl)))
          have HF_t180 := Aside0.mk (Q_HF_t180 (hon 3 (by kernel_rfl)))
          have HF_t181 := Aside0.mk (Q_HF_t181 (hon 4 (by kernel_rfl)))
          have HF_t182 := Aside0.mk (Q_HF_t182 (hon 4 (by kernel_rfl)))
          have BK184 := Aside0.mk (Q_BK184 (hon 8 (by kernel_rfl)) hb_)
          have GW184 := Aside0.mk (Q_GW184 (hon 8 (by kernel_rfl)))
          have GE184 := Aside0.mk (Q_GE184 (hon 8 (by kernel_rfl)))
          have NB167_184 := Aside0.mk (Q_NB167_184 (hon 8 (by kernel_rfl)))
          have NB184_167 := Aside0.mk (Q_NB184_167 (hon 8 (by kernel_rfl)))
          have NB168_184 := Aside0.mk (Q_NB168_184 (hon 8 (by kernel_rfl)))
          have NB184_168 := Aside0.mk (Q_NB184_168 (hon 8 (by kernel_rfl)))
          have NB176_184 := Aside0.mk (Q_NB176_184 (hon 8 (by kernel_rfl)))
          have NB184_176 := Aside0.mk (Q_NB184_176 (hon 8 (by kernel_rfl)))
          have hF_t177 := HF_t177.out
          have hF_t178 := HF_t178.out
          have hF_t179 := HF_t179.out
          have hF_t180 := HF_t180.out
          have hF_t181 := HF_t181.out
          have hF_t182 := HF_t182.out
          have hs54 : w'.cell? ⟨gb184, 0, none⟩ = some (.float .f64 0) := (blk_cell BK184.out 0).trans rfl
          have hfs54 := blk_frozen BK184.out 0
          have hns54_0 := NB167_184.out
          have hns54_1 := NB168_184.out
          have hns54_2 := NB176_184.out
          have hms54_0 := NB184_167.out
          have hms54_1 := NB184_168.out
          have hms54_2 := NB184_176.out
          have hs55 : w'.cell? ⟨gb184, 1, none⟩ = some (.float .f64 0) := (blk_cell BK184.out 1).trans rfl
          have hfs55 := blk_frozen BK184.out 1
          have hns55_0 := NB167_184.out
          have hns55_1 := NB168_184.out
          have hns55_2 := NB176_184.out
          have hms55_0 := NB184_167.out
          have hms55_1 := NB184_168.out
          have hms55_2 := NB184_176.out
          refine skip_ (w1 := ?_) (by rfl) rfl ?_ ?_
          rotate_left
          · go_simp
            rfl
          refine hK.out _ _ ⟨b_t177, b_t178, b_t179, b_t180, b_t181, b_t182, gb184, m1_, m3_, m4_, m5_, m6_, m8_, (by rw [ha.out]; exact putSel_none (v := undef) rfl), (by (with_reducible repeat (first | refine blk_drewN ?_ _ | refine blk_drew ?_ | refine blk_alloc ?_ _)); refine blk_far ?_ NB167_184.out _; (with_reducible repeat (first | refine blk_drewN ?_ _ | refine blk_drew ?_ | refine blk_alloc ?_ _)); refine blk_far ?_ NB167_184.out _; (with_reducible repeat (first | refine blk_drewN ?_ _ | refine blk_drew ?_ | refine blk_alloc ?_ _)); exact BK167.out), (by (with_reducible repeat (first | refine blk_drewN ?_ _ | refine blk_drew ?_ | refine blk_alloc ?_ _)); refine blk_far ?_ NB168_184.out _; (with_reducible repeat (first | refine blk_drewN ?_ _ | refine blk_drew ?_ | refine blk_alloc ?_ _)); refine blk_far ?_ NB168_184.out _; (with_reducible repeat (first | refine blk_drewN ?_ _ | refine blk_drew ?_ | refine blk_alloc ?_ _)); exact BK168.out), (by (with_reducible repeat (first | refine blk_drewN ?_ _ | refine blk_drew ?_ | refine blk_alloc ?_ _)); refine blk_far ?_ NB176_184.out _; (with_reducible repeat (first | refine blk_drewN ?_ _ | refine blk_drew ?_ | refine blk_alloc ?_ _)); refine blk_far ?_ NB176_184.out _; (with_reducible repeat (first | refine blk_drewN ?_ _ | refine blk_drew ?_ | refine blk_alloc ?_ _)); exact BK176.out), (by repeat (first | (with_reducible first | exact HB.out | apply below_alloc | apply pw_below_drewN | apply below_drew1 | refine below_set ?_ GE167.out | refine below_set ?_ GE168.out | refine below_set ?_ GE176.out | refine below_set ?_ GE184.out) | exact HB.out)), fun _ => hF_t177, fun _ => hF_t178, fun _ => hF_t179, fun _ => hF_t180, fun _ => hF_t181, fun _ => hF_t182, fun _ h1_ => absurd ((up_self b 9).symm.trans h1_) (by decide), fun _ => GW184.out, fun _ => GE184.out, fun _ => NB167_184.out, fun _ => NB184_167.out, fun _ => NB168_184.out, fun _ => NB184_168.out, fun _ => NB176_184.out, fun _ => NB184_176.out, fun _ => (by (with_reducible repeat (first | refine blk_drewN ?_ _ | refine blk_drew ?_ | refine blk_alloc ?_ _)); refine blk_put (cs := #[.float .f64 b_t181, .float .f64 0]) ?_ 1 _ rfl; (with_reducible repeat (first | refine blk_drewN ?_ _ | refine blk_drew ?_ | refine blk_alloc ?_ _)); refine blk_put (cs := #[.float .f64 0, .float .f64 0]) ?_ 0 _ rfl; (with_reducible repeat (first | refine blk_drewN ?_ _ | refine blk_drew ?_ | refine blk_alloc ?_ _)); exact BK184.out), Q_X1_, Q_X3_, Q_X4_, Q_X5_, Q_X6_, Q_X8_⟩
        refine steps_cons ?_ ?_
        · rintro b a w' ⟨b_t177, b_t178, b_t179, b_t180, b_t181, b_t182, gb184, m1_, m3_, m4_, m5_, m6_, m8_, ha, Q_BK167, Q_BK168, Q_BK176, Q_HB, Q_HF_t177, Q_HF_t178, Q_HF_t179, Q_HF_t180, Q_HF_t181, Q_HF_t182, Q_BK184, Q_GW184, Q_GE184, Q_NB167_184, Q_NB184_167, Q_NB168_184, Q_NB184_168, Q_NB176_184, Q_NB184_176, Q_BK184_e9, Q_X1_, Q_X3_, Q_X4_, Q_X5_, Q_X6_, Q_X8_⟩ hb_ hon hoff
          refine ⟨_, rfl, fun K hK => ?_⟩
          have e24 : a.tmps[24]? = some (.bool t183) := by rw [ha]; exact putSel_on (e := (7, 24, .bool t183)) 7 rfl rfl (hon 7 (by kernel_rfl)) rfl
          replace ha := Aside0.mk ha
          have BK167 := Aside0.mk Q_BK167
          have BK168 := Aside0.mk Q_BK168
          have BK176 := Aside0.mk Q_BK176
          have HB := Aside0.mk Q_HB
          have HF_t177 := Aside0.mk (Q_HF_t177 (hon 1 (by kernel_rfl)))
          have HF_t178 := Aside0.mk (Q_HF_t178 (hon 1 (by kernel_rfl)))
          have HF_t179 := Aside0.mk (Q_HF_t179 (hon 3 (by kernel_rfl)))
          have HF_t180 := Aside0.mk (Q_HF_t180 (hon 3 (by kernel_rfl)))
          have HF_t181 := Aside0.mk (Q_HF_t181 (hon 4 (by kernel_rfl)))
          have HF_t182 := Aside0.mk (Q_HF_t182 (hon 4 (by kernel_rfl)))
          have GW184 := Aside0.mk (Q_GW184 (hon 8 (by kernel_rfl)))
          have GE184 := Aside0.mk (Q_GE184 (hon 8 (by kernel_rfl)))
          have NB167_184 := Aside0.mk (Q_NB167_184 (hon 8 (by kernel_rfl)))
          have NB184_167 := Aside0.mk (Q_NB184_167 (hon 8 (by kernel_rfl)))
          have NB168_184 := Aside0.mk (Q_NB168_184 (hon 8 (by kernel_rfl)))
          have NB184_168 := Aside0.mk (Q_NB184_168 (hon 8 (by kernel_rfl)))
          have NB176_184 := Aside0.mk (Q_NB176_184 (hon 8 (by kernel_rfl)))
          have NB184_176 := Aside0.mk (Q_NB184_176 (hon 8 (by kernel_rfl)))
          have BK184 := Aside0.mk (Q_BK184_e9 (hon 9 (by kernel_rfl)))
          refine value_ (w1 := w') (v := .bool t183) (by rfl) rfl ?_ ?_
          · go_simp
            (try simp only [i64_w])
            try rfl
          refine hK.out _ _ ⟨b_t177, b_t178, b_t179, b_t180, b_t181, b_t182, gb184, m1_, m3_, m4_, m5_, m6_, m8_, (by rw [ha.out]; exact putSel_upk 9 hb_ rfl rfl rfl), Q_BK167, Q_BK168, Q_BK176, Q_HB, Q_HF_t177, Q_HF_t178, Q_HF_t179, Q_HF_t180, Q_HF_t181, Q_HF_t182, fun _ h1_ => absurd ((hon 9 (by kernel_rfl)).symm.trans h1_) (by decide), Q_GW184, Q_GE184, Q_NB167_184, Q_NB184_167, Q_NB168_184, Q_NB184_168, Q_NB176_184, Q_NB184_176, Q_BK184_e9, Q_X1_, Q_X3_, Q_X4_, Q_X5_, Q_X6_, Q_X8_⟩
        exact steps_nil
      rintro b a w55 hall ⟨b_t177, b_t178, b_t179, b_t180, b_t181, b_t182, gb184, m1_, m3_, m4_, m5_, m6_, m8_, ha, Q_BK167, Q_BK168, Q_BK176, Q_HB, Q_HF_t177, Q_HF_t178, Q_HF_t179, Q_HF_t180, Q_HF_t181, Q_HF_t182, Q_BK184, Q_GW184, Q_GE184, Q_NB167_184, Q_NB184_167, Q_NB168_184, Q_NB184_168, Q_NB176_184, Q_NB184_176, Q_BK184_e9, Q_X1_, Q_X3_, Q_X4_, Q_X5_, Q_X6_, Q_X8_⟩
      clear BK167 BK168 BK176 HB
      have hb0_ := hall 0 (by kernel_rfl)
      have hb1_ := hall 1 (by kernel_rfl)
      have hb2_ := hall 2 (by kernel_rfl)
      have hb3_ := hall 3 (by kernel_rfl)
      have hb4_ := hall 4 (by kernel_rfl)
      have hb5_ := hall 5 (by kernel_rfl)
      have hb6_ := hall 6 (by kernel_rfl)
      have hb7_ := hall 7 (by kernel_rfl)
      have hb8_ := hall 8 (by kernel_rfl)
      have hb9_ := hall 9 (by kernel_rfl)
      have hb10_ := hall 10 (by kernel_rfl)
      subst ha
      obtain rfl := Q_X1_ hb1_
      obtain rfl := Q_X3_ hb3_
      obtain rfl := Q_X4_ hb4_
      obtain rfl := Q_X5_ hb5_
      obtain rfl := Q_X6_ hb6_
      obtain rfl := Q_X8_ hb8_
      simp only [putSel, hb0_, hb1_, hb2_, hb3_, hb4_, hb5_, hb6_, hb7_, hb8_, hb9_, hb10_, if_true, Act.put, List.setIfInBounds_toArray, List.set_cons_zero, List.set_cons_succ]
      have BK167 := Aside0.mk Q_BK167
      clear Q_BK167
      have BK168 := Aside0.mk Q_BK168
      clear Q_BK168
      have BK176 := Aside0.mk Q_BK176
      clear Q_BK176
      have HB := Aside0.mk Q_HB
      clear Q_HB
      have HF_t177 := Aside0.mk (Q_HF_t177 hb1_)
      clear Q_HF_t177
      have HF_t178 := Aside0.mk (Q_HF_t178 hb1_)
      clear Q_HF_t178
      have HF_t179 := Aside0.mk (Q_HF_t179 hb3_)
      clear Q_HF_t179
      have HF_t180 := Aside0.mk (Q_HF_t180 hb3_)
      clear Q_HF_t180
      have HF_t181 := Aside0.mk (Q_HF_t181 hb4_)
      clear Q_HF_t181
      have HF_t182 := Aside0.mk (Q_HF_t182 hb4_)
      clear Q_HF_t182
      clear Q_BK184
      have GW184 := Aside0.mk (Q_GW184 hb8_)
      clear Q_GW184
      have GE184 := Aside0.mk (Q_GE184 hb8_)
      clear Q_GE184
      have NB167_184 := Aside0.mk (Q_NB167_184 hb8_)
      clear Q_NB167_184
      have NB184_167 := Aside0.mk (Q_NB184_167 hb8_)
      clear Q_NB184_167
      have NB168_184 := Aside0.mk (Q_NB168_184 hb8_)
      clear Q_NB168_184
      have NB184_168 := Aside0.mk (Q_NB184_168 hb8_)
      clear Q_NB184_168
      have NB176_184 := Aside0.mk (Q_NB176_184 hb8_)
      clear Q_NB176_184
      have NB184_176 := Aside0.mk (Q_NB184_176 hb8_)
      clear Q_NB184_176
      have BK184 := Aside0.mk (Q_BK184_e9 hb9_)
      clear Q_BK184_e9
      clear hall hb0_ hb1_ hb2_ hb3_ hb4_ hb5_ hb6_ hb7_ hb8_ hb9_ hb10_
      have hF_t177 := HF_t177.out
      have hF_t178 := HF_t178.out
      have hF_t179 := HF_t179.out
      have hF_t180 := HF_t180.out
      have hF_t181 := HF_t181.out
      have hF_t182 := HF_t182.out
      have hnb56 := NB184_167.out
      have hnc56 := NB167_184.out
      have hnb57 := NB184_168.out
      have hnc57 := NB168_184.out
      have hnb58 := NB184_176.out
      have hnc58 := NB176_184.out
      have hcz59_0 : w55.cell? ⟨gb184, 0, none⟩ = some (.float .f64 b_t181) := (blk_cell BK184.out 0).trans rfl
      have hcz59_1 : w55.cell? ⟨gb184, 1, none⟩ = some (.float .f64 b_t182) := (blk_cell BK184.out 1).trans rfl
      have hfz59_0 := blk_frozen BK184.out 0
      have hfz59_1 := blk_frozen BK184.out 1
      have hnb60 := NB176_167.out
      have hnc60 := NB167_176.out
      have hnb61 := NB176_168.out
      have hnc61 := NB168_176.out
      have hcz62_0 : w55.cell? ⟨gb176, 0, none⟩ = some (.float .f64 b_t173) := (blk_cell BK176.out 0).trans rfl
      have hcz62_1 : w55.cell? ⟨gb176, 1, none⟩ = some (.float .f64 b_t174) := (blk_cell BK176.out 1).trans rfl
      have hfz62_0 := blk_frozen BK176.out 0
      have hfz62_1 := blk_frozen BK176.out 1
      try go_wp2_with (first | ((with_reducible refine gate_callee (f := 23) rfl ?_); refine goesL_ (some 27) rfl rfl Try.func23 (by kernel_rfl) rfl #[.agg #[.float .f64 b_t181, .float .f64 b_t182], .agg #[.float .f64 b_t173, .float .f64 b_t174]] rfl (by (try simp only [List.map_toArray, List.map_cons, List.map_nil]); first | done | rfl | (simp only [List.length_drop, List.length_take]; rfl)) ?_; (with_reducible refine (laws_eqCx.calls k b_t181 t181 b_t182 t182 b_t173 t173 b_t174 t174 true _ ?side1 ?side2 ?side3 ?side4 A9.out).mono ?_); (case side1 => exact hF_t181); (case side2 => exact hF_t182); (case side3 => exact hF_t173); (case side4 => exact hF_t174); rintro e w63 ⟨rfl, hb⟩; refine ⟨_, rfl, ?_⟩; have n0_ := Aside0.mk (blk_below (g := gb167) (o := .cells #[.float .f64 b_a0_0, .float .f64 b_a0_1] 24 (0, 0)) (by (with_reducible repeat (first | refine blk_drewN ?_ _ | refine blk_drew ?_ | refine blk_alloc ?_ _)); exact BK167.out) hb); have n1_ := Aside0.mk (blk_below (g := gb168) (o := .cells #[.float .f64 b_a1_0, .float .f64 b_a1_1] 24 (0, 0)) (by (with_reducible repeat (first | refine blk_drewN ?_ _ | refine blk_drew ?_ | refine blk_alloc ?_ _)); exact BK168.out) hb); have n2_ := Aside0.mk (blk_below (g := gb176) (o := .cells #[.float .f64 b_t173, .float .f64 b_t174] 26 (0, 0)) (by (with_reducible repeat (first | refine blk_drewN ?_ _ | refine blk_drew ?_ | refine blk_alloc ?_ _)); exact BK176.out) hb); have n3_ := Aside0.mk (blk_below (g := gb184) (o := .cells #[.float .f64 b_t181, .float .f64 b_t182] 26 (0, 0)) (by (with_reducible repeat (first | refine blk_drewN ?_ _ | refine blk_drew ?_ | refine blk_alloc ?_ _)); exact BK184.out) hb); have n4_ := Aside0.mk (below_step (by repeat (first | (with_reducible first | exact HB.out | apply below_alloc | apply pw_below_drewN | apply below_drew1 | refine below_set ?_ GE167.out | refine below_set ?_ GE168.out | refine below_set ?_ GE176.out | refine below_set ?_ GE184.out) | exact HB.out)) hb); clear BK167; clear BK168; clear BK176; clear BK184; clear HB; have BK167 := n0_; have BK168 := n1_; have BK176 := n2_; have BK184 := n3_; have HB := n4_; clear n0_ n1_ n2_ n3_ n4_; (try clear hb); (try clear hb2); (try clear hk); (try clear hi)))
      go_ret
      exact ⟨by first | rfl | (simp [errW_none, errW_some] <;> rfl) | (simp [*, errW_none, errW_some] <;> rfl), by repeat (first | (with_reducible first | exact HB.out | apply below_alloc | apply pw_below_drewN | apply below_drew1 | refine below_set ?_ GE167.out | refine below_set ?_ GE168.out | refine below_set ?_ GE176.out | refine below_set ?_ GE184.out) | exact HB.out)⟩
  · replace c10 := Bool.eq_false_iff.mpr c10
    subst c10
    have H1 : (some false) = some r := by rw [if_neg (show ¬ (false = true) by decide)] at H; exact H
    clear H
    have H := H1
    clear H1
    obtain rfl := Option.some.inj H
    go_enter Try.func13, Try.ntmps13
    try go_wp2_with (first | ((with_reducible refine gate_dst (N := 2) rfl ?_); refine box_event ?hg (N := 2) ?hd (cs := #[.float .f64 b_a0_0, .float .f64 b_a0_1]) (t := 24) ?hr ?_; (case hd => rfl); (case hg => rfl); (case hr => first | (go_simp; done) | (go_simp; rfl)); intro gb167 hg w64 hbox hb; have n0_ := Aside0.mk (below_step (by repeat (first | (with_reducible first | exact HB.out | apply below_alloc | apply pw_below_drewN | apply below_drew1) | exact HB.out)) hb); have n1_ := Aside0.mk (hbox); have n2_ := Aside0.mk ((by rw [hg]; exact (below_size (by repeat (first | (with_reducible first | exact HB.out | apply below_alloc | apply pw_below_drewN | apply below_drew1) | exact HB.out))) : w.heap.size ≤ gb167)); have n3_ := Aside0.mk ((by rw [hg]; exact (below_size (by repeat (first | (with_reducible first | exact HB.out | apply below_alloc | apply pw_below_drewN | apply below_drew1) | exact HB.out))) : w.heap.size ≤ gb167)); clear HB; have HB := n0_; have BK167 := n1_; have GW167 := n2_; have GE167 := n3_; clear n0_ n1_ n2_ n3_; clear hb hbox hg) | ((with_reducible refine gate_dst (N := 3) rfl ?_); refine box_event ?hg (N := 3) ?hd (cs := #[.float .f64 b_a1_0, .float .f64 b_a1_1]) (t := 24) ?hr ?_; (case hd => rfl); (case hg => rfl); (case hr => first | (go_simp; done) | (go_simp; rfl)); intro gb168 hg w65 hbox hb; have n0_ := Aside0.mk (blk_below (g := gb167) (o := .cells #[.float .f64 b_a0_0, .float .f64 b_a0_1] 24 (0, 0)) (by (with_reducible repeat (first | refine blk_drewN ?_ _ | refine blk_drew ?_ | refine blk_alloc ?_ _)); exact BK167.out) hb); have n1_ := Aside0.mk (below_step (by repeat (first | (with_reducible first | exact HB.out | apply below_alloc | apply pw_below_drewN | apply below_drew1 | refine below_set ?_ GE167.out) | exact HB.out)) hb); have n2_ := Aside0.mk (hbox); have n3_ := Aside0.mk ((by rw [hg]; exact (below_size (by repeat (first | (with_reducible first | exact HB.out | apply below_alloc | apply pw_below_drewN | apply below_drew1 | refine below_set ?_ GE167.out) | exact HB.out))) : w.heap.size ≤ gb168)); have n4_ := Aside0.mk ((by rw [hg]; exact (below_size (by repeat (first | (with_reducible first | exact HB.out | apply below_alloc | apply pw_below_drewN | apply below_drew1 | refine below_set ?_ GE167.out) | exact HB.out))) : w.heap.size ≤ gb168)); have n5_ := Aside0.mk ((by rw [hg]; exact Nat.ne_of_lt (blk_lt (g := gb167) (o := .cells #[.float .f64 b_a0_0, .float .f64 b_a0_1] 24 (0, 0)) (by (with_reducible repeat (first | refine blk_drewN ?_ _ | refine blk_drew ?_ | refine blk_alloc ?_ _)); exact BK167.out)) : gb167 ≠ gb168)); have n6_ := Aside0.mk ((by rw [hg]; exact Nat.ne_of_gt (blk_lt (g := gb167) (o := .cells #[.float .f64 b_a0_0, .float .f64 b_a0_1] 24 (0, 0)) (by (with_reducible repeat (first | refine blk_drewN ?_ _ | refine blk_drew ?_ | refine blk_alloc ?_ _)); exact BK167.out)) : gb168 ≠ gb167)); clear BK167; clear HB; have BK167 := n0_; have HB := n1_; have BK168 := n2_; have GW168 := n3_; have GE168 := n4_; have NB167_168 := n5_; have NB168_167 := n6_; clear n0_ n1_ n2_ n3_ n4_ n5_ n6_; clear hb hbox hg))
    have n0_ := Aside0.mk (blk_drew BK167.out)
    have n1_ := Aside0.mk (blk_drew BK168.out)
    have n2_ := Aside0.mk (below_drew1 HB.out)
    clear BK167
    clear BK168
    clear HB
    have BK167 := n0_
    have BK168 := n1_
    have HB := n2_
    clear n0_ n1_ n2_
    refine start_ (n := 11) (S := fun w' => True) (ds := []) #[false, false, false, false, false, false, false, false, false, false, false] (by kernel_rfl) rfl rfl trivial (fun hHeld => ?_); refine with_tabW laws_FnExactCxOver.tab1 laws_FnExactCxOver.bits1 (fun HT_ HW_ => ?_)
    generalize w65.drew = w66 at BK167 BK168 HB hHeld ⊢
    refine inv_at [0, 1, 2, 3, 4, 5, 6, 7, 8, 9, 10] (fun a0_ b a w' => ∃ (b_t169 : Nat) (b_t170 : Nat) (b_t171 : Nat) (b_t172 : Nat) (b_t173 : Nat) (b_t174 : Nat) (gb176 : Nat) (m1_ : Value) (m3_ : Value) (m4_ : Value) (m5_ : Value) (m6_ : Value) (m8_ : Value), a = putSel a0_ b [(0, 10, .agg #[.float .f64 b_a0_0, .float .f64 b_a0_1]), (1, 11, m1_), (2, 12, .agg #[.float .f64 b_a1_0, .float .f64 b_a1_1]), (3, 13, m3_), (4, 14, m4_), (5, 9, m5_), (6, 15, m6_), (7, 16, .bool t175), (8, 5, m8_), (10, 6, .bool t175)] ∧ (w'.heap[gb167]? = some (.cells #[.float .f64 b_a0_0, .float .f64 b_a0_1] 24 (0, 0))) ∧ (w'.heap[gb168]? = some (.cells #[.float .f64 b_a1_0, .float .f64 b_a1_1] 24 (0, 0))) ∧ (Below w.heap.size w w') ∧ (b 1 = true → cn .f64 b_t169 = t169) ∧ (b 1 = true → cn .f64 b_t170 = t170) ∧ (b 3 = true → cn .f64 b_t171 = t171) ∧ (b 3 = true → cn .f64 b_t172 = t172) ∧ (b 4 = true → cn .f64 b_t173 = t173) ∧ (b 4 = true → cn .f64 b_t174 = t174) ∧ (b 8 = true → b 9 = false → w'.heap[gb176]? = some (.cells #[.float .f64 0, .float .f64 0] 26 (0, 0))) ∧ (b 8 = true → w.heap.size ≤ gb176) ∧ (b 8 = true → w.heap.size ≤ gb176) ∧ (b 8 = true → gb167 ≠ gb176) ∧ (b 8 = true → gb176 ≠ gb167) ∧ (b 8 = true → gb168 ≠ gb176) ∧ (b 8 = true → gb176 ≠ gb168) ∧ (b 9 = true → w'.heap[gb176]? = some (.cells #[.float .f64 b_t173, .float .f64 b_t174] 26 (0, 0))) ∧ (b 1 = true → (m1_ : Value) = .agg #[.float .f64 b_t169, .float .f64 b_t170]) ∧ (b 3 = true → (m3_ : Value) = .agg #[.float .f64 b_t171, .float .f64 b_t172]) ∧ (b 4 = true → (m4_ : Value) = .tuple #[.agg #[.float .f64 b_t173, .float .f64 b_t174], .bool t175]) ∧ (b 5 = true → (m5_ : Value) = .tuple #[.agg #[.float .f64 b_t173, .float .f64 b_t174], .bool t175]) ∧ (b 6 = true → (m6_ : Value) = .agg #[.float .f64 b_t173, .float .f64 b_t174]) ∧ (b 8 = true → (m8_ : Value) = .pointer (some ⟨gb176, 0, none⟩))) HT_.out HW_.out (by kernel_rfl) (by kernel_rfl) ?_ ?_ ?_
    · exact ⟨0, 0, 0, 0, 0, 0, 0, .bool false, .bool false, .bool false, .bool false, .bool false, .bool false, by simp only [putSel, Bool.false_eq_true, if_false], BK167.out, BK168.out, HB.out, fun h_ => absurd h_ (by decide), fun h_ => absurd h_ (by decide), fun h_ => absurd h_ (by decide), fun h_ => absurd h_ (by decide), fun h_ => absurd h_ (by decide), fun h_ => absurd h_ (by decide), fun h_ => absurd h_ (by decide), fun h_ => absurd h_ (by decide), fun h_ => absurd h_ (by decide), fun h_ => absurd h_ (by decide), fun h_ => absurd h_ (by decide), fun h_ => absurd h_ (by decide), fun h_ => absurd h_ (by decide), fun h_ => absurd h_ (by decide), fun h_ => absurd h_ (by decide), fun h_ => absurd h_ (by decide), fun h_ => absurd h_ (by decide), fun h_ => absurd h_ (by decide), fun h_ => absurd h_ (by decide), fun h_ => absurd h_ (by decide)⟩
    · skip
      clear BK167 BK168 HB
      refine steps_cons ?_ ?_
      · rintro b a w' ⟨b_t169, b_t170, b_t171, b_t172, b_t173, b_t174, gb176, m1_, m3_, m4_, m5_, m6_, m8_, ha, Q_BK167, Q_BK168, Q_HB, Q_HF_t169, Q_HF_t170, Q_HF_t171, Q_HF_t172, Q_HF_t173, Q_HF_t174, Q_BK176, Q_GW176, Q_GE176, Q_NB167_176, Q_NB176_167, Q_NB168_176, Q_NB176_168, Q_BK176_e9, Q_X1_, Q_X3_, Q_X4_, Q_X5_, Q_X6_, Q_X8_⟩ hb_ hon hoff
        refine ⟨_, rfl, fun K hK => ?_⟩
        have e2 : a.tmps[2]? = some (.pointer (some ⟨gb167, 0, none⟩)) := by rw [ha]; exact (putSel_off rfl).trans rfl
        replace ha := Aside0.mk ha
        have BK167 := Aside0.mk Q_BK167
        have BK168 := Aside0.mk Q_BK168
        have HB := Aside0.mk Q_HB
        have hc0_ : w'.cell? ⟨gb167, 0, none⟩ = some (.float .f64 b_a0_0) := (blk_cell BK167.out 0).trans rfl
        have hc1_ : w'.cell? ⟨gb167, 1, none⟩ = some (.float .f64 b_a0_1) := (blk_cell BK167.out 1).trans rfl
        refine value_ (w1 := w') (v := .agg #[.float .f64 b_a0_0, .float .f64 b_a0_1]) (by rfl) rfl ?_ ?_
        · go_simp
          (try simp only [i64_w])
          try rfl
        refine hK.out _ _ ⟨b_t169, b_t170, b_t171, b_t172, b_t173, b_t174, gb176, m1_, m3_, m4_, m5_, m6_, m8_, (by rw [ha.out]; exact putSel_upk 0 hb_ rfl rfl rfl), Q_BK167, Q_BK168, Q_HB, fun h0_ => absurd ((hoff 1 (by kernel_rfl)).symm.trans h0_) (by decide), fun h0_ => absurd ((hoff 1 (by kernel_rfl)).symm.trans h0_) (by decide), fun h0_ => absurd ((hoff 3 (by kernel_rfl)).symm.trans h0_) (by decide), fun h0_ => absurd ((hoff 3 (by kernel_rfl)).symm.trans h0_) (by decide), fun h0_ => absurd ((hoff 4 (by kernel_rfl)).symm.trans h0_) (by decide), fun h0_ => absurd ((hoff 4 (by kernel_rfl)).symm.trans h0_) (by decide), Q_BK176, Q_GW176, Q_GE176, Q_NB167_176, Q_NB176_167, Q_NB168_176, Q_NB176_168, fun h0_ => absurd ((hoff 9 (by kernel_rfl)).symm.trans h0_) (by decide), fun h0_ => absurd ((hoff 1 (by kernel_rfl)).symm.trans h0_) (by decide), fun h0_ => absurd ((hoff 3 (by kernel_rfl)).symm.trans h0_) (by decide), fun h0_ => absurd ((hoff 4 (by kernel_rfl)).symm.trans h0_) (by decide), fun h0_ => absurd ((hoff 5 (by kernel_rfl)).symm.trans h0_) (by decide), fun h0_ => absurd ((hoff 6 (by kernel_rfl)).symm.trans h0_) (by decide), Q_X8_⟩
      refine steps_cons ?_ ?_
      · rintro b a w' ⟨b_t169, b_t170, b_t171, b_t172, b_t173, b_t174, gb176, m1_, m3_, m4_, m5_, m6_, m8_, ha, Q_BK167, Q_BK168, Q_HB, Q_HF_t169, Q_HF_t170, Q_HF_t171, Q_HF_t172, Q_HF_t173, Q_HF_t174, Q_BK176, Q_GW176, Q_GE176, Q_NB167_176, Q_NB176_167, Q_NB168_176, Q_NB176_168, Q_BK176_e9, Q_X1_, Q_X3_, Q_X4_, Q_X5_, Q_X6_, Q_X8_⟩ hb_ hon hoff
        refine ⟨_, rfl, fun K hK => ?_⟩
        have e10 : a.tmps[10]? = some (.agg #[.float .f64 b_a0_0, .float .f64 b_a0_1]) := by rw [ha]; exact putSel_on (e := (0, 10, .agg #[.float .f64 b_a0_0, .float .f64 b_a0_1])) 0 rfl rfl (hon 0 (by kernel_rfl)) rfl
        replace ha := Aside0.mk ha
        have BK167 := Aside0.mk Q_BK167
        have BK168 := Aside0.mk Q_BK168
        have HB := Aside0.mk Q_HB
        refine goes_ Try.func16 (by kernel_rfl) rfl #[.agg #[.float .f64 b_a0_0, .float .f64 b_a0_1]] (by rfl) rfl rfl (by first | (simp only [List.map_toArray, List.map_cons, List.map_nil, Act.eval, Array.getD_eq_getD_getElem?, Option.getD_some, e10]; done) | (simp only [List.map_toArray, List.map_cons, List.map_nil, Act.eval, Array.getD_eq_getD_getElem?, Option.getD_some, e10]; rfl)) ?_
        with_reducible refine (laws_toCx.calls b_a0_0 a0_0 b_a0_1 a0_1 t169 t170 _ ?side1 ?side2 A3.out).mono ?_
        (case side1 => exact hF_a0_0)
        (case side2 => exact hF_a0_1)
        rintro e w67 ⟨b_t169, b_t170, rfl, hF_t169, hF_t170, hb⟩
        refine ⟨_, rfl, ?_⟩
        have n0_ := Aside0.mk (blk_below (g := gb167) (o := .cells #[.float .f64 b_a0_0, .float .f64 b_a0_1] 24 (0, 0)) (by (with_reducible repeat (first | refine blk_drewN ?_ _ | refine blk_drew ?_ | refine blk_alloc ?_ _)); exact BK167.out) hb)
        have n1_ := Aside0.mk (blk_below (g := gb168) (o := .cells #[.float .f64 b_a1_0, .float .f64 b_a1_1] 24 (0, 0)) (by (with_reducible repeat (first | refine blk_drewN ?_ _ | refine blk_drew ?_ | refine blk_alloc ?_ _)); exact BK168.out) hb)
        have n2_ := Aside0.mk (below_step (by repeat (first | (with_reducible first | exact HB.out | apply below_alloc | apply pw_below_drewN | apply below_drew1 | refine below_set ?_ GE167.out | refine below_set ?_ GE168.out) | exact HB.out)) hb)
        have z_BK176 := fun (h0_ : b 8 = true) (h1_ : b 9 = false) => (show w67.heap[gb176]? = some (.cells #[.float .f64 0, .float .f64 0] 26 (0, 0)) from by first | exact (blk_below (g := gb176) (o := .cells #[.float .f64 0, .float .f64 0] 26 (0, 0)) (by (with_reducible repeat (first | refine blk_drewN ?_ _ | refine blk_drew ?_ | refine blk_alloc ?_ _)); exact (Q_BK176 h0_ h1_)) hb))
        clear BK167
        clear BK168
        clear HB
        have BK167 := n0_
        have BK168 := n1_
        have HB := n2_
        clear n0_ n1_ n2_
        (try clear hb)
        (try clear hb2)
        (try clear hk)
        (try clear hi)
        refine hK.out _ _ ⟨b_t169, b_t170, b_t171, b_t172, b_t173, b_t174, gb176, (.agg #[.float .f64 b_t169, .float .f64 b_t170]), m3_, m4_, m5_, m6_, m8_, (by rw [ha.out]; exact putSel_upk 1 hb_ rfl rfl rfl), (by (with_reducible repeat (first | refine blk_drewN ?_ _ | refine blk_drew ?_ | refine blk_alloc ?_ _)); exact BK167.out), (by (with_reducible repeat (first | refine blk_drewN ?_ _ | refine blk_drew ?_ | refine blk_alloc ?_ _)); exact BK168.out), (by repeat (first | (with_reducible first | exact HB.out | apply below_alloc | apply pw_below_drewN | apply below_drew1 | refine below_set ?_ GE167.out | refine below_set ?_ GE168.out) | exact HB.out)), fun _ => hF_t169, fun _ => hF_t170, fun h0_ => absurd ((hoff 3 (by kernel_rfl)).symm.trans h0_) (by decide), fun h0_ => absurd ((hoff 3 (by kernel_rfl)).symm.trans h0_) (by decide), fun h0_ => absurd ((hoff 4 (by kernel_rfl)).symm.trans h0_) (by decide), fun h0_ => absurd ((hoff 4 (by kernel_rfl)).symm.trans h0_) (by decide), z_BK176, Q_GW176, Q_GE176, Q_NB167_176, Q_NB176_167, Q_NB168_176, Q_NB176_168, fun h0_ => absurd ((hoff 9 (by kernel_rfl)).symm.trans h0_) (by decide), fun _ => rfl, fun h0_ => absurd ((hoff 3 (by kernel_rfl)).symm.trans h0_) (by decide), fun h0_ => absurd ((hoff 4 (by kernel_rfl)).symm.trans h0_) (by decide), fun h0_ => absurd ((hoff 5 (by kernel_rfl)).symm.trans h0_) (by decide), fun h0_ => absurd ((hoff 6 (by kernel_rfl)).symm.trans h0_) (by decide), Q_X8_⟩
      refine steps_cons ?_ ?_
      · rintro b a w' ⟨b_t169, b_t170, b_t171, b_t172, b_t173, b_t174, gb176, m1_, m3_, m4_, m5_, m6_, m8_, ha, Q_BK167, Q_BK168, Q_HB, Q_HF_t169, Q_HF_t170, Q_HF_t171, Q_HF_t172, Q_HF_t173, Q_HF_t174, Q_BK176, Q_GW176, Q_GE176, Q_NB167_176, Q_NB176_167, Q_NB168_176, Q_NB176_168, Q_BK176_e9, Q_X1_, Q_X3_, Q_X4_, Q_X5_, Q_X6_, Q_X8_⟩ hb_ hon hoff
        refine ⟨_, rfl, fun K hK => ?_⟩
        have e3 : a.tmps[3]? = some (.pointer (some ⟨gb168, 0, none⟩)) := by rw [ha]; exact (putSel_off rfl).trans rfl
        replace ha := Aside0.mk ha
        have BK167 := Aside0.mk Q_BK167
        have BK168 := Aside0.mk Q_BK168
        have HB := Aside0.mk Q_HB
        have hc0_ : w'.cell? ⟨gb168, 0, none⟩ = some (.float .f64 b_a1_0) := (blk_cell BK168.out 0).trans rfl
        have hc1_ : w'.cell? ⟨gb168, 1, none⟩ = some (.float .f64 b_a1_1) := (blk_cell BK168.out 1).trans rfl
        refine value_ (w1 := w') (v := .agg #[.float .f64 b_a1_0, .float .f64 b_a1_1]) (by rfl) rfl ?_ ?_
        · go_simp
          (try simp only [i64_w])
          try rfl
        refine hK.out _ _ ⟨b_t169, b_t170, b_t171, b_t172, b_t173, b_t174, gb176, m1_, m3_, m4_, m5_, m6_, m8_, (by rw [ha.out]; exact putSel_upk 2 hb_ rfl rfl rfl), Q_BK167, Q_BK168, Q_HB, Q_HF_t169, Q_HF_t170, fun h0_ => absurd ((hoff 3 (by kernel_rfl)).symm.trans h0_) (by decide), fun h0_ => absurd ((hoff 3 (by kernel_rfl)).symm.trans h0_) (by decide), fun h0_ => absurd ((hoff 4 (by kernel_rfl)).symm.trans h0_) (by decide), fun h0_ => absurd ((hoff 4 (by kernel_rfl)).symm.trans h0_) (by decide), Q_BK176, Q_GW176, Q_GE176, Q_NB167_176, Q_NB176_167, Q_NB168_176, Q_NB176_168, fun h0_ => absurd ((hoff 9 (by kernel_rfl)).symm.trans h0_) (by decide), Q_X1_, fun h0_ => absurd ((hoff 3 (by kernel_rfl)).symm.trans h0_) (by decide), fun h0_ => absurd ((hoff 4 (by kernel_rfl)).symm.trans h0_) (by decide), fun h0_ => absurd ((hoff 5 (by kernel_rfl)).symm.trans h0_) (by decide), fun h0_ => absurd ((hoff 6 (by kernel_rfl)).symm.trans h0_) (by decide), Q_X8_⟩
      refine steps_cons ?_ ?_
      · rintro b a w' ⟨b_t169, b_t170, b_t171, b_t172, b_t173, b_t174, gb176, m1_, m3_, m4_, m5_, m6_, m8_, ha, Q_BK167, Q_BK168, Q_HB, Q_HF_t169, Q_HF_t170, Q_HF_t171, Q_HF_t172, Q_HF_t173, Q_HF_t174, Q_BK176, Q_GW176, Q_GE176, Q_NB167_176, Q_NB176_167, Q_NB168_176, Q_NB176_168, Q_BK176_e9, Q_X1_, Q_X3_, Q_X4_, Q_X5_, Q_X6_, Q_X8_⟩ hb_ hon hoff
        refine ⟨_, rfl, fun K hK => ?_⟩
        have e12 : a.tmps[12]? = some (.agg #[.float .f64 b_a1_0, .float .f64 b_a1_1]) := by rw [ha]; exact putSel_on (e := (2, 12, .agg #[.float .f64 b_a1_0, .float .f64 b_a1_1])) 2 rfl rfl (hon 2 (by kernel_rfl)) rfl
        replace ha := Aside0.mk ha
        have BK167 := Aside0.mk Q_BK167
        have BK168 := Aside0.mk Q_BK168
        have HB := Aside0.mk Q_HB
        have HF_t169 := Aside0.mk (Q_HF_t169 (hon 1 (by kernel_rfl)))
        have HF_t170 := Aside0.mk (Q_HF_t170 (hon 1 (by kernel_rfl)))
        have hF_t169 := HF_t169.out
        have hF_t170 := HF_t170.out
        refine goes_ Try.func16 (by kernel_rfl) rfl #[.agg #[.float .f64 b_a1_0, .float .f64 b_a1_1]] (by rfl) rfl rfl (by first | (simp only [List.map_toArray, List.map_cons, List.map_nil, Act.eval, Array.getD_eq_getD_getElem?, Option.getD_some, e12]; done) | (simp only [List.map_toArray, List.map_cons, List.map_nil, Act.eval, Array.getD_eq_getD_getElem?, Option.getD_some, e12]; rfl)) ?_
        with_reducible refine (laws_toCx.calls b_a1_0 a1_0 b_a1_1 a1_1 t171 t172 _ ?side1 ?side2 A4.out).mono ?_
        (case side1 => exact hF_a1_0)
        (case side2 => exact hF_a1_1)
        rintro e w69 ⟨b_t171, b_t172, rfl, hF_t171, hF_t172, hb⟩
        refine ⟨_, rfl, ?_⟩
        have n0_ := Aside0.mk (blk_below (g := gb167) (o := .cells #[.float .f64 b_a0_0, .float .f64 b_a0_1] 24 (0, 0)) (by (with_reducible repeat (first | refine blk_drewN ?_ _ | refine blk_drew ?_ | refine blk_alloc ?_ _)); exact BK167.out) hb)
        have n1_ := Aside0.mk (blk_below (g := gb168) (o := .cells #[.float .f64 b_a1_0, .float .f64 b_a1_1] 24 (0, 0)) (by (with_reducible repeat (first | refine blk_drewN ?_ _ | refine blk_drew ?_ | refine blk_alloc ?_ _)); exact BK168.out) hb)
        have n2_ := Aside0.mk (below_step (by repeat (first | (with_reducible first | exact HB.out | apply below_alloc | apply pw_below_drewN | apply below_drew1 | refine below_set ?_ GE167.out | refine below_set ?_ GE168.out) | exact HB.out)) hb)
        have z_BK176 := fun (h0_ : b 8 = true) (h1_ : b 9 = false) => (show w69.heap[gb176]? = some (.cells #[.float .f64 0, .float .f64 0] 26 (0, 0)) from by first | exact (blk_below (g := gb176) (o := .cells #[.float .f64 0, .float .f64 0] 26 (0, 0)) (by (with_reducible repeat (first | refine blk_drewN ?_ _ | refine blk_drew ?_ | refine blk_alloc ?_ _)); exact (Q_BK176 h0_ h1_)) hb))
        clear BK167
        clear BK168
        clear HB
        have BK167 := n0_
        have BK168 := n1_
        have HB := n2_
        clear n0_ n1_ n2_
        (try clear hb)
        (try clear hb2)
        (try clear hk)
        (try clear hi)
        refine hK.out _ _ ⟨b_t169, b_t170, b_t171, b_t172, b_t173, b_t174, gb176, m1_, (.agg #[.float .f64 b_t171, .float .f64 b_t172]), m4_, m5_, m6_, m8_, (by rw [ha.out]; exact putSel_upk 3 hb_ rfl rfl rfl), (by (with_reducible repeat (first | refine blk_drewN ?_ _ | refine blk_drew ?_ | refine blk_alloc ?_ _)); exact BK167.out), (by (with_reducible repeat (first | refine blk_drewN ?_ _ | refine blk_drew ?_ | refine blk_alloc ?_ _)); exact BK168.out), (by repeat (first | (with_reducible first | exact HB.out | apply below_alloc | apply pw_below_drewN | apply below_drew1 | refine below_set ?_ GE167.out | refine below_set ?_ GE168.out) | exact HB.out)), fun _ => hF_t169, fun _ => hF_t170, fun _ => hF_t171, fun _ => hF_t172, fun h0_ => absurd ((hoff 4 (by kernel_rfl)).symm.trans h0_) (by decide), fun h0_ => absurd ((hoff 4 (by kernel_rfl)).symm.trans h0_) (by decide), z_BK176, Q_GW176, Q_GE176, Q_NB167_176, Q_NB176_167, Q_NB168_176, Q_NB176_168, fun h0_ => absurd ((hoff 9 (by kernel_rfl)).symm.trans h0_) (by decide), Q_X1_, fun _ => rfl, fun h0_ => absurd ((hoff 4 (by kernel_rfl)).symm.trans h0_) (by decide), fun h0_ => absurd ((hoff 5 (by kernel_rfl)).symm.trans h0_) (by decide), fun h0_ => absurd ((hoff 6 (by kernel_rfl)).symm.trans h0_) (by decide), Q_X8_⟩
      refine steps_cons ?_ ?_
      · rintro b a w' ⟨b_t169, b_t170, b_t171, b_t172, b_t173, b_t174, gb176, m1_, m3_, m4_, m5_, m6_, m8_, ha, Q_BK167, Q_BK168, Q_HB, Q_HF_t169, Q_HF_t170, Q_HF_t171, Q_HF_t172, Q_HF_t173, Q_HF_t174, Q_BK176, Q_GW176, Q_GE176, Q_NB167_176, Q_NB176_167, Q_NB168_176, Q_NB176_168, Q_BK176_e9, Q_X1_, Q_X3_, Q_X4_, Q_X5_, Q_X6_, Q_X8_⟩ hb_ hon hoff
        refine ⟨_, rfl, fun K hK => ?_⟩
        have e11 : a.tmps[11]? = some (m1_) := by rw [ha]; exact putSel_on (e := (1, 11, m1_)) 1 rfl rfl (hon 1 (by kernel_rfl)) rfl
        rw [Q_X1_ (hon 1 (by kernel_rfl))] at e11
        have e13 : a.tmps[13]? = some (m3_) := by rw [ha]; exact putSel_on (e := (3, 13, m3_)) 3 rfl rfl (hon 3 (by kernel_rfl)) rfl
        rw [Q_X3_ (hon 3 (by kernel_rfl))] at e13
        replace ha := Aside0.mk ha
        have BK167 := Aside0.mk Q_BK167
        have BK168 := Aside0.mk Q_BK168
        have HB := Aside0.mk Q_HB
        have HF_t169 := Aside0.mk (Q_HF_t169 (hon 1 (by kernel_rfl)))
        have HF_t170 := Aside0.mk (Q_HF_t170 (hon 1 (by kernel_rfl)))
        have HF_t171 := Aside0.mk (Q_HF_t171 (hon 3 (by kernel_rfl)))
        have HF_t172 := Aside0.mk (Q_HF_t172 (hon 3 (by kernel_rfl)))
        have hF_t169 := HF_t169.out
        have hF_t170 := HF_t170.out
        have hF_t171 := HF_t171.out
        have hF_t172 := HF_t172.out
        refine goes_ Try.func43 (by kernel_rfl) rfl #[.agg #[.float .f64 b_t169, .float .f64 b_t170], .agg #[.float .f64 b_t171, .float .f64 b_t172]] (by rfl) rfl rfl (by first | (simp only [List.map_toArray, List.map_cons, List.map_nil, Act.eval, Array.getD_eq_getD_getElem?, Option.getD_some, e11, e13]; done) | (simp only [List.map_toArray, List.map_cons, List.map_nil, Act.eval, Array.getD_eq_getD_getElem?, Option.getD_some, e11, e13]; rfl)) ?_
        with_reducible refine (spec_CxOver.calls k b_t169 t169 b_t170 t170 b_t171 t171 b_t172 t172 t173 t174 t175 _ ?side1 ?side2 ?side3 ?side4 A5.out).mono ?_
        (case side1 => exact hF_t169)
        (case side2 => exact hF_t170)
        (case side3 => exact hF_t171)
        (case side4 => exact hF_t172)
        rintro e w70 ⟨b_t173, b_t174, rfl, hF_t173, hF_t174, hb⟩
        refine ⟨_, rfl, ?_⟩
        have n0_ := Aside0.mk (blk_below (g := gb167) (o := .cells #[.float .f64 b_a0_0, .float .f64 b_a0_1] 24 (0, 0)) (by (with_reducible repeat (first | refine blk_drewN ?_ _ | refine blk_drew ?_ | refine blk_alloc ?_ _)); exact BK167.out) hb)
        have n1_ := Aside0.mk (blk_below (g := gb168) (o := .cells #[.float .f64 b_a1_0, .float .f64 b_a1_1] 24 (0, 0)) (by (with_reducible repeat (first | refine blk_drewN ?_ _ | refine blk_drew ?_ | refine blk_alloc ?_ _)); exact BK168.out) hb)
        have n2_ := Aside0.mk (below_step (by repeat (first | (with_reducible first | exact HB.out | apply below_alloc | apply pw_below_drewN | apply below_drew1 | refine below_set ?_ GE167.out | refine below_set ?_ GE168.out) | exact HB.out)) hb)
        have z_BK176 := fun (h0_ : b 8 = true) (h1_ : b 9 = false) => (show w70.heap[gb176]? = some (.cells #[.float .f64 0, .float .f64 0] 26 (0, 0)) from by first | exact (blk_below (g := gb176) (o := .cells #[.float .f64 0, .float .f64 0] 26 (0, 0)) (by (with_reducible repeat (first | refine blk_drewN ?_ _ | refine blk_drew ?_ | refine blk_alloc ?_ _)); exact (Q_BK176 h0_ h1_)) hb))
        clear BK167
        clear BK168
        clear HB
        have BK167 := n0_
        have BK168 := n1_
        have HB := n2_
        clear n0_ n1_ n2_
        (try clear hb)
        (try clear hb2)
        (try clear hk)
        (try clear hi)
        refine hK.out _ _ ⟨b_t169, b_t170, b_t171, b_t172, b_t173, b_t174, gb176, m1_, m3_, (.tuple #[.agg #[.float .f64 b_t173, .float .f64 b_t174], .bool t175]), m5_, m6_, m8_, (by rw [ha.out]; exact putSel_upk 4 hb_ rfl rfl rfl), (by (with_reducible repeat (first | refine blk_drewN ?_ _ | refine blk_drew ?_ | refine blk_alloc ?_ _)); exact BK167.out), (by (with_reducible repeat (first | refine blk_drewN ?_ _ | refine blk_drew ?_ | refine blk_alloc ?_ _)); exact BK168.out), (by repeat (first | (with_reducible first | exact HB.out | apply below_alloc | apply pw_below_drewN | apply below_drew1 | refine below_set ?_ GE167.out | refine below_set ?_ GE168.out) | exact HB.out)), fun _ => hF_t169, fun _ => hF_t170, fun _ => hF_t171, fun _ => hF_t172, fun _ => hF_t173, fun _ => hF_t174, z_BK176, Q_GW176, Q_GE176, Q_NB167_176, Q_NB176_167, Q_NB168_176, Q_NB176_168, fun h0_ => absurd ((hoff 9 (by kernel_rfl)).symm.trans h0_) (by decide), Q_X1_, Q_X3_, fun _ => rfl, fun h0_ => absurd ((hoff 5 (by kernel_rfl)).symm.trans h0_) (by decide), fun h0_ => absurd ((hoff 6 (by kernel_rfl)).symm.trans h0_) (by decide), Q_X8_⟩
      refine steps_cons ?_ ?_
      · rintro b a w' ⟨b_t169, b_t170, b_t171, b_t172, b_t173, b_t174, gb176, m1_, m3_, m4_, m5_, m6_, m8_, ha, Q_BK167, Q_BK168, Q_HB, Q_HF_t169, Q_HF_t170, Q_HF_t171, Q_HF_t172, Q_HF_t173, Q_HF_t174, Q_BK176, Q_GW176, Q_GE176, Q_NB167_176, Q_NB176_167, Q_NB168_176, Q_NB176_168, Q_BK176_e9, Q_X1_, Q_X3_, Q_X4_, Q_X5_, Q_X6_, Q_X8_⟩ hb_ hon hoff
        refine ⟨_, rfl, fun K hK => ?_⟩
        have e14 : a.tmps[14]? = some (m4_) := by rw [ha]; exact putSel_on (e := (4, 14, m4_)) 4 rfl rfl (hon 4 (by kernel_rfl)) rfl
        rw [Q_X4_ (hon 4 (by kernel_rfl))] at e14
        replace ha := Aside0.mk ha
        have BK167 := Aside0.mk Q_BK167
        have BK168 := Aside0.mk Q_BK168
        have HB := Aside0.mk Q_HB
        have HF_t169 := Aside0.mk (Q_HF_t169 (hon 1 (by kernel_rfl)))
        have HF_t170 := Aside0.mk (Q_HF_t170 (hon 1 (by kernel_rfl)))
        have HF_t171 := Aside0.mk (Q_HF_t171 (hon 3 (by kernel_rfl)))
        have HF_t172 := Aside0.mk (Q_HF_t172 (hon 3 (by kernel_rfl)))
        have HF_t173 := Aside0.mk (Q_HF_t173 (hon 4 (by kernel_rfl)))
        have HF_t174 := Aside0.mk (Q_HF_t174 (hon 4 (by kernel_rfl)))
        refine value_ (w1 := w') (v := .tuple #[.agg #[.float .f64 b_t173, .float .f64 b_t174], .bool t175]) (by rfl) rfl ?_ ?_
        · go_simp
          (try simp only [i64_w])
          try rfl
        refine hK.out _ _ ⟨b_t169, b_t170, b_t171, b_t172, b_t173, b_t174, gb176, m1_, m3_, m4_, (.tuple #[.agg #[.float .f64 b_t173, .float .f64 b_t174], .bool t175]), m6_, m8_, (by rw [ha.out]; exact putSel_upk 5 hb_ rfl rfl rfl), Q_BK167, Q_BK168, Q_HB, Q_HF_t169, Q_HF_t170, Q_HF_t171, Q_HF_t172, Q_HF_t173, Q_HF_t174, Q_BK176, Q_GW176, Q_GE176, Q_NB167_176, Q_NB176_167, Q_NB168_176, Q_NB176_168, fun h0_ => absurd ((hoff 9 (by kernel_rfl)).symm.trans h0_) (by decide), Q_X1_, Q_X3_, Q_X4_, fun _ => rfl, fun h0_ => absurd ((hoff 6 (by kernel_rfl)).symm.trans h0_) (by decide), Q_X8_⟩
      refine steps_cons ?_ ?_
      · rintro b a w' ⟨b_t169, b_t170, b_t171, b_t172, b_t173, b_t174, gb176, m1_, m3_, m4_, m5_, m6_, m8_, ha, Q_BK167, Q_BK168, Q_HB, Q_HF_t169, Q_HF_t170, Q_HF_t171, Q_HF_t172, Q_HF_t173, Q_HF_t174, Q_BK176, Q_GW176, Q_GE176, Q_NB167_176, Q_NB176_167, Q_NB168_176, Q_NB176_168, Q_BK176_e9, Q_X1_, Q_X3_, Q_X4_, Q_X5_, Q_X6_, Q_X8_⟩ hb_ hon hoff
        refine ⟨_, rfl, fun K hK => ?_⟩
        have e9 : a.tmps[9]? = some (m5_) := by rw [ha]; exact putSel_on (e := (5, 9, m5_)) 5 rfl rfl (hon 5 (by kernel_rfl)) rfl
        rw [Q_X5_ (hon 5 (by kernel_rfl))] at e9
        replace ha := Aside0.mk ha
        have BK167 := Aside0.mk Q_BK167
        have BK168 := Aside0.mk Q_BK168
        have HB := Aside0.mk Q_HB
        have HF_t169 := Aside0.mk (Q_HF_t169 (hon 1 (by kernel_rfl)))
        have HF_t170 := Aside0.mk (Q_HF_t170 (hon 1 (by kernel_rfl)))
        have HF_t171 := Aside0.mk (Q_HF_t171 (hon 3 (by kernel_rfl)))
        have HF_t172 := Aside0.mk (Q_HF_t172 (hon 3 (by kernel_rfl)))
        have HF_t173 := Aside0.mk (Q_HF_t173 (hon 4 (by kernel_rfl)))
        have HF_t174 := Aside0.mk (Q_HF_t174 (hon 4 (by kernel_rfl)))
        refine value_ (w1 := w') (v := .agg #[.float .f64 b_t173, .float .f64 b_t174]) (by rfl) rfl ?_ ?_
        · go_simp
          (try simp only [i64_w])
          try rfl
        refine hK.out _ _ ⟨b_t169, b_t170, b_t171, b_t172, b_t173, b_t174, gb176, m1_, m3_, m4_, m5_, (.agg #[.float .f64 b_t173, .float .f64 b_t174]), m8_, (by rw [ha.out]; exact putSel_upk 6 hb_ rfl rfl rfl), Q_BK167, Q_BK168, Q_HB, Q_HF_t169, Q_HF_t170, Q_HF_t171, Q_HF_t172, Q_HF_t173, Q_HF_t174, Q_BK176, Q_GW176, Q_GE176, Q_NB167_176, Q_NB176_167, Q_NB168_176, Q_NB176_168, fun h0_ => absurd ((hoff 9 (by kernel_rfl)).symm.trans h0_) (by decide), Q_X1_, Q_X3_, Q_X4_, Q_X5_, fun _ => rfl, Q_X8_⟩
      refine steps_cons ?_ ?_
      · rintro b a w' ⟨b_t169, b_t170, b_t171, b_t172, b_t173, b_t174, gb176, m1_, m3_, m4_, m5_, m6_, m8_, ha, Q_BK167, Q_BK168, Q_HB, Q_HF_t169, Q_HF_t170, Q_HF_t171, Q_HF_t172, Q_HF_t173, Q_HF_t174, Q_BK176, Q_GW176, Q_GE176, Q_NB167_176, Q_NB176_167, Q_NB168_176, Q_NB176_168, Q_BK176_e9, Q_X1_, Q_X3_, Q_X4_, Q_X5_, Q_X6_, Q_X8_⟩ hb_ hon hoff
        refine ⟨_, rfl, fun K hK => ?_⟩
        have e9 : a.tmps[9]? = some (m5_) := by rw [ha]; exact putSel_on (e := (5, 9, m5_)) 5 rfl rfl (hon 5 (by kernel_rfl)) rfl
        rw [Q_X5_ (hon 5 (by kernel_rfl))] at e9
        replace ha := Aside0.mk ha
        have BK167 := Aside0.mk Q_BK167
        have BK168 := Aside0.mk Q_BK168
        have HB := Aside0.mk Q_HB
        have HF_t169 := Aside0.mk (Q_HF_t169 (hon 1 (by kernel_rfl)))
        have HF_t170 := Aside0.mk (Q_HF_t170 (hon 1 (by kernel_rfl)))
        have HF_t171 := Aside0.mk (Q_HF_t171 (hon 3 (by kernel_rfl)))
        have HF_t172 := Aside0.mk (Q_HF_t172 (hon 3 (by kernel_rfl)))
        have HF_t173 := Aside0.mk (Q_HF_t173 (hon 4 (by kernel_rfl)))
        have HF_t174 := Aside0.mk (Q_HF_t174 (hon 4 (by kernel_rfl)))
        refine value_ (w1 := w') (v := .bool t175) (by rfl) rfl ?_ ?_
        · go_simp
          (try simp only [i64_w])
          try rfl
        refine hK.out _ _ ⟨b_t169, b_t170, b_t171, b_t172, b_t173, b_t174, gb176, m1_, m3_, m4_, m5_, m6_, m8_, (by rw [ha.out]; exact putSel_upk 7 hb_ rfl rfl rfl), Q_BK167, Q_BK168, Q_HB, Q_HF_t169, Q_HF_t170, Q_HF_t171, Q_HF_t172, Q_HF_t173, Q_HF_t174, Q_BK176, Q_GW176, Q_GE176, Q_NB167_176, Q_NB176_167, Q_NB168_176, Q_NB176_168, Q_BK176_e9, Q_X1_, Q_X3_, Q_X4_, Q_X5_, Q_X6_, Q_X8_⟩
      refine steps_cons ?_ ?_
      · rintro b a w' ⟨b_t169, b_t170, b_t171, b_t172, b_t173, b_t174, gb176, m1_, m3_, m4_, m5_, m6_, m8_, ha, Q_BK167, Q_BK168, Q_HB, Q_HF_t169, Q_HF_t170, Q_HF_t171, Q_HF_t172, Q_HF_t173, Q_HF_t174, Q_BK176, Q_GW176, Q_GE176, Q_NB167_176, Q_NB176_167, Q_NB168_176, Q_NB176_168, Q_BK176_e9, Q_X1_, Q_X3_, Q_X4_, Q_X5_, Q_X6_, Q_X8_⟩ hb_ hon hoff
        refine ⟨_, rfl, fun K hK => ?_⟩
        replace ha := Aside0.mk ha
        have BK167 := Aside0.mk Q_BK167
        have BK168 := Aside0.mk Q_BK168
        have HB := Aside0.mk Q_HB
        refine box_step ?hg (N := 5) ?hd (cs := #[.float .f64 0, .float .f64 0]) (t := 26) ?hr ?_; (case hd => rfl); (case hg => rfl); (case hr => first | (go_simp; done) | (go_simp; rfl))
        intro gb176 hg w67 hbox hb
        have n0_ := Aside0.mk (blk_below (g := gb167) (o := .cells #[.float .f64 b_a0_0, .float .f64 b_a0_1] 24 (0, 0)) (by (with_reducible repeat (first | refine blk_drewN ?_ _ | refine blk_drew ?_ | refine blk_alloc ?_ _)); exact BK167.out) hb)
        have n1_ := Aside0.mk (blk_below (g := gb168) (o := .cells #[.float .f64 b_a1_0, .float .f64 b_a1_1] 24 (0, 0)) (by (with_reducible repeat (first | refine blk_drewN ?_ _ | refine blk_drew ?_ | refine blk_alloc ?_ _)); exact BK168.out) hb)
        have n2_ := Aside0.mk (below_step (by repeat (first | (with_reducible first | exact HB.out | apply below_alloc | apply pw_below_drewN | apply below_drew1 | refine below_set ?_ GE167.out | refine below_set ?_ GE168.out) | exact HB.out)) hb)
        have n3_ := Aside0.mk (hbox)
        have n4_ := Aside0.mk ((by rw [hg]; exact (below_size (by repeat (first | (with_reducible first | exact HB.out | apply below_alloc | apply pw_below_drewN | apply below_drew1 | refine below_set ?_ GE167.out | refine below_set ?_ GE168.out) | exact HB.out))) : w.heap.size ≤ gb176))
        have n5_ := Aside0.mk ((by rw [hg]; exact (below_size (by repeat (first | (with_reducible first | exact HB.out | apply below_alloc | apply pw_below_drewN | apply below_drew1 | refine below_set ?_ GE167.out | refine below_set ?_ GE168.out) | exact HB.out))) : w.heap.size ≤ gb176))
        have n6_ := Aside0.mk ((by rw [hg]; exact Nat.ne_of_lt (blk_lt (g := gb167) (o := .cells #[.float .f64 b_a0_0, .float .f64 b_a0_1] 24 (0, 0)) (by (with_reducible repeat (first | refine blk_drewN ?_ _ | refine blk_drew ?_ | refine blk_alloc ?_ _)); exact BK167.out)) : gb167 ≠ gb176))
        have n7_ := Aside0.mk ((by rw [hg]; exact Nat.ne_of_gt (blk_lt (g := gb167) (o := .cells #[.float .f64 b_a0_0, .float .f64 b_a0_1] 24 (0, 0)) (by (with_reducible repeat (first | refine blk_drewN ?_ _ | refine blk_drew ?_ | refine blk_alloc ?_ _)); exact BK167.out)) : gb176 ≠ gb167))
        have n8_ := Aside0.mk ((by rw [hg]; exact Nat.ne_of_lt (blk_lt (g := gb168) (o := .cells #[.float .f64 b_a1_0, .float .f64 b_a1_1] 24 (0, 0)) (by (with_reducible repeat (first | refine blk_drewN ?_ _ | refine blk_drew ?_ | refine blk_alloc ?_ _)); exact BK168.out)) : gb168 ≠ gb176))
        have n9_ := Aside0.mk ((by rw [hg]; exact Nat.ne_of_gt (blk_lt (g := gb168) (o := .cells #[.float .f64 b_a1_0, .float .f64 b_a1_1] 24 (0, 0)) (by (with_reducible repeat (first | refine blk_drewN ?_ _ | refine blk_drew ?_ | refine blk_alloc ?_ _)); exact BK168.out)) : gb176 ≠ gb168))
        clear BK167
        clear BK168
        clear HB
        have BK167 := n0_
        have BK168 := n1_
        have HB := n2_
        have BK176 := n3_
        have GW176 := n4_
        have GE176 := n5_
        have NB167_176 := n6_
        have NB176_167 := n7_
        have NB168_176 := n8_
        have NB176_168 := n9_
        clear n0_ n1_ n2_ n3_ n4_ n5_ n6_ n7_ n8_ n9_
        clear hb hbox hg
        refine hK.out _ _ ⟨b_t169, b_t170, b_t171, b_t172, b_t173, b_t174, gb176, m1_, m3_, m4_, m5_, m6_, (.pointer (some ⟨gb176, 0, none⟩)), (by rw [ha.out]; exact putSel_upk 8 hb_ rfl rfl rfl), (by (with_reducible repeat (first | refine blk_drewN ?_ _ | refine blk_drew ?_ | refine blk_alloc ?_ _)); exact BK167.out), (by (with_reducible repeat (first | refine blk_drewN ?_ _ | refine blk_drew ?_ | refine blk_alloc ?_ _)); exact BK168.out), (by repeat (first | (with_reducible first | exact HB.out | apply below_alloc | apply pw_below_drewN | apply below_drew1 | refine below_set ?_ GE167.out | refine below_set ?_ GE168.out | refine below_set ?_ GE176.out) | exact HB.out)), Q_HF_t169, Q_HF_t170, Q_HF_t171, Q_HF_t172, Q_HF_t173, Q_HF_t174, fun _ _ => (by (with_reducible repeat (first | refine blk_drewN ?_ _ | refine blk_drew ?_ | refine blk_alloc ?_ _)); exact BK176.out), fun _ => GW176.out, fun _ => GE176.out, fun _ => NB167_176.out, fun _ => NB176_167.out, fun _ => NB168_176.out, fun _ => NB176_168.out, fun h0_ => absurd ((hoff 9 (by kernel_rfl)).symm.trans h0_) (by decide), Q_X1_, Q_X3_, Q_X4_, Q_X5_, Q_X6_, fun _ => rfl⟩
      refine steps_cons ?_ ?_
      · rintro b a w' ⟨b_t169, b_t170, b_t171, b_t172, b_t173, b_t174, gb176, m1_, m3_, m4_, m5_, m6_, m8_, ha, Q_BK167, Q_BK168, Q_HB, Q_HF_t169, Q_HF_t170, Q_HF_t171, Q_HF_t172, Q_HF_t173, Q_HF_t174, Q_BK176, Q_GW176, Q_GE176, Q_NB167_176, Q_NB176_167, Q_NB168_176, Q_NB176_168, Q_BK176_e9, Q_X1_, Q_X3_, Q_X4_, Q_X5_, Q_X6_, Q_X8_⟩ hb_ hon hoff
        refine ⟨_, rfl, fun K hK => ?_⟩
        have e5 : a.tmps[5]? = some (m8_) := by rw [ha]; exact putSel_on (e := (8, 5, m8_)) 8 rfl rfl (hon 8 (by kernel_rfl)) rfl
        rw [Q_X8_ (hon 8 (by kernel_rfl))] at e5
        have e15 : a.tmps[15]? = some (m6_) := by rw [ha]; exact putSel_on (e := (6, 15, m6_)) 6 rfl rfl (hon 6 (by kernel_rfl)) rfl
        rw [Q_X6_ (hon 6 (by kernel_rfl))] at e15
        replace ha := Aside0.mk ha
        have BK167 := Aside0.mk Q_BK167
        have BK168 := Aside0.mk Q_BK168
        have HB := Aside0.mk Q_HB
        have HF_t169 := Aside0.mk (Q_HF_t169 (hon 1 (by kernel_rfl)))
        have HF_t170 := Aside0.mk (Q_HF_t170 (hon 1 (by kernel_rfl)))
        have HF_t171 := Aside0.mk (Q_HF_t171 (hon 3 (by kernel_rfl)))
        have HF_t172 := Aside0.mk (Q_HF_t172 (hon 3 (by kernel_rfl)))
        have HF_t173 := Aside0.mk (Q_HF_t173 (hon 4 (by kernel_rfl)))
        have HF_t174 := Aside0.mk (Q_HF_t174 (hon 4 (by kernel_rfl)))
        have BK176 := Aside0.mk (Q_BK176 (hon 8 (by kernel_rfl)) hb_)
        have GW176 := Aside0.mk (Q_GW176 (hon 8 (by kernel_rfl)))
        have GE176 := Aside0.mk (Q_GE176 (hon 8 (by kernel_rfl)))
        have NB167_176 := Aside0.mk (Q_NB167_176 (hon 8 (by kernel_rfl)))
        have NB176_167 := Aside0.mk (Q_NB176_167 (hon 8 (by kernel_rfl)))
        have NB168_176 := Aside0.mk (Q_NB168_176 (hon 8 (by kernel_rfl)))
        have NB176_168 := Aside0.mk (Q_NB176_168 (hon 8 (by kernel_rfl)))
        have hF_t169 := HF_t169.out
        have hF_t170 := HF_t170.out
        have hF_t171 := HF_t171.out
        have hF_t172 := HF_t172.out
        have hF_t173 := HF_t173.out
        have hF_t174 := HF_t174.out
        have hs72 : w'.cell? ⟨gb176, 0, none⟩ = some (.float .f64 0) := (blk_cell BK176.out 0).trans rfl
        have hfs72 := blk_frozen BK176.out 0
        have hns72_0 := NB167_176.out
        have hns72_1 := NB168_176.out
        have hms72_0 := NB176_167.out
        have hms72_1 := NB176_168.out
        have hs73 : w'.cell? ⟨gb176, 1, none⟩ = some (.float .f64 0) := (blk_cell BK176.out 1).trans rfl
        have hfs73 := blk_frozen BK176.out 1
        have hns73_0 := NB167_176.out
        have hns73_1 := NB168_176.out
        have hms73_0 := NB176_167.out
        have hms73_1 := NB176_168.out
        refine skip_ (w1 := ?_) (by rfl) rfl ?_ ?_
        rotate_left
        · go_simp
          rfl
        refine hK.out _ _ ⟨b_t169, b_t170, b_t171, b_t172, b_t173, b_t174, gb176, m1_, m3_, m4_, m5_, m6_, m8_, (by rw [ha.out]; exact putSel_none (v := undef) rfl), (by (with_reducible repeat (first | refine blk_drewN ?_ _ | refine blk_drew ?_ | refine blk_alloc ?_ _)); refine blk_far ?_ NB167_176.out _; (with_reducible repeat (first | refine blk_drewN ?_ _ | refine blk_drew ?_ | refine blk_alloc ?_ _)); refine blk_far ?_ NB167_176.out _; (with_reducible repeat (first | refine blk_drewN ?_ _ | refine blk_drew ?_ | refine blk_alloc ?_ _)); exact BK167.out), (by (with_reducible repeat (first | refine blk_drewN ?_ _ | refine blk_drew ?_ | refine blk_alloc ?_ _)); refine blk_far ?_ NB168_176.out _; (with_reducible repeat (first | refine blk_drewN ?_ _ | refine blk_drew ?_ | refine blk_alloc ?_ _)); refine blk_far ?_ NB168_176.out _; (with_reducible repeat (first | refine blk_drewN ?_ _ | refine blk_drew ?_ | refine blk_alloc ?_ _)); exact BK168.out), (by repeat (first | (with_reducible first | exact HB.out | apply below_alloc | apply pw_below_drewN | apply below_drew1 | refine below_set ?_ GE167.out | refine below_set ?_ GE168.out | refine below_set ?_ GE176.out) | exact HB.out)), fun _ => hF_t169, fun _ => hF_t170, fun _ => hF_t171, fun _ => hF_t172, fun _ => hF_t173, fun _ => hF_t174, fun _ h1_ => absurd ((up_self b 9).symm.trans h1_) (by decide), fun _ => GW176.out, fun _ => GE176.out, fun _ => NB167_176.out, fun _ => NB176_167.out, fun _ => NB168_176.out, fun _ => NB176_168.out, fun _ => (by (with_reducible repeat (first | refine blk_drewN ?_ _ | refine blk_drew ?_ | refine blk_alloc ?_ _)); refine blk_put (cs := #[.float .f64 b_t173, .float .f64 0]) ?_ 1 _ rfl; (with_reducible repeat (first | refine blk_drewN ?_ _ | refine blk_drew ?_ | refine blk_alloc ?_ _)); refine blk_put (cs := #[.float .f64 0, .float .f64 0]) ?_ 0 _ rfl; (with_reducible repeat (first | refine blk_drewN ?_ _ | refine blk_drew ?_ | refine blk_alloc ?_ _)); exact BK176.out), Q_X1_, Q_X3_, Q_X4_, Q_X5_, Q_X6_, Q_X8_⟩
      refine steps_cons ?_ ?_
      · rintro b a w' ⟨b_t169, b_t170, b_t171, b_t172, b_t173, b_t174, gb176, m1_, m3_, m4_, m5_, m6_, m8_, ha, Q_BK167, Q_BK168, Q_HB, Q_HF_t169, Q_HF_t170, Q_HF_t171, Q_HF_t172, Q_HF_t173, Q_HF_t174, Q_BK176, Q_GW176, Q_GE176, Q_NB167_176, Q_NB176_167, Q_NB168_176, Q_NB176_168, Q_BK176_e9, Q_X1_, Q_X3_, Q_X4_, Q_X5_, Q_X6_, Q_X8_⟩ hb_ hon hoff
        refine ⟨_, rfl, fun K hK => ?_⟩
        have e16 : a.tmps[16]? = some (.bool t175) := by rw [ha]; exact putSel_on (e := (7, 16, .bool t175)) 7 rfl rfl (hon 7 (by kernel_rfl)) rfl
        replace ha := Aside0.mk ha
        have BK167 := Aside0.mk Q_BK167
        have BK168 := Aside0.mk Q_BK168
        have HB := Aside0.mk Q_HB
        have HF_t169 := Aside0.mk (Q_HF_t169 (hon 1 (by kernel_rfl)))
        have HF_t170 := Aside0.mk (Q_HF_t170 (hon 1 (by kernel_rfl)))
        have HF_t171 := Aside0.mk (Q_HF_t171 (hon 3 (by kernel_rfl)))
        have HF_t172 := Aside0.mk (Q_HF_t172 (hon 3 (by kernel_rfl)))
        have HF_t173 := Aside0.mk (Q_HF_t173 (hon 4 (by kernel_rfl)))
        have HF_t174 := Aside0.mk (Q_HF_t174 (hon 4 (by kernel_rfl)))
        have GW176 := Aside0.mk (Q_GW176 (hon 8 (by kernel_rfl)))
        have GE176 := Aside0.mk (Q_GE176 (hon 8 (by kernel_rfl)))
        have NB167_176 := Aside0.mk (Q_NB167_176 (hon 8 (by kernel_rfl)))
        have NB176_167 := Aside0.mk (Q_NB176_167 (hon 8 (by kernel_rfl)))
        have NB168_176 := Aside0.mk (Q_NB168_176 (hon 8 (by kernel_rfl)))
        have NB176_168 := Aside0.mk (Q_NB176_168 (hon 8 (by kernel_rfl)))
        have BK176 := Aside0.mk (Q_BK176_e9 (hon 9 (by kernel_rfl)))
        refine value_ (w1 := w') (v := .bool t175) (by rfl) rfl ?_ ?_
        · go_simp
          (try simp only [i64_w])
          try rfl
        refine hK.out _ _ ⟨b_t169, b_t170, b_t171, b_t172, b_t173, b_t174, gb176, m1_, m3_, m4_, m5_, m6_, m8_, (by rw [ha.out]; exact putSel_upk 9 hb_ rfl rfl rfl), Q_BK167, Q_BK168, Q_HB, Q_HF_t169, Q_HF_t170, Q_HF_t171, Q_HF_t172, Q_HF_t173, Q_HF_t174, fun _ h1_ => absurd ((hon 9 (by kernel_rfl)).symm.trans h1_) (by decide), Q_GW176, Q_GE176, Q_NB167_176, Q_NB176_167, Q_NB168_176, Q_NB176_168, Q_BK176_e9, Q_X1_, Q_X3_, Q_X4_, Q_X5_, Q_X6_, Q_X8_⟩
      exact steps_nil
    rintro b a w73 hall ⟨b_t169, b_t170, b_t171, b_t172, b_t173, b_t174, gb176, m1_, m3_, m4_, m5_, m6_, m8_, ha, Q_BK167, Q_BK168, Q_HB, Q_HF_t169, Q_HF_t170, Q_HF_t171, Q_HF_t172, Q_HF_t173, Q_HF_t174, Q_BK176, Q_GW176, Q_GE176, Q_NB167_176, Q_NB176_167, Q_NB168_176, Q_NB176_168, Q_BK176_e9, Q_X1_, Q_X3_, Q_X4_, Q_X5_, Q_X6_, Q_X8_⟩
    clear BK167 BK168 HB
    have hb0_ := hall 0 (by kernel_rfl)
    have hb1_ := hall 1 (by kernel_rfl)
    have hb2_ := hall 2 (by kernel_rfl)
    have hb3_ := hall 3 (by kernel_rfl)
    have hb4_ := hall 4 (by kernel_rfl)
    have hb5_ := hall 5 (by kernel_rfl)
    have hb6_ := hall 6 (by kernel_rfl)
    have hb7_ := hall 7 (by kernel_rfl)
    have hb8_ := hall 8 (by kernel_rfl)
    have hb9_ := hall 9 (by kernel_rfl)
    have hb10_ := hall 10 (by kernel_rfl)
    subst ha
    obtain rfl := Q_X1_ hb1_
    obtain rfl := Q_X3_ hb3_
    obtain rfl := Q_X4_ hb4_
    obtain rfl := Q_X5_ hb5_
    obtain rfl := Q_X6_ hb6_
    obtain rfl := Q_X8_ hb8_
    simp only [putSel, hb0_, hb1_, hb2_, hb3_, hb4_, hb5_, hb6_, hb7_, hb8_, hb9_, hb10_, if_true, Act.put, List.setIfInBounds_toArray, List.set_cons_zero, List.set_cons_succ]
    have BK167 := Aside0.mk Q_BK167
    clear Q_BK167
    have BK168 := Aside0.mk Q_BK168
    clear Q_BK168
    have HB := Aside0.mk Q_HB
    clear Q_HB
    have HF_t169 := Aside0.mk (Q_HF_t169 hb1_)
    clear Q_HF_t169
    have HF_t170 := Aside0.mk (Q_HF_t170 hb1_)
    clear Q_HF_t170
    have HF_t171 := Aside0.mk (Q_HF_t171 hb3_)
    clear Q_HF_t171
    have HF_t172 := Aside0.mk (Q_HF_t172 hb3_)
    clear Q_HF_t172
    have HF_t173 := Aside0.mk (Q_HF_t173 hb4_)
    clear Q_HF_t173
    have HF_t174 := Aside0.mk (Q_HF_t174 hb4_)
    clear Q_HF_t174
    clear Q_BK176
    have GW176 := Aside0.mk (Q_GW176 hb8_)
    clear Q_GW176
    have GE176 := Aside0.mk (Q_GE176 hb8_)
    clear Q_GE176
    have NB167_176 := Aside0.mk (Q_NB167_176 hb8_)
    clear Q_NB167_176
    have NB176_167 := Aside0.mk (Q_NB176_167 hb8_)
    clear Q_NB176_167
    have NB168_176 := Aside0.mk (Q_NB168_176 hb8_)
    clear Q_NB168_176
    have NB176_168 := Aside0.mk (Q_NB176_168 hb8_)
    clear Q_NB176_168
    have BK176 := Aside0.mk (Q_BK176_e9 hb9_)
    clear Q_BK176_e9
    clear hall hb0_ hb1_ hb2_ hb3_ hb4_ hb5_ hb6_ hb7_ hb8_ hb9_ hb10_
    have hF_t169 := HF_t169.out
    have hF_t170 := HF_t170.out
    have hF_t171 := HF_t171.out
    have hF_t172 := HF_t172.out
    have hF_t173 := HF_t173.out
    have hF_t174 := HF_t174.out
    try go_wp2
    have n0_ := Aside0.mk (blk_drew BK167.out)
    have n1_ := Aside0.mk (blk_drew BK168.out)
    have n2_ := Aside0.mk (blk_drew BK176.out)
    have n3_ := Aside0.mk (below_drew1 HB.out)
    clear BK167
    clear BK168
    clear BK176
    clear HB
    have BK167 := n0_
    have BK168 := n1_
    have BK176 := n2_
    have HB := n3_
    clear n0_ n1_ n2_ n3_
    refine start_ (n := 11) (S := fun w' => True) (ds := []) #[false, false, false, false, false, false, false, false, false, false, false] (by kernel_rfl) rfl rfl trivial (fun hHeld => ?_); refine with_tabW laws_FnExactCxOver.tab2 laws_FnExactCxOver.bits2 (fun HT_ HW_ => ?_)
    generalize w73.drew = w74 at BK167 BK168 BK176 HB hHeld ⊢
    refine inv_at [0, 1, 2, 3, 4, 5, 6, 7, 8, 9, 10] (fun a0_ b a w' => ∃ (b_t177 : Nat) (b_t178 : Nat) (b_t179 : Nat) (b_t180 : Nat) (b_t181 : Nat) (b_t182 : Nat) (gb184 : Nat) (m1_ : Value) (m3_ : Value) (m4_ : Value) (m5_ : Value) (m6_ : Value) (m8_ : Value), a = putSel a0_ b [(0, 18, .agg #[.float .f64 b_a0_0, .float .f64 b_a0_1]), (1, 19, m1_), (2, 20, .agg #[.float .f64 b_a1_0, .float .f64 b_a1_1]), (3, 21, m3_), (4, 22, m4_), (5, 17, m5_), (6, 23, m6_), (7, 24, .bool t183), (8, 7, m8_), (10, 8, .bool t183)] ∧ (w'.heap[gb167]? = some (.cells #[.float .f64 b_a0_0, .float .f64 b_a0_1] 24 (0, 0))) ∧ (w'.heap[gb168]? = some (.cells #[.float .f64 b_a1_0, .float .f64 b_a1_1] 24 (0, 0))) ∧ (w'.heap[gb176]? = some (.cells #[.float .f64 b_t173, .float .f64 b_t174] 26 (0, 0))) ∧ (Below w.heap.size w w') ∧ (b 1 = true → cn .f64 b_t177 = t177) ∧ (b 1 = true → cn .f64 b_t178 = t178) ∧ (b 3 = true → cn .f64 b_t179 = t179) ∧ (b 3 = true → cn .f64 b_t180 = t180) ∧ (b 4 = true → cn .f64 b_t181 = t181) ∧ (b 4 = true → cn .f64 b_t182 = t182) ∧ (b 8 = true → b 9 = false → w'.heap[gb184]? = some (.cells #[.float .f64 0, .float .f64 0] 26 (0, 0))) ∧ (b 8 = true → w.heap.size ≤ gb184) ∧ (b 8 = true → w.heap.size ≤ gb184) ∧ (b 8 = true → gb167 ≠ gb184) ∧ (b 8 = true → gb184 ≠ gb167) ∧ (b 8 = true → gb168 ≠ gb184) ∧ (b 8 = true → gb184 ≠ gb168) ∧ (b 8 = true → gb176 ≠ gb184) ∧ (b 8 = true → gb184 ≠ gb176) ∧ (b 9 = true → w'.heap[gb184]? = some (.cells #[.float .f64 b_t181, .float .f64 b_t182] 26 (0, 0))) ∧ (b 1 = true → (m1_ : Value) = .agg #[.float .f64 b_t177, .float .f64 b_t178]) ∧ (b 3 = true → (m3_ : Value) = .agg #[.float .f64 b_t179, .float .f64 b_t180]) ∧ (b 4 = true → (m4_ : Value) = .tuple #[.agg #[.float .f64 b_t181, .float .f64 b_t182], .bool t183]) ∧ (b 5 = true → (m5_ : Value) = .tuple #[.agg #[.float .f64 b_t181, .float .f64 b_t182], .bool t183]) ∧ (b 6 = true → (m6_ : Value) = .agg #[.float .f64 b_t181, .float .f64 b_t182]) ∧ (b 8 = true → (m8_ : Value) = .pointer (some ⟨gb184, 0, none⟩))) HT_.out HW_.out (by kernel_rfl) (by kernel_rfl) ?_ ?_ ?_
    · exact ⟨0, 0, 0, 0, 0, 0, 0, .bool false, .bool false, .bool false, .bool false, .bool false, .bool false, by simp only [putSel, Bool.false_eq_true, if_false], BK167.out, BK168.out, BK176.out, HB.out, fun h_ => absurd h_ (by decide), fun h_ => absurd h_ (by decide), fun h_ => absurd h_ (by decide), fun h_ => absurd h_ (by decide), fun h_ => absurd h_ (by decide), fun h_ => absurd h_ (by decide), fun h_ => absurd h_ (by decide), fun h_ => absurd h_ (by decide), fun h_ => absurd h_ (by decide), fun h_ => absurd h_ (by decide), fun h_ => absurd h_ (by decide), fun h_ => absurd h_ (by decide), fun h_ => absurd h_ (by decide), fun h_ => absurd h_ (by decide), fun h_ => absurd h_ (by decide), fun h_ => absurd h_ (by decide), fun h_ => absurd h_ (by decide), fun h_ => absurd h_ (by decide), fun h_ => absurd h_ (by decide), fun h_ => absurd h_ (by decide), fun h_ => absurd h_ (by decide), fun h_ => absurd h_ (by decide)⟩
    · skip
      clear BK167 BK168 BK176 HB
      refine steps_cons ?_ ?_
      · rintro b a w' ⟨b_t177, b_t178, b_t179, b_t180, b_t181, b_t182, gb184, m1_, m3_, m4_, m5_, m6_, m8_, ha, Q_BK167, Q_BK168, Q_BK176, Q_HB, Q_HF_t177, Q_HF_t178, Q_HF_t179, Q_HF_t180, Q_HF_t181, Q_HF_t182, Q_BK184, Q_GW184, Q_GE184, Q_NB167_184, Q_NB184_167, Q_NB168_184, Q_NB184_168, Q_NB176_184, Q_NB184_176, Q_BK184_e9, Q_X1_, Q_X3_, Q_X4_, Q_X5_, Q_X6_, Q_X8_⟩ hb_ hon hoff
        refine ⟨_, rfl, fun K hK => ?_⟩
        have e2 : a.tmps[2]? = some (.pointer (some ⟨gb167, 0, none⟩)) := by rw [ha]; exact (putSel_off rfl).trans rfl
        replace ha := Aside0.mk ha
        have BK167 := Aside0.mk Q_BK167
        have BK168 := Aside0.mk Q_BK168
        have BK176 := Aside0.mk Q_BK176
        have HB := Aside0.mk Q_HB
        have hc0_ : w'.cell? ⟨gb167, 0, none⟩ = some (.float .f64 b_a0_0) := (blk_cell BK167.out 0).trans rfl
        have hc1_ : w'.cell? ⟨gb167, 1, none⟩ = some (.float .f64 b_a0_1) := (blk_cell BK167.out 1).trans rfl
        refine value_ (w1 := w') (v := .agg #[.float .f64 b_a0_0, .float .f64 b_a0_1]) (by rfl) rfl ?_ ?_
        · go_simp
          (try simp only [i64_w])
          try rfl
        refine hK.out _ _ ⟨b_t177, b_t178, b_t179, b_t180, b_t181, b_t182, gb184, m1_, m3_, m4_, m5_, m6_, m8_, (by rw [ha.out]; exact putSel_upk 0 hb_ rfl rfl rfl), Q_BK167, Q_BK168, Q_BK176, Q_HB, fun h0_ => absurd ((hoff 1 (by kernel_rfl)).symm.trans h0_) (by decide), fun h0_ => absurd ((hoff 1 (by kernel_rfl)).symm.trans h0_) (by decide), fun h0_ => absurd ((hoff 3 (by kernel_rfl)).symm.trans h0_) (by decide), fun h0_ => absurd ((hoff 3 (by kernel_rfl)).symm.trans h0_) (by decide), fun h0_ => absurd ((hoff 4 (by kernel_rfl)).symm.trans h0_) (by decide), fun h0_ => absurd ((hoff 4 (by kernel_rfl)).symm.trans h0_) (by decide), Q_BK184, Q_GW184, Q_GE184, Q_NB167_184, Q_NB184_167, Q_NB168_184, Q_NB184_168, Q_NB176_184, Q_NB184_176, fun h0_ => absurd ((hoff 9 (by kernel_rfl)).symm.trans h0_) (by decide), fun h0_ => absurd ((hoff 1 (by kernel_rfl)).symm.trans h0_) (by decide), fun h0_ => absurd ((hoff 3 (by kernel_rfl)).symm.trans h0_) (by decide), fun h0_ => absurd ((hoff 4 (by kernel_rfl)).symm.trans h0_) (by decide), fun h0_ => absurd ((hoff 5 (by kernel_rfl)).symm.trans h0_) (by decide), fun h0_ => absurd ((hoff 6 (by kernel_rfl)).symm.trans h0_) (by decide), Q_X8_⟩
      refine steps_cons ?_ ?_
      · rintro b a w' ⟨b_t177, b_t178, b_t179, b_t180, b_t181, b_t182, gb184, m1_, m3_, m4_, m5_, m6_, m8_, ha, Q_BK167, Q_BK168, Q_BK176, Q_HB, Q_HF_t177, Q_HF_t178, Q_HF_t179, Q_HF_t180, Q_HF_t181, Q_HF_t182, Q_BK184, Q_GW184, Q_GE184, Q_NB167_184, Q_NB184_167, Q_NB168_184, Q_NB184_168, Q_NB176_184, Q_NB184_176, Q_BK184_e9, Q_X1_, Q_X3_, Q_X4_, Q_X5_, Q_X6_, Q_X8_⟩ hb_ hon hoff
        refine ⟨_, rfl, fun K hK => ?_⟩
        have e18 : a.tmps[18]? = some (.agg #[.float .f64 b_a0_0, .float .f64 b_a0_1]) := by rw [ha]; exact putSel_on (e := (0, 18, .agg #[.float .f64 b_a0_0, .float .f64 b_a0_1])) 0 rfl rfl (hon 0 (by kernel_rfl)) rfl
        replace ha := Aside0.mk ha
        have BK167 := Aside0.mk Q_BK167
        have BK168 := Aside0.mk Q_BK168
        have BK176 := Aside0.mk Q_BK176
        have HB := Aside0.mk Q_HB
        refine goes_ Try.func16 (by kernel_rfl) rfl #[.agg #[.float .f64 b_a0_0, .float .f64 b_a0_1]] (by rfl) rfl rfl (by first | (simp only [List.map_toArray, List.map_cons, List.map_nil, Act.eval, Array.getD_eq_getD_getElem?, Option.getD_some, e18]; done) | (simp only [List.map_toArray, List.map_cons, List.map_nil, Act.eval, Array.getD_eq_getD_getElem?, Option.getD_some, e18]; rfl)) ?_
        with_reducible refine (laws_toCx.calls b_a0_0 a0_0 b_a0_1 a0_1 t177 t178 _ ?side1 ?side2 A6.out).mono ?_
        (case side1 => exact hF_a0_0)
        (case side2 => exact hF_a0_1)
        rintro e w75 ⟨b_t177, b_t178, rfl, hF_t177, hF_t178, hb⟩
        refine ⟨_, rfl, ?_⟩
        have n0_ := Aside0.mk (blk_below (g := gb167) (o := .cells #[.float .f64 b_a0_0, .float .f64 b_a0_1] 24 (0, 0)) (by (with_reducible repeat (first | refine blk_drewN ?_ _ | refine blk_drew ?_ | refine blk_alloc ?_ _)); exact BK167.out) hb)
        have n1_ := Aside0.mk (blk_below (g := gb168) (o := .cells #[.float .f64 b_a1_0, .float .f64 b_a1_1] 24 (0, 0)) (by (with_reducible repeat (first | refine blk_drewN ?_ _ | refine blk_drew ?_ | refine blk_alloc ?_ _)); exact BK168.out) hb)
        have n2_ := Aside0.mk (blk_below (g := gb176) (o := .cells #[.float .f64 b_t173, .float .f64 b_t174] 26 (0, 0)) (by (with_reducible repeat (first | refine blk_drewN ?_ _ | refine blk_drew ?_ | refine blk_alloc ?_ _)); exact BK176.out) hb)
        have n3_ := Aside0.mk (below_step (by repeat (first | (with_reducible first | exact HB.out | apply below_alloc | apply pw_below_drewN | apply below_drew1 | refine below_set ?_ GE167.out | refine below_set ?_ GE168.out | refine below_set ?_ GE176.out) | exact HB.out)) hb)
        have z_BK184 := fun (h0_ : b 8 = true) (h1_ : b 9 = false) => (show w75.heap[gb184]? = some (.cells #[.float .f64 0, .float .f64 0] 26 (0, 0)) from by first | exact (blk_below (g := gb184) (o := .cells #[.float .f64 0, .float .f64 0] 26 (0, 0)) (by (with_reducible repeat (first | refine blk_drewN ?_ _ | refine blk_drew ?_ | refine blk_alloc ?_ _)); exact (Q_BK184 h0_ h1_)) hb))
        clear BK167
        clear BK168
        clear BK176
        clear HB
        have BK167 := n0_
        have BK168 := n1_
        have BK176 := n2_
        have HB := n3_
        clear n0_ n1_ n2_ n3_
        (try clear hb)
        (try clear hb2)
        (try clear hk)
        (try clear hi)
        refine hK.out _ _ ⟨b_t177, b_t178, b_t179, b_t180, b_t181, b_t182, gb184, (.agg #[.float .f64 b_t177, .float .f64 b_t178]), m3_, m4_, m5_, m6_, m8_, (by rw [ha.out]; exact putSel_upk 1 hb_ rfl rfl rfl), (by (with_reducible repeat (first | refine blk_drewN ?_ _ | refine blk_drew ?_ | refine blk_alloc ?_ _)); exact BK167.out), (by (with_reducible repeat (first | refine blk_drewN ?_ _ | refine blk_drew ?_ | refine blk_alloc ?_ _)); exact BK168.out), (by (with_reducible repeat (first | refine blk_drewN ?_ _ | refine blk_drew ?_ | refine blk_alloc ?_ _)); exact BK176.out), (by repeat (first | (with_reducible first | exact HB.out | apply below_alloc | apply pw_below_drewN | apply below_drew1 | refine below_set ?_ GE167.out | refine below_set ?_ GE168.out | refine below_set ?_ GE176.out) | exact HB.out)), fun _ => hF_t177, fun _ => hF_t178, fun h0_ => absurd ((hoff 3 (by kernel_rfl)).symm.trans h0_) (by decide), fun h0_ => absurd ((hoff 3 (by kernel_rfl)).symm.trans h0_) (by decide), fun h0_ => absurd ((hoff 4 (by kernel_rfl)).symm.trans h0_) (by decide), fun h0_ => absurd ((hoff 4 (by kernel_rfl)).symm.trans h0_) (by decide), z_BK184, Q_GW184, Q_GE184, Q_NB167_184, Q_NB184_167, Q_NB168_184, Q_NB184_168, Q_NB176_184, Q_NB184_176, fun h0_ => absurd ((hoff 9 (by kernel_rfl)).symm.trans h0_) (by decide), fun _ => rfl, fun h0_ => absurd ((hoff 3 (by kernel_rfl)).symm.trans h0_) (by decide), fun h0_ => absurd ((hoff 4 (by kernel_rfl)).symm.trans h0_) (by decide), fun h0_ => absurd ((hoff 5 (by kernel_rfl)).symm.trans h0_) (by decide), fun h0_ => absurd ((hoff 6 (by kernel_rfl)).symm.trans h0_) (by decide), Q_X8_⟩
      refine steps_cons ?_ ?_
      · rintro b a w' ⟨b_t177, b_t178, b_t179, b_t180, b_t181, b_t182, gb184, m1_, m3_, m4_, m5_, m6_, m8_, ha, Q_BK167, Q_BK168, Q_BK176, Q_HB, Q_HF_t177, Q_HF_t178, Q_HF_t179, Q_HF_t180, Q_HF_t181, Q_HF_t182, Q_BK184, Q_GW184, Q_GE184, Q_NB167_184, Q_NB184_167, Q_NB168_184, Q_NB184_168, Q_NB176_184, Q_NB184_176, Q_BK184_e9, Q_X1_, Q_X3_, Q_X4_, Q_X5_, Q_X6_, Q_X8_⟩ hb_ hon hoff
        refine ⟨_, rfl, fun K hK => ?_⟩
        have e3 : a.tmps[3]? = some (.pointer (some ⟨gb168, 0, none⟩)) := by rw [ha]; exact (putSel_off rfl).trans rfl
        replace ha := Aside0.mk ha
        have BK167 := Aside0.mk Q_BK167
        have BK168 := Aside0.mk Q_BK168
        have BK176 := Aside0.mk Q_BK176
        have HB := Aside0.mk Q_HB
        have hc0_ : w'.cell? ⟨gb168, 0, none⟩ = some (.float .f64 b_a1_0) := (blk_cell BK168.out 0).trans rfl
        have hc1_ : w'.cell? ⟨gb168, 1, none⟩ = some (.float .f64 b_a1_1) := (blk_cell BK168.out 1).trans rfl
        refine value_ (w1 := w') (v := .agg #[.float .f64 b_a1_0, .float .f64 b_a1_1]) (by rfl) rfl ?_ ?_
        · go_simp
          (try simp only [i64_w])
          try rfl
        refine hK.out _ _ ⟨b_t177, b_t178, b_t179, b_t180, b_t181, b_t182, gb184, m1_, m3_, m4_, m5_, m6_, m8_, (by rw [ha.out]; exact putSel_upk 2 hb_ rfl rfl rfl), Q_BK167, Q_BK168, Q_BK176, Q_HB, Q_HF_t177, Q_HF_t178, fun h0_ => absurd ((hoff 3 (by kernel_rfl)).symm.trans h0_) (by decide), fun h0_ => absurd ((hoff 3 (by kernel_rfl)).symm.trans h0_) (by decide), fun h0_ => absurd ((hoff 4 (by kernel_rfl)).symm.trans h0_) (by decide), fun h0_ => absurd ((hoff 4 (by kernel_rfl)).symm.trans h0_) (by decide), Q_BK184, Q_GW184, Q_GE184, Q_NB167_184, Q_NB184_167, Q_NB168_184, Q_NB184_168, Q_NB176_184, Q_NB184_176, fun h0_ => absurd ((hoff 9 (by kernel_rfl)).symm.trans h0_) (by decide), Q_X1_, fun h0_ => absurd ((hoff 3 (by kernel_rfl)).symm.trans h0_) (by decide), fun h0_ => absurd ((hoff 4 (by kernel_rfl)).symm.trans h0_) (by decide), fun h0_ => absurd ((hoff 5 (by kernel_rfl)).symm.trans h0_) (by decide), fun h0_ => absurd ((hoff 6 (by kernel_rfl)).symm.trans h0_) (by decide), Q_X8_⟩
      refine steps_cons ?_ ?_
      · rintro b a w' ⟨b_t177, b_t178, b_t179, b_t180, b_t181, b_t182, gb184, m1_, m3_, m4_, m5_, m6_, m8_, ha, Q_BK167, Q_BK168, Q_BK176, Q_HB, Q_HF_t177, Q_HF_t178, Q_HF_t179, Q_HF_t180, Q_HF_t181, Q_HF_t182, Q_BK184, Q_GW184, Q_GE184, Q_NB167_184, Q_NB184_167, Q_NB168_184, Q_NB184_168, Q_NB176_184, Q_NB184_176, Q_BK184_e9, Q_X1_, Q_X3_, Q_X4_, Q_X5_, Q_X6_, Q_X8_⟩ hb_ hon hoff
        refine ⟨_, rfl, fun K hK => ?_⟩
        have e20 : a.tmps[20]? = some (.agg #[.float .f64 b_a1_0, .float .f64 b_a1_1]) := by rw [ha]; exact putSel_on (e := (2, 20, .agg #[.float .f64 b_a1_0, .float .f64 b_a1_1])) 2 rfl rfl (hon 2 (by kernel_rfl)) rfl
        replace ha := Aside0.mk ha
        have BK167 := Aside0.mk Q_BK167
        have BK168 := Aside0.mk Q_BK168
        have BK176 := Aside0.mk Q_BK176
        have HB := Aside0.mk Q_HB
        have HF_t177 := Aside0.mk (Q_HF_t177 (hon 1 (by kernel_rfl)))
        have HF_t178 := Aside0.mk (Q_HF_t178 (hon 1 (by kernel_rfl)))
        have hF_t177 := HF_t177.out
        have hF_t178 := HF_t178.out
        refine goes_ Try.func16 (by kernel_rfl) rfl #[.agg #[.float .f64 b_a1_0, .float .f64 b_a1_1]] (by rfl) rfl rfl (by first | (simp only [List.map_toArray, List.map_cons, List.map_nil, Act.eval, Array.getD_eq_getD_getElem?, Option.getD_some, e20]; done) | (simp only [List.map_toArray, List.map_cons, List.map_nil, Act.eval, Array.getD_eq_getD_getElem?, Option.getD_some, e20]; rfl)) ?_
        with_reducible refine (laws_toCx.calls b_a1_0 a1_0 b_a1_1 a1_1 t179 t180 _ ?side1 ?side2 A7.out).mono ?_
        (case side1 => exact hF_a1_0)
        (case side2 => exact hF_a1_1)
        rintro e w77 ⟨b_t179, b_t180, rfl, hF_t179, hF_t180, hb⟩
        refine ⟨_, rfl, ?_⟩
        have n0_ := Aside0.mk (blk_below (g := gb167) (o := .cells #[.float .f64 b_a0_0, .float .f64 b_a0_1] 24 (0, 0)) (by (with_reducible repeat (first | refine blk_drewN ?_ _ | refine blk_drew ?_ | refine blk_alloc ?_ _)); exact BK167.out) hb)
        have n1_ := Aside0.mk (blk_below (g := gb168) (o := .cells #[.float .f64 b_a1_0, .float .f64 b_a1_1] 24 (0, 0)) (by (with_reducible repeat (first | refine blk_drewN ?_ _ | refine blk_drew ?_ | refine blk_alloc ?_ _)); exact BK168.out) hb)
        have n2_ := Aside0.mk (blk_below (g := gb176) (o := .cells #[.float .f64 b_t173, .float .f64 b_t174] 26 (0, 0)) (by (with_reducible repeat (first | refine blk_drewN ?_ _ | refine blk_drew ?_ | refine blk_alloc ?_ _)); exact BK176.out) hb)
        have n3_ := Aside0.mk (below_step (by repeat (first | (with_reducible first | exact HB.out | apply below_alloc | apply pw_below_drewN | apply below_drew1 | refine below_set ?_ GE167.out | refine below_set ?_ GE168.out | refine below_set ?_ GE176.out) | exact HB.out)) hb)
        have z_BK184 := fun (h0_ : b 8 = true) (h1_ : b 9 = false) => (show w77.heap[gb184]? = some (.cells #[.float .f64 0, .float .f64 0] 26 (0, 0)) from by first | exact (blk_below (g := gb184) (o := .cells #[.float .f64 0, .float .f64 0] 26 (0, 0)) (by (with_reducible repeat (first | refine blk_drewN ?_ _ | refine blk_drew ?_ | refine blk_alloc ?_ _)); exact (Q_BK184 h0_ h1_)) hb))
        clear BK167
        clear BK168
        clear BK176
        clear HB
        have BK167 := n0_
        have BK168 := n1_
        have BK176 := n2_
        have HB := n3_
        clear n0_ n1_ n2_ n3_
        (try clear hb)
        (try clear hb2)
        (try clear hk)
        (try clear hi)
        refine hK.out _ _ ⟨b_t177, b_t178, b_t179, b_t180, b_t181, b_t182, gb184, m1_, (.agg #[.float .f64 b_t179, .float .f64 b_t180]), m4_, m5_, m6_, m8_, (by rw [ha.out]; exact putSel_upk 3 hb_ rfl rfl rfl), (by (with_reducible repeat (first | refine blk_drewN ?_ _ | refine blk_drew ?_ | refine blk_alloc ?_ _)); exact BK167.out), (by (with_reducible repeat (first | refine blk_drewN ?_ _ | refine blk_drew ?_ | refine blk_alloc ?_ _)); exact BK168.out), (by (with_reducible repeat (first | refine blk_drewN ?_ _ | refine blk_drew ?_ | refine blk_alloc ?_ _)); exact BK176.out), (by repeat (first | (with_reducible first | exact HB.out | apply below_alloc | apply pw_below_drewN | apply below_drew1 | refine below_set ?_ GE167.out | refine below_set ?_ GE168.out | refine below_set ?_ GE176.out) | exact HB.out)), fun _ => hF_t177, fun _ => hF_t178, fun _ => hF_t179, fun _ => hF_t180, fun h0_ => absurd ((hoff 4 (by kernel_rfl)).symm.trans h0_) (by decide), fun h0_ => absurd ((hoff 4 (by kernel_rfl)).symm.trans h0_) (by decide), z_BK184, Q_GW184, Q_GE184, Q_NB167_184, Q_NB184_167, Q_NB168_184, Q_NB184_168, Q_NB176_184, Q_NB184_176, fun h0_ => absurd ((hoff 9 (by kernel_rfl)).symm.trans h0_) (by decide), Q_X1_, fun _ => rfl, fun h0_ => absurd ((hoff 4 (by kernel_rfl)).symm.trans h0_) (by decide), fun h0_ => absurd ((hoff 5 (by kernel_rfl)).symm.trans h0_) (by decide), fun h0_ => absurd ((hoff 6 (by kernel_rfl)).symm.trans h0_) (by decide), Q_X8_⟩
      refine steps_cons ?_ ?_
      · rintro b a w' ⟨b_t177, b_t178, b_t179, b_t180, b_t181, b_t182, gb184, m1_, m3_, m4_, m5_, m6_, m8_, ha, Q_BK167, Q_BK168, Q_BK176, Q_HB, Q_HF_t177, Q_HF_t178, Q_HF_t179, Q_HF_t180, Q_HF_t181, Q_HF_t182, Q_BK184, Q_GW184, Q_GE184, Q_NB167_184, Q_NB184_167, Q_NB168_184, Q_NB184_168, Q_NB176_184, Q_NB184_176, Q_BK184_e9, Q_X1_, Q_X3_, Q_X4_, Q_X5_, Q_X6_, Q_X8_⟩ hb_ hon hoff
        refine ⟨_, rfl, fun K hK => ?_⟩
        have e19 : a.tmps[19]? = some (m1_) := by rw [ha]; exact putSel_on (e := (1, 19, m1_)) 1 rfl rfl (hon 1 (by kernel_rfl)) rfl
        rw [Q_X1_ (hon 1 (by kernel_rfl))] at e19
        have e21 : a.tmps[21]? = some (m3_) := by rw [ha]; exact putSel_on (e := (3, 21, m3_)) 3 rfl rfl (hon 3 (by kernel_rfl)) rfl
        rw [Q_X3_ (hon 3 (by kernel_rfl))] at e21
        replace ha := Aside0.mk ha
        have BK167 := Aside0.mk Q_BK167
        have BK168 := Aside0.mk Q_BK168
        have BK176 := Aside0.mk Q_BK176
        have HB := Aside0.mk Q_HB
        have HF_t177 := Aside0.mk (Q_HF_t177 (hon 1 (by kernel_rfl)))
        have HF_t178 := Aside0.mk (Q_HF_t178 (hon 1 (by kernel_rfl)))
        have HF_t179 := Aside0.mk (Q_HF_t179 (hon 3 (by kernel_rfl)))
        have HF_t180 := Aside0.mk (Q_HF_t180 (hon 3 (by kernel_rfl)))
        have hF_t177 := HF_t177.out
        have hF_t178 := HF_t178.out
        have hF_t179 := HF_t179.out
        have hF_t180 := HF_t180.out
        refine goes_ Try.func44 (by kernel_rfl) rfl #[.agg #[.float .f64 b_t177, .float .f64 b_t178], .agg #[.float .f64 b_t179, .float .f64 b_t180]] (by rfl) rfl rfl (by first | (simp only [List.map_toArray, List.map_cons, List.map_nil, Act.eval, Array.getD_eq_getD_getElem?, Option.getD_some, e19, e21]; done) | (simp only [List.map_toArray, List.map_cons, List.map_nil, Act.eval, Array.getD_eq_getD_getElem?, Option.getD_some, e19, e21]; rfl)) ?_
        with_reducible refine (impl_CxOver.calls k b_t177 t177 b_t178 t178 b_t179 t179 b_t180 t180 t181 t182 t183 _ ?side1 ?side2 ?side3 ?side4 A8.out).mono ?_
        (case side1 => exact hF_t177)
        (case side2 => exact hF_t178)
        (case side3 => exact hF_t179)
        (case side4 => exact hF_t180)
        rintro e w78 ⟨b_t181, b_t182, rfl, hF_t181, hF_t182, hb⟩
        refine ⟨_, rfl, ?_⟩
        have n0_ := Aside0.mk (blk_below (g := gb167) (o := .cells #[.float .f64 b_a0_0, .float .f64 b_a0_1] 24 (0, 0)) (by (with_reducible repeat (first | refine blk_drewN ?_ _ | refine blk_drew ?_ | refine blk_alloc ?_ _)); exact BK167.out) hb)
        have n1_ := Aside0.mk (blk_below (g := gb168) (o := .cells #[.float .f64 b_a1_0, .float .f64 b_a1_1] 24 (0, 0)) (by (with_reducible repeat (first | refine blk_drewN ?_ _ | refine blk_drew ?_ | refine blk_alloc ?_ _)); exact BK168.out) hb)
        have n2_ := Aside0.mk (blk_below (g := gb176) (o := .cells #[.float .f64 b_t173, .float .f64 b_t174] 26 (0, 0)) (by (with_reducible repeat (first | refine blk_drewN ?_ _ | refine blk_drew ?_ | refine blk_alloc ?_ _)); exact BK176.out) hb)
        have n3_ := Aside0.mk (below_step (by repeat (first | (with_reducible first | exact HB.out | apply below_alloc | apply pw_below_drewN | apply below_drew1 | refine below_set ?_ GE167.out | refine below_set ?_ GE168.out | refine below_set ?_ GE176.out) | exact HB.out)) hb)
        have z_BK184 := fun (h0_ : b 8 = true) (h1_ : b 9 = false) => (show w78.heap[gb184]? = some (.cells #[.float .f64 0, .float .f64 0] 26 (0, 0)) from by first | exact (blk_below (g := gb184) (o := .cells #[.float .f64 0, .float .f64 0] 26 (0, 0)) (by (with_reducible repeat (first | refine blk_drewN ?_ _ | refine blk_drew ?_ | refine blk_alloc ?_ _)); exact (Q_BK184 h0_ h1_)) hb))
        clear BK167
        clear BK168
        clear BK176
        clear HB
        have BK167 := n0_
        have BK168 := n1_
        have BK176 := n2_
        have HB := n3_
        clear n0_ n1_ n2_ n3_
        (try clear hb)
        (try clear hb2)
        (try clear hk)
        (try clear hi)
        refine hK.out _ _ ⟨b_t177, b_t178, b_t179, b_t180, b_t181, b_t182, gb184, m1_, m3_, (.tuple #[.agg #[.float .f64 b_t181, .float .f64 b_t182], .bool t183]), m5_, m6_, m8_, (by rw [ha.out]; exact putSel_upk 4 hb_ rfl rfl rfl), (by (with_reducible repeat (first | refine blk_drewN ?_ _ | refine blk_drew ?_ | refine blk_alloc ?_ _)); exact BK167.out), (by (with_reducible repeat (first | refine blk_drewN ?_ _ | refine blk_drew ?_ | refine blk_alloc ?_ _)); exact BK168.out), (by (with_reducible repeat (first | refine blk_drewN ?_ _ | refine blk_drew ?_ | refine blk_alloc ?_ _)); exact BK176.out), (by repeat (first | (with_reducible first | exact HB.out | apply below_alloc | apply pw_below_drewN | apply below_drew1 | refine below_set ?_ GE167.out | refine below_set ?_ GE168.out | refine below_set ?_ GE176.out) | exact HB.out)), fun _ => hF_t177, fun _ => hF_t178, fun _ => hF_t179, fun _ => hF_t180, fun _ => hF_t181, fun _ => hF_t182, z_BK184, Q_GW184, Q_GE184, Q_NB167_184, Q_NB184_167, Q_NB168_184, Q_NB184_168, Q_NB176_184, Q_NB184_176, fun h0_ => absurd ((hoff 9 (by kernel_rfl)).symm.trans h0_) (by decide), Q_X1_, Q_X3_, fun _ => rfl, fun h0_ => absurd ((hoff 5 (by kernel_rfl)).symm.trans h0_) (by decide), fun h0_ => absurd ((hoff 6 (by kernel_rfl)).symm.trans h0_) (by decide), Q_X8_⟩
      refine steps_cons ?_ ?_
      · rintro b a w' ⟨b_t177, b_t178, b_t179, b_t180, b_t181, b_t182, gb184, m1_, m3_, m4_, m5_, m6_, m8_, ha, Q_BK167, Q_BK168, Q_BK176, Q_HB, Q_HF_t177, Q_HF_t178, Q_HF_t179, Q_HF_t180, Q_HF_t181, Q_HF_t182, Q_BK184, Q_GW184, Q_GE184, Q_NB167_184, Q_NB184_167, Q_NB168_184, Q_NB184_168, Q_NB176_184, Q_NB184_176, Q_BK184_e9, Q_X1_, Q_X3_, Q_X4_, Q_X5_, Q_X6_, Q_X8_⟩ hb_ hon hoff
        refine ⟨_, rfl, fun K hK => ?_⟩
        have e22 : a.tmps[22]? = some (m4_) := by rw [ha]; exact putSel_on (e := (4, 22, m4_)) 4 rfl rfl (hon 4 (by kernel_rfl)) rfl
        rw [Q_X4_ (hon 4 (by kernel_rfl))] at e22
        replace ha := Aside0.mk ha
        have BK167 := Aside0.mk Q_BK167
        have BK168 := Aside0.mk Q_BK168
        have BK176 := Aside0.mk Q_BK176
        have HB := Aside0.mk Q_HB
        have HF_t177 := Aside0.mk (Q_HF_t177 (hon 1 (by kernel_rfl)))
        have HF_t178 := Aside0.mk (Q_HF_t178 (hon 1 (by kernel_rfl)))
        have HF_t179 := Aside0.mk (Q_HF_t179 (hon 3 (by kernel_rfl)))
        have HF_t180 := Aside0.mk (Q_HF_t180 (hon 3 (by kernel_rfl)))
        have HF_t181 := Aside0.mk (Q_HF_t181 (hon 4 (by kernel_rfl)))
        have HF_t182 := Aside0.mk (Q_HF_t182 (hon 4 (by kernel_rfl)))
        refine value_ (w1 := w') (v := .tuple #[.agg #[.float .f64 b_t181, .float .f64 b_t182], .bool t183]) (by rfl) rfl ?_ ?_
        · go_simp
          (try simp only [i64_w])
          try rfl
        refine hK.out _ _ ⟨b_t177, b_t178, b_t179, b_t180, b_t181, b_t182, gb184, m1_, m3_, m4_, (.tuple #[.agg #[.float .f64 b_t181, .float .f64 b_t182], .bool t183]), m6_, m8_, (by rw [ha.out]; exact putSel_upk 5 hb_ rfl rfl rfl), Q_BK167, Q_BK168, Q_BK176, Q_HB, Q_HF_t177, Q_HF_t178, Q_HF_t179, Q_HF_t180, Q_HF_t181, Q_HF_t182, Q_BK184, Q_GW184, Q_GE184, Q_NB167_184, Q_NB184_167, Q_NB168_184, Q_NB184_168, Q_NB176_184, Q_NB184_176, fun h0_ => absurd ((hoff 9 (by kernel_rfl)).symm.trans h0_) (by decide), Q_X1_, Q_X3_, Q_X4_, fun _ => rfl, fun h0_ => absurd ((hoff 6 (by kernel_rfl)).symm.trans h0_) (by decide), Q_X8_⟩
      refine steps_cons ?_ ?_
      · rintro b a w' ⟨b_t177, b_t178, b_t179, b_t180, b_t181, b_t182, gb184, m1_, m3_, m4_, m5_, m6_, m8_, ha, Q_BK167, Q_BK168, Q_BK176, Q_HB, Q_HF_t177, Q_HF_t178, Q_HF_t179, Q_HF_t180, Q_HF_t181, Q_HF_t182, Q_BK184, Q_GW184, Q_GE184, Q_NB167_184, Q_NB184_167, Q_NB168_184, Q_NB184_168, Q_NB176_184, Q_NB184_176, Q_BK184_e9, Q_X1_, Q_X3_, Q_X4_, Q_X5_, Q_X6_, Q_X8_⟩ hb_ hon hoff
        refine ⟨_, rfl, fun K hK => ?_⟩
        have e17 : a.tmps[17]? = some (m5_) := by rw [ha]; exact putSel_on (e := (5, 17, m5_)) 5 rfl rfl (hon 5 (by kernel_rfl)) rfl
        rw [Q_X5_ (hon 5 (by kernel_rfl))] at e17
        replace ha := Aside0.mk ha
        have BK167 := Aside0.mk Q_BK167
        have BK168 := Aside0.mk Q_BK168
        have BK176 := Aside0.mk Q_BK176
        have HB := Aside0.mk Q_HB
        have HF_t177 := Aside0.mk (Q_HF_t177 (hon 1 (by kernel_rfl)))
        have HF_t178 := Aside0.mk (Q_HF_t178 (hon 1 (by kernel_rfl)))
        have HF_t179 := Aside0.mk (Q_HF_t179 (hon 3 (by kernel_rfl)))
        have HF_t180 := Aside0.mk (Q_HF_t180 (hon 3 (by kernel_rfl)))
        have HF_t181 := Aside0.mk (Q_HF_t181 (hon 4 (by kernel_rfl)))
        have HF_t182 := Aside0.mk (Q_HF_t182 (hon 4 (by kernel_rfl)))
        refine value_ (w1 := w') (v := .agg #[.float .f64 b_t181, .float .f64 b_t182]) (by rfl) rfl ?_ ?_
        · go_simp
          (try simp only [i64_w])
          try rfl
        refine hK.out _ _ ⟨b_t177, b_t178, b_t179, b_t180, b_t181, b_t182, gb184, m1_, m3_, m4_, m5_, (.agg #[.float .f64 b_t181, .float .f64 b_t182]), m8_, (by rw [ha.out]; exact putSel_upk 6 hb_ rfl rfl rfl), Q_BK167, Q_BK168, Q_BK176, Q_HB, Q_HF_t177, Q_HF_t178, Q_HF_t179, Q_HF_t180, Q_HF_t181, Q_HF_t182, Q_BK184, Q_GW184, Q_GE184, Q_NB167_184, Q_NB184_167, Q_NB168_184, Q_NB184_168, Q_NB176_184, Q_NB184_176, fun h0_ => absurd ((hoff 9 (by kernel_rfl)).symm.trans h0_) (by decide), Q_X1_, Q_X3_, Q_X4_, Q_X5_, fun _ => rfl, Q_X8_⟩
      refine steps_cons ?_ ?_
      · rintro b a w' ⟨b_t177, b_t178, b_t179, b_t180, b_t181, b_t182, gb184, m1_, m3_, m4_, m5_, m6_, m8_, ha, Q_BK167, Q_BK168, Q_BK176, Q_HB, Q_HF_t177, Q_HF_t178, Q_HF_t179, Q_HF_t180, Q_HF_t181, Q_HF_t182, Q_BK184, Q_GW184, Q_GE184, Q_NB167_184, Q_NB184_167, Q_NB168_184, Q_NB184_168, Q_NB176_184, Q_NB184_176, Q_BK184_e9, Q_X1_, Q_X3_, Q_X4_, Q_X5_, Q_X6_, Q_X8_⟩ hb_ hon hoff
        refine ⟨_, rfl, fun K hK => ?_⟩
        have e17 : a.tmps[17]? = some (m5_) := by rw [ha]; exact putSel_on (e := (5, 17, m5_)) 5 rfl rfl (hon 5 (by kernel_rfl)) rfl
        rw [Q_X5_ (hon 5 (by kernel_rfl))] at e17
        replace ha := Aside0.mk ha
        have BK167 := Aside0.mk Q_BK167
        have BK168 := Aside0.mk Q_BK168
        have BK176 := Aside0.mk Q_BK176
        have HB := Aside0.mk Q_HB
        have HF_t177 := Aside0.mk (Q_HF_t177 (hon 1 (by kernel_rfl)))
        have HF_t178 := Aside0.mk (Q_HF_t178 (hon 1 (by kernel_rfl)))
        have HF_t179 := Aside0.mk (Q_HF_t179 (hon 3 (by kernel_rfl)))
        have HF_t180 := Aside0.mk (Q_HF_t180 (hon 3 (by kernel_rfl)))
        have HF_t181 := Aside0.mk (Q_HF_t181 (hon 4 (by kernel_rfl)))
        have HF_t182 := Aside0.mk (Q_HF_t182 (hon 4 (by kernel_rfl)))
        refine value_ (w1 := w') (v := .bool t183) (by rfl) rfl ?_ ?_
        · go_simp
          (try simp only [i64_w])
          try rfl
        refine hK.out _ _ ⟨b_t177, b_t178, b_t179, b_t180, b_t181, b_t182, gb184, m1_, m3_, m4_, m5_, m6_, m8_, (by rw [ha.out]; exact putSel_upk 7 hb_ rfl rfl rfl), Q_BK167, Q_BK168, Q_BK176, Q_HB, Q_HF_t177, Q_HF_t178, Q_HF_t179, Q_HF_t180, Q_HF_t181, Q_HF_t182, Q_BK184, Q_GW184, Q_GE184, Q_NB167_184, Q_NB184_167, Q_NB168_184, Q_NB184_168, Q_NB176_184, Q_NB184_176, Q_BK184_e9, Q_X1_, Q_X3_, Q_X4_, Q_X5_, Q_X6_, Q_X8_⟩
      refine steps_cons ?_ ?_
      · rintro b a w' ⟨b_t177, b_t178, b_t179, b_t180, b_t181, b_t182, gb184, m1_, m3_, m4_, m5_, m6_, m8_, ha, Q_BK167, Q_BK168, Q_BK176, Q_HB, Q_HF_t177, Q_HF_t178, Q_HF_t179, Q_HF_t180, Q_HF_t181, Q_HF_t182, Q_BK184, Q_GW184, Q_GE184, Q_NB167_184, Q_NB184_167, Q_NB168_184, Q_NB184_168, Q_NB176_184, Q_NB184_176, Q_BK184_e9, Q_X1_, Q_X3_, Q_X4_, Q_X5_, Q_X6_, Q_X8_⟩ hb_ hon hoff
        refine ⟨_, rfl, fun K hK => ?_⟩
        replace ha := Aside0.mk ha
        have BK167 := Aside0.mk Q_BK167
        have BK168 := Aside0.mk Q_BK168
        have BK176 := Aside0.mk Q_BK176
        have HB := Aside0.mk Q_HB
        refine box_step ?hg (N := 7) ?hd (cs := #[.float .f64 0, .float .f64 0]) (t := 26) ?hr ?_; (case hd => rfl); (case hg => rfl); (case hr => first | (go_simp; done) | (go_simp; rfl))
        intro gb184 hg w75 hbox hb
        have n0_ := Aside0.mk (blk_below (g := gb167) (o := .cells #[.float .f64 b_a0_0, .float .f64 b_a0_1] 24 (0, 0)) (by (with_reducible repeat (first | refine blk_drewN ?_ _ | refine blk_drew ?_ | refine blk_alloc ?_ _)); exact BK167.out) hb)
        have n1_ := Aside0.mk (blk_below (g := gb168) (o := .cells #[.float .f64 b_a1_0, .float .f64 b_a1_1] 24 (0, 0)) (by (with_reducible repeat (first | refine blk_drewN ?_ _ | refine blk_drew ?_ | refine blk_alloc ?_ _)); exact BK168.out) hb)
        have n2_ := Aside0.mk (blk_below (g := gb176) (o := .cells #[.float .f64 b_t173, .float .f64 b_t174] 26 (0, 0)) (by (with_reducible repeat (first | refine blk_drewN ?_ _ | refine blk_drew ?_ | refine blk_alloc ?_ _)); exact BK176.out) hb)
        have n3_ := Aside0.mk (below_step (by repeat (first | (with_reducible first | exact HB.out | apply below_alloc | apply pw_below_drewN | apply below_drew1 | refine below_set ?_ GE167.out | refine below_set ?_ GE168.out | refine below_set ?_ GE176.out) | exact HB.out)) hb)
        have n4_ := Aside0.mk (hbox)
        have n5_ := Aside0.mk ((by rw [hg]; exact (below_size (by repeat (first | (with_reducible first | exact HB.out | apply below_alloc | apply pw_below_drewN | apply below_drew1 | refine below_set ?_ GE167.out | refine below_set ?_ GE168.out | refine below_set ?_ GE176.out) | exact HB.out))) : w.heap.size ≤ gb184))
        have n6_ := Aside0.mk ((by rw [hg]; exact (below_size (by repeat (first | (with_reducible first | exact HB.out | apply below_alloc | apply pw_below_drewN | apply below_drew1 | refine below_set ?_ GE167.out | refine below_set ?_ GE168.out | refine below_set ?_ GE176.out) | exact HB.out))) : w.heap.size ≤ gb184))
        have n7_ := Aside0.mk ((by rw [hg]; exact Nat.ne_of_lt (blk_lt (g := gb167) (o := .cells #[.float .f64 b_a0_0, .float .f64 b_a0_1] 24 (0, 0)) (by (with_reducible repeat (first | refine blk_drewN ?_ _ | refine blk_drew ?_ | refine blk_alloc ?_ _)); exact BK167.out)) : gb167 ≠ gb184))
        have n8_ := Aside0.mk ((by rw [hg]; exact Nat.ne_of_gt (blk_lt (g := gb167) (o := .cells #[.float .f64 b_a0_0, .float .f64 b_a0_1] 24 (0, 0)) (by (with_reducible repeat (first | refine blk_drewN ?_ _ | refine blk_drew ?_ | refine blk_alloc ?_ _)); exact BK167.out)) : gb184 ≠ gb167))
        have n9_ := Aside0.mk ((by rw [hg]; exact Nat.ne_of_lt (blk_lt (g := gb168) (o := .cells #[.float .f64 b_a1_0, .float .f64 b_a1_1] 24 (0, 0)) (by (with_reducible repeat (first | refine blk_drewN ?_ _ | refine blk_drew ?_ | refine blk_alloc ?_ _)); exact BK168.out)) : gb168 ≠ gb184))
        have n10_ := Aside0.mk ((by rw [hg]; exact Nat.ne_of_gt (blk_lt (g := gb168) (o := .cells #[.float .f64 b_a1_0, .float .f64 b_a1_1] 24 (0, 0)) (by (with_reducible repeat (first | refine blk_drewN ?_ _ | refine blk_drew ?_ | refine blk_alloc ?_ _)); exact BK168.out)) : gb184 ≠ gb168))
        have n11_ := Aside0.mk ((by rw [hg]; exact Nat.ne_of_lt (blk_lt (g := gb176) (o := .cells #[.float .f64 b_t173, .float .f64 b_t174] 26 (0, 0)) (by (with_reducible repeat (first | refine blk_drewN ?_ _ | refine blk_drew ?_ | refine blk_alloc ?_ _)); exact BK176.out)) : gb176 ≠ gb184))
        have n12_ := Aside0.mk ((by rw [hg]; exact Nat.ne_of_gt (blk_lt (g := gb176) (o := .cells #[.float .f64 b_t173, .float .f64 b_t174] 26 (0, 0)) (by (with_reducible repeat (first | refine blk_drewN ?_ _ | refine blk_drew ?_ | refine blk_alloc ?_ _)); exact BK176.out)) : gb184 ≠ gb176))
        clear BK167
        clear BK168
        clear BK176
        clear HB
        have BK167 := n0_
        have BK168 := n1_
        have BK176 := n2_
        have HB := n3_
        have BK184 := n4_
        have GW184 := n5_
        have GE184 := n6_
        have NB167_184 := n7_
        have NB184_167 := n8_
        have NB168_184 := n9_
        have NB184_168 := n10_
        have NB176_184 := n11_
        have NB184_176 := n12_
        clear n0_ n1_ n2_ n3_ n4_ n5_ n6_ n7_ n8_ n9_ n10_ n11_ n12_
        clear hb hbox hg
        refine hK.out _ _ ⟨b_t177, b_t178, b_t179, b_t180, b_t181, b_t182, gb184, m1_, m3_, m4_, m5_, m6_, (.pointer (some ⟨gb184, 0, none⟩)), (by rw [ha.out]; exact putSel_upk 8 hb_ rfl rfl rfl), (by (with_reducible repeat (first | refine blk_drewN ?_ _ | refine blk_drew ?_ | refine blk_alloc ?_ _)); exact BK167.out), (by (with_reducible repeat (first | refine blk_drewN ?_ _ | refine blk_drew ?_ | refine blk_alloc ?_ _)); exact BK168.out), (by (with_reducible repeat (first | refine blk_drewN ?_ _ | refine blk_drew ?_ | refine blk_alloc ?_ _)); exact BK176.out), (by repeat (first | (with_reducible first | exact HB.out | apply below_alloc | apply pw_below_drewN | apply below_drew1 | refine below_set ?_ GE167.out | refine below_set ?_ GE168.out | refine below_set ?_ GE176.out | refine below_set ?_ GE184.out) | exact HB.out)), Q_HF_t177, Q_HF_t178, Q_HF_t179, Q_HF_t180, Q_HF_t181, Q_HF_t182, fun _ _ => (by (with_reducible repeat (first | refine blk_drewN ?_ _ | refine blk_drew ?_ | refine blk_alloc ?_ _)); exact BK184.out), fun _ => GW184.out, fun _ => GE184.out, fun _ => NB167_184.out, fun _ => NB184_167.out, fun _ => NB168_184.out, fun _ => NB184_168.out, fun _ => NB176_184.out, fun _ => NB184_176.out, fun h0_ => absurd ((hoff 9 (by kernel_rfl)).symm.trans h0_) (by decide), Q_X1_, Q_X3_, Q_X4_, Q_X5_, Q_X6_, fun _ => rfl⟩
      refine steps_cons ?_ ?_
      · rintro b a w' ⟨b_t177, b_t178, b_t179, b_t180, b_t181, b_t182, gb184, m1_, m3_, m4_, m5_, m6_, m8_, ha, Q_BK167, Q_BK168, Q_BK176, Q_HB, Q_HF_t177, Q_HF_t178, Q_HF_t179, Q_HF_t180, Q_HF_t181, Q_HF_t182, Q_BK184, Q_GW184, Q_GE184, Q_NB167_184, Q_NB184_167, Q_NB168_184, Q_NB184_168, Q_NB176_184, Q_NB184_176, Q_BK184_e9, Q_X1_, Q_X3_, Q_X4_, Q_X5_, Q_X6_, Q_X8_⟩ hb_ hon hoff
        refine ⟨_, rfl, fun K hK => ?_⟩
        have e7 : a.tmps[7]? = some (m8_) := by rw [ha]; exact putSel_on (e := (8, 7, m8_)) 8 rfl rfl (hon 8 (by kernel_rfl)) rfl
        rw [Q_X8_ (hon 8 (by kernel_rfl))] at e7
        have e23 : a.tmps[23]? = some (m6_) := by rw [ha]; exact putSel_on (e := (6, 23, m6_)) 6 rfl rfl (hon 6 (by kernel_rfl)) rfl
        rw [Q_X6_ (hon 6 (by kernel_rfl))] at e23
        replace ha := Aside0.mk ha
        have BK167 := Aside0.mk Q_BK167
        have BK168 := Aside0.mk Q_BK168
        have BK176 := Aside0.mk Q_BK176
        have HB := Aside0.mk Q_HB
        have HF_t177 := Aside0.mk (Q_HF_t177 (hon 1 (by kernel_rfl)))
        have HF_t178 := Aside0.mk (Q_HF_t178 (hon 1 (by kernel_rfl)))
        have HF_t179 := Aside0.mk (Q_HF_t179 (hon 3 (by kernel_rfl)))
        have HF_t180 := Aside0.mk (Q_HF_t180 (hon 3 (by kernel_rfl)))
        have HF_t181 := Aside0.mk (Q_HF_t181 (hon 4 (by kernel_rfl)))
        have HF_t182 := Aside0.mk (Q_HF_t182 (hon 4 (by kernel_rfl)))
        have BK184 := Aside0.mk (Q_BK184 (hon 8 (by kernel_rfl)) hb_)
        have GW184 := Aside0.mk (Q_GW184 (hon 8 (by kernel_rfl)))
        have GE184 := Aside0.mk (Q_GE184 (hon 8 (by kernel_rfl)))
        have NB167_184 := Aside0.mk (Q_NB167_184 (hon 8 (by kernel_rfl)))
        have NB184_167 := Aside0.mk (Q_NB184_167 (hon 8 (by kernel_rfl)))
        have NB168_184 := Aside0.mk (Q_NB168_184 (hon 8 (by kernel_rfl)))
        have NB184_168 := Aside0.mk (Q_NB184_168 (hon 8 (by kernel_rfl)))
        have NB176_184 := Aside0.mk (Q_NB176_184 (hon 8 (by kernel_rfl)))
        have NB184_176 := Aside0.mk (Q_NB184_176 (hon 8 (by kernel_rfl)))
        have hF_t177 := HF_t177.out
        have hF_t178 := HF_t178.out
        have hF_t179 := HF_t179.out
        have hF_t180 := HF_t180.out
        have hF_t181 := HF_t181.out
        have hF_t182 := HF_t182.out
        have hs80 : w'.cell? ⟨gb184, 0, none⟩ = some (.float .f64 0) := (blk_cell BK184.out 0).trans rfl
        have hfs80 := blk_frozen BK184.out 0
        have hns80_0 := NB167_184.out
        have hns80_1 := NB168_184.out
        have hns80_2 := NB176_184.out
        have hms80_0 := NB184_167.out
        have hms80_1 := NB184_168.out
        have hms80_2 := NB184_176.out
        have hs81 : w'.cell? ⟨gb184, 1, none⟩ = some (.float .f64 0) := (blk_cell BK184.out 1).trans rfl
        have hfs81 := blk_frozen BK184.out 1
        have hns81_0 := NB167_184.out
        have hns81_1 := NB168_184.out
        have hns81_2 := NB176_184.out
        have hms81_0 := NB184_167.out
        have hms81_1 := NB184_168.out
        have hms81_2 := NB184_176.out
        refine skip_ (w1 := ?_) (by rfl) rfl ?_ ?_
        rotate_left
        · go_simp
          rfl
        refine hK.out _ _ ⟨b_t177, b_t178, b_t179, b_t180, b_t181, b_t182, gb184, m1_, m3_, m4_, m5_, m6_, m8_, (by rw [ha.out]; exact putSel_none (v := undef) rfl), (by (with_reducible repeat (first | refine blk_drewN ?_ _ | refine blk_drew ?_ | refine blk_alloc ?_ _)); refine blk_far ?_ NB167_184.out _; (with_reducible repeat (first | refine blk_drewN ?_ _ | refine blk_drew ?_ | refine blk_alloc ?_ _)); refine blk_far ?_ NB167_184.out _; (with_reducible repeat (first | refine blk_drewN ?_ _ | refine blk_drew ?_ | refine blk_alloc ?_ _)); exact BK167.out), (by (with_reducible repeat (first | refine blk_drewN ?_ _ | refine blk_drew ?_ | refine blk_alloc ?_ _)); refine blk_far ?_ NB168_184.out _; (with_reducible repeat (first | refine blk_drewN ?_ _ | refine blk_drew ?_ | refine blk_alloc ?_ _)); refine blk_far ?_ NB168_184.out _; (with_reducible repeat (first | refine blk_drewN ?_ _ | refine blk_drew ?_ | refine blk_alloc ?_ _)); exact BK168.out), (by (with_reducible repeat (first | refine blk_drewN ?_ _ | refine blk_drew ?_ | refine blk_alloc ?_ _)); refine blk_far ?_ NB176_184.out _; (with_reducible repeat (first | refine blk_drewN ?_ _ | refine blk_drew ?_ | refine blk_alloc ?_ _)); refine blk_far ?_ NB176_184.out _; (with_reducible repeat (first | refine blk_drewN ?_ _ | refine blk_drew ?_ | refine blk_alloc ?_ _)); exact BK176.out), (by repeat (first | (with_reducible first | exact HB.out | apply below_alloc | apply pw_below_drewN | apply below_drew1 | refine below_set ?_ GE167.out | refine below_set ?_ GE168.out | refine below_set ?_ GE176.out | refine below_set ?_ GE184.out) | exact HB.out)), fun _ => hF_t177, fun _ => hF_t178, fun _ => hF_t179, fun _ => hF_t180, fun _ => hF_t181, fun _ => hF_t182, fun _ h1_ => absurd ((up_self b 9).symm.trans h1_) (by decide), fun _ => GW184.out, fun _ => GE184.out, fun _ => NB167_184.out, fun _ => NB184_167.out, fun _ => NB168_184.out, fun _ => NB184_168.out, fun _ => NB176_184.out, fun _ => NB184_176.out, fun _ => (by (with_reducible repeat (first | refine blk_drewN ?_ _ | refine blk_drew ?_ | refine blk_alloc ?_ _)); refine blk_put (cs := #[.float .f64 b_t181, .float .f64 0]) ?_ 1 _ rfl; (with_reducible repeat (first | refine blk_drewN ?_ _ | refine blk_drew ?_ | refine blk_alloc ?_ _)); refine blk_put (cs := #[.float .f64 0, .float .f64 0]) ?_ 0 _ rfl; (with_reducible repeat (first | refine blk_drewN ?_ _ | refine blk_drew ?_ | refine blk_alloc ?_ _)); exact BK184.out), Q_X1_, Q_X3_, Q_X4_, Q_X5_, Q_X6_, Q_X8_⟩
      refine steps_cons ?_ ?_
      · rintro b a w' ⟨b_t177, b_t178, b_t179, b_t180, b_t181, b_t182, gb184, m1_, m3_, m4_, m5_, m6_, m8_, ha, Q_BK167, Q_BK168, Q_BK176, Q_HB, Q_HF_t177, Q_HF_t178, Q_HF_t179, Q_HF_t180, Q_HF_t181, Q_HF_t182, Q_BK184, Q_GW184, Q_GE184, Q_NB167_184, Q_NB184_167, Q_NB168_184, Q_NB184_168, Q_NB176_184, Q_NB184_176, Q_BK184_e9, Q_X1_, Q_X3_, Q_X4_, Q_X5_, Q_X6_, Q_X8_⟩ hb_ hon hoff
        refine ⟨_, rfl, fun K hK => ?_⟩
        have e24 : a.tmps[24]? = some (.bool t183) := by rw [ha]; exact putSel_on (e := (7, 24, .bool t183)) 7 rfl rfl (hon 7 (by kernel_rfl)) rfl
        replace ha := Aside0.mk ha
        have BK167 := Aside0.mk Q_BK167
        have BK168 := Aside0.mk Q_BK168
        have BK176 := Aside0.mk Q_BK176
        have HB := Aside0.mk Q_HB
        have HF_t177 := Aside0.mk (Q_HF_t177 (hon 1 (by kernel_rfl)))
        have HF_t178 := Aside0.mk (Q_HF_t178 (hon 1 (by kernel_rfl)))
        have HF_t179 := Aside0.mk (Q_HF_t179 (hon 3 (by kernel_rfl)))
        have HF_t180 := Aside0.mk (Q_HF_t180 (hon 3 (by kernel_rfl)))
        have HF_t181 := Aside0.mk (Q_HF_t181 (hon 4 (by kernel_rfl)))
        have HF_t182 := Aside0.mk (Q_HF_t182 (hon 4 (by kernel_rfl)))
        have GW184 := Aside0.mk (Q_GW184 (hon 8 (by kernel_rfl)))
        have GE184 := Aside0.mk (Q_GE184 (hon 8 (by kernel_rfl)))
        have NB167_184 := Aside0.mk (Q_NB167_184 (hon 8 (by kernel_rfl)))
        have NB184_167 := Aside0.mk (Q_NB184_167 (hon 8 (by kernel_rfl)))
        have NB168_184 := Aside0.mk (Q_NB168_184 (hon 8 (by kernel_rfl)))
        have NB184_168 := Aside0.mk (Q_NB184_168 (hon 8 (by kernel_rfl)))
        have NB176_184 := Aside0.mk (Q_NB176_184 (hon 8 (by kernel_rfl)))
        have NB184_176 := Aside0.mk (Q_NB184_176 (hon 8 (by kernel_rfl)))
        have BK184 := Aside0.mk (Q_BK184_e9 (hon 9 (by kernel_rfl)))
        refine value_ (w1 := w') (v := .bool t183) (by rfl) rfl ?_ ?_
        · go_simp
          (try simp only [i64_w])
          try rfl
        refine hK.out _ _ ⟨b_t177, b_t178, b_t179, b_t180, b_t181, b_t182, gb184, m1_, m3_, m4_, m5_, m6_, m8_, (by rw [ha.out]; exact putSel_upk 9 hb_ rfl rfl rfl), Q_BK167, Q_BK168, Q_BK176, Q_HB, Q_HF_t177, Q_HF_t178, Q_HF_t179, Q_HF_t180, Q_HF_t181, Q_HF_t182, fun _ h1_ => absurd ((hon 9 (by kernel_rfl)).symm.trans h1_) (by decide), Q_GW184, Q_GE184, Q_NB167_184, Q_NB184_167, Q_NB168_184, Q_NB184_168, Q_NB176_184, Q_NB184_176, Q_BK184_e9, Q_X1_, Q_X3_, Q_X4_, Q_X5_, Q_X6_, Q_X8_⟩
      exact steps_nil
    rintro b a w81 hall ⟨b_t177, b_t178, b_t179, b_t180, b_t181, b_t182, gb184, m1_, m3_, m4_, m5_, m6_, m8_, ha, Q_BK167, Q_BK168, Q_BK176, Q_HB, Q_HF_t177, Q_HF_t178, Q_HF_t179, Q_HF_t180, Q_HF_t181, Q_HF_t182, Q_BK184, Q_GW184, Q_GE184, Q_NB167_184, Q_NB184_167, Q_NB168_184, Q_NB184_168, Q_NB176_184, Q_NB184_176, Q_BK184_e9, Q_X1_, Q_X3_, Q_X4_, Q_X5_, Q_X6_, Q_X8_⟩
    clear BK167 BK168 BK176 HB
    have hb0_ := hall 0 (by kernel_rfl)
    have hb1_ := hall 1 (by kernel_rfl)
    have hb2_ := hall 2 (by kernel_rfl)
    have hb3_ := hall 3 (by kernel_rfl)
    have hb4_ := hall 4 (by kernel_rfl)
    have hb5_ := hall 5 (by kernel_rfl)
    have hb6_ := hall 6 (by kernel_rfl)
    have hb7_ := hall 7 (by kernel_rfl)
    have hb8_ := hall 8 (by kernel_rfl)
    have hb9_ := hall 9 (by kernel_rfl)
    have hb10_ := hall 10 (by kernel_rfl)
    subst ha
    obtain rfl := Q_X1_ hb1_
    obtain rfl := Q_X3_ hb3_
    obtain rfl := Q_X4_ hb4_
    obtain rfl := Q_X5_ hb5_
    obtain rfl := Q_X6_ hb6_
    obtain rfl := Q_X8_ hb8_
    simp only [putSel, hb0_, hb1_, hb2_, hb3_, hb4_, hb5_, hb6_, hb7_, hb8_, hb9_, hb10_, if_true, Act.put, List.setIfInBounds_toArray, List.set_cons_zero, List.set_cons_succ]
    have BK167 := Aside0.mk Q_BK167
    clear Q_BK167
    have BK168 := Aside0.mk Q_BK168
    clear Q_BK168
    have BK176 := Aside0.mk Q_BK176
    clear Q_BK176
    have HB := Aside0.mk Q_HB
    clear Q_HB
    have HF_t177 := Aside0.mk (Q_HF_t177 hb1_)
    clear Q_HF_t177
    have HF_t178 := Aside0.mk (Q_HF_t178 hb1_)
    clear Q_HF_t178
    have HF_t179 := Aside0.mk (Q_HF_t179 hb3_)
    clear Q_HF_t179
    have HF_t180 := Aside0.mk (Q_HF_t180 hb3_)
    clear Q_HF_t180
    have HF_t181 := Aside0.mk (Q_HF_t181 hb4_)
    clear Q_HF_t181
    have HF_t182 := Aside0.mk (Q_HF_t182 hb4_)
    clear Q_HF_t182
    clear Q_BK184
    have GW184 := Aside0.mk (Q_GW184 hb8_)
    clear Q_GW184
    have GE184 := Aside0.mk (Q_GE184 hb8_)
    clear Q_GE184
    have NB167_184 := Aside0.mk (Q_NB167_184 hb8_)
    clear Q_NB167_184
    have NB184_167 := Aside0.mk (Q_NB184_167 hb8_)
    clear Q_NB184_167
    have NB168_184 := Aside0.mk (Q_NB168_184 hb8_)
    clear Q_NB168_184
    have NB184_168 := Aside0.mk (Q_NB184_168 hb8_)
    clear Q_NB184_168
    have NB176_184 := Aside0.mk (Q_NB176_184 hb8_)
    clear Q_NB176_184
    have NB184_176 := Aside0.mk (Q_NB184_176 hb8_)
    clear Q_NB184_176
    have BK184 := Aside0.mk (Q_BK184_e9 hb9_)
    clear Q_BK184_e9
    clear hall hb0_ hb1_ hb2_ hb3_ hb4_ hb5_ hb6_ hb7_ hb8_ hb9_ hb10_
    have hF_t177 := HF_t177.out
    have hF_t178 := HF_t178.out
    have hF_t179 := HF_t179.out
    have hF_t180 := HF_t180.out
    have hF_t181 := HF_t181.out
    have hF_t182 := HF_t182.out
    have hnb82 := NB184_167.out
    have hnc82 := NB167_184.out
    have hnb83 := NB184_168.out
    have hnc83 := NB168_184.out
    have hnb84 := NB184_176.out
    have hnc84 := NB176_184.out
    have hcz85_0 : w81.cell? ⟨gb184, 0, none⟩ = some (.float .f64 b_t181) := (blk_cell BK184.out 0).trans rfl
    have hcz85_1 : w81.cell? ⟨gb184, 1, none⟩ = some (.float .f64 b_t182) := (blk_cell BK184.out 1).trans rfl
    have hfz85_0 := blk_frozen BK184.out 0
    have hfz85_1 := blk_frozen BK184.out 1
    have hnb86 := NB176_167.out
    have hnc86 := NB167_176.out
    have hnb87 := NB176_168.out
    have hnc87 := NB168_176.out
    have hcz88_0 : w81.cell? ⟨gb176, 0, none⟩ = some (.float .f64 b_t173) := (blk_cell BK176.out 0).trans rfl
    have hcz88_1 : w81.cell? ⟨gb176, 1, none⟩ = some (.float .f64 b_t174) := (blk_cell BK176.out 1).trans rfl
    have hfz88_0 := blk_frozen BK176.out 0
    have hfz88_1 := blk_frozen BK176.out 1
    try go_wp2_with (first | ((with_reducible refine gate_callee (f := 23) rfl ?_); refine goesL_ (some 27) rfl rfl Try.func23 (by kernel_rfl) rfl #[.agg #[.float .f64 b_t181, .float .f64 b_t182], .agg #[.float .f64 b_t173, .float .f64 b_t174]] rfl (by (try simp only [List.map_toArray, List.map_cons, List.map_nil]); first | done | rfl | (simp only [List.length_drop, List.length_take]; rfl)) ?_; (with_reducible refine (laws_eqCx.calls k b_t181 t181 b_t182 t182 b_t173 t173 b_t174 t174 false _ ?side1 ?side2 ?side3 ?side4 A9.out).mono ?_); (case side1 => exact hF_t181); (case side2 => exact hF_t182); (case side3 => exact hF_t173); (case side4 => exact hF_t174); rintro e w89 ⟨rfl, hb⟩; refine ⟨_, rfl, ?_⟩; have n0_ := Aside0.mk (blk_below (g := gb167) (o := .cells #[.float .f64 b_a0_0, .float .f64 b_a0_1] 24 (0, 0)) (by (with_reducible repeat (first | refine blk_drewN ?_ _ | refine blk_drew ?_ | refine blk_alloc ?_ _)); exact BK167.out) hb); have n1_ := Aside0.mk (blk_below (g := gb168) (o := .cells #[.float .f64 b_a1_0, .float .f64 b_a1_1] 24 (0, 0)) (by (with_reducible repeat (first | refine blk_drewN ?_ _ | refine blk_drew ?_ | refine blk_alloc ?_ _)); exact BK168.out) hb); have n2_ := Aside0.mk (blk_below (g := gb176) (o := .cells #[.float .f64 b_t173, .float .f64 b_t174] 26 (0, 0)) (by (with_reducible repeat (first | refine blk_drewN ?_ _ | refine blk_drew ?_ | refine blk_alloc ?_ _)); exact BK176.out) hb); have n3_ := Aside0.mk (blk_below (g := gb184) (o := .cells #[.float .f64 b_t181, .float .f64 b_t182] 26 (0, 0)) (by (with_reducible repeat (first | refine blk_drewN ?_ _ | refine blk_drew ?_ | refine blk_alloc ?_ _)); exact BK184.out) hb); have n4_ := Aside0.mk (below_step (by repeat (first | (with_reducible first | exact HB.out | apply below_alloc | apply pw_below_drewN | apply below_drew1 | refine below_set ?_ GE167.out | refine below_set ?_ GE168.out | refine below_set ?_ GE176.out | refine below_set ?_ GE184.out) | exact HB.out)) hb); clear BK167; clear BK168; clear BK176; clear BK184; clear HB; have BK167 := n0_; have BK168 := n1_; have BK176 := n2_; have BK184 := n3_; have HB := n4_; clear n0_ n1_ n2_ n3_ n4_; (try clear hb); (try clear hb2); (try clear hk); (try clear hi)))
    go_ret
    exact ⟨by first | rfl | (simp [errW_none, errW_some] <;> rfl) | (simp [*, errW_none, errW_some] <;> rfl), by repeat (first | (with_reducible first | exact HB.out | apply below_alloc | apply pw_below_drewN | apply below_drew1 | refine below_set ?_ GE167.out | refine below_set ?_ GE168.out | refine below_set ?_ GE176.out | refine below_set ?_ GE184.out) | exact HB.out)⟩

end Go.Proofs.Ytddojikjiebbbaa.QFnExactCxOver
