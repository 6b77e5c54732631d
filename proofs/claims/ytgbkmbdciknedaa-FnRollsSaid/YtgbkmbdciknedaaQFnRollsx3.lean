/- Lean functions that tell what the Go functions used by one law answer, and for each a proof that the Go code comes to just these answers; no condition. Printed by this session's own program over the kit's printer. -/
import Derived.Test.YtgbkmbdciknedaaQFnRollsx0
import Derived.Test.YtgbkmbdciknedaaQFnRollsx1
import Derived.Test.YtgbkmbdciknedaaQFnRollsx2
namespace Go.Proofs.Ytgbkmbdciknedaa.QFnRolls
open Go.RowKit Go.Proofs.YtgbkmbdciknedaaW.PrintWords Go.Proofs.YtgbkmbdciknedaaW.PrintLast Go.Proofs.YtgbkmbdciknedaaW.PrintMore
attribute [local go_sem] max2_int min2_int max_two min_two max_three min_three max_four min_four   -- for this text's walks alone
set_option linter.unusedVariables false
set_option linter.unusedSimpArgs false

/-! ### laws_FnRolls: function 5 -/
def laws_FnRolls.j0 : Nat → Int → Bool → Int → Int → Int → Int → Option (Bool)
  | 0, _, _, _, _, _, _ => none
  | k + 1, x5, x76, x174000, x174001, x174002, x174003 => if x76 = true then (some false) else ((impl_Stops.f k x174000 x174001 x174002 x174003 x5).bind fun bt183 => ((impl_Stops.f k x174000 x174001 x174002 x174003 (wrap64 (x5 + 1))).bind fun bt185 => (if bt183.2 = true then (if bt185.2 = true then (if bt183.1 ≤ bt185.1 then (if bt183.1 > 0 then (some true) else (some (!bt183.2))) else (some (!bt183.2))) else (some (!bt183.2))) else (some (!bt183.2)))))
def laws_FnRolls.f (k : Nat) (l0 : List Int) : Option (Bool) := (laws_big.f l0).bind fun t167 => (if t167 = true then (some true) else ((spec_DrawRunner.f k l0).bind fun bt168 => ((laws_at.f l0 2).bind fun t174 => (if (wrap64 (bt168.2.2.2.2 + 1)) = 0 then (none) else ((impl_Rolls.f k bt168.1 bt168.2.1 bt168.2.2.1 bt168.2.2.2.1 (Int.tmod t174 (wrap64 (bt168.2.2.2.2 + 1))) bt168.2.2.2.2).bind fun bt175 => ((laws_at.f l0 3).bind fun t178 => ((impl_Rolls.f k bt168.1 bt168.2.1 bt168.2.2.1 bt168.2.2.2.1 (wrap64 ((wrap64 ((Int.tmod t174 (wrap64 (bt168.2.2.2.2 + 1))) + 1)) + (Int.tmod t178 20))) bt168.2.2.2.2).bind fun bt179 => ((impl_RunnerOk.f bt168.1 bt168.2.1 bt168.2.2.1 bt168.2.2.2.1).bind fun t182 => (if t182 = true then (if bt175.2.2 = true then (if bt179.2.2 = true then (if bt179.2.1 > bt175.2.1 then (laws_FnRolls.j0 k (Int.tmod t174 (wrap64 (bt168.2.2.2.2 + 1))) true bt168.1 bt168.2.1 bt168.2.2.1 bt168.2.2.2.1) else (if bt175.1 < bt168.2.2.2.2 then (laws_FnRolls.j0 k (Int.tmod t174 (wrap64 (bt168.2.2.2.2 + 1))) true bt168.1 bt168.2.1 bt168.2.2.1 bt168.2.2.2.1) else (laws_FnRolls.j0 k (Int.tmod t174 (wrap64 (bt168.2.2.2.2 + 1))) (decide (bt179.1 < bt168.2.2.2.2)) bt168.1 bt168.2.1 bt168.2.2.1 bt168.2.2.2.1))) else (laws_FnRolls.j0 k (Int.tmod t174 (wrap64 (bt168.2.2.2.2 + 1))) true bt168.1 bt168.2.1 bt168.2.2.1 bt168.2.2.2.1)) else (laws_FnRolls.j0 k (Int.tmod t174 (wrap64 (bt168.2.2.2.2 + 1))) false bt168.1 bt168.2.1 bt168.2.2.1 bt168.2.2.2.1)) else (laws_FnRolls.j0 k (Int.tmod t174 (wrap64 (bt168.2.2.2.2 + 1))) true bt168.1 bt168.2.1 bt168.2.2.1 bt168.2.2.2.1))))))))))
theorem laws_FnRolls.mono_l : ∀ k, (∀ y0 y1 y2 y3 y4 y5, LeO (laws_FnRolls.j0 k y0 y1 y2 y3 y4 y5) (laws_FnRolls.j0 (k + 1) y0 y1 y2 y3 y4 y5))
  | 0 => fun _ _ _ _ _ _ r h => by simp [laws_FnRolls.j0] at h
  | k + 1 => by
    have ih0 := laws_FnRolls.mono_l k
    · intro y0 y1 y2 y3 y4 y5
      unfold laws_FnRolls.j0
      repeat' first
      | (with_reducible exact ih0 _ _ _ _ _ _)
      | (with_reducible exact impl_Rolls.mono _ _ _ _ _ _ _)
      | (with_reducible exact impl_Stops.mono _ _ _ _ _ _)
      | (with_reducible exact spec_DrawRunner.mono _ _)
      | (with_reducible exact LeO.refl _)
      | (with_reducible exact LeO.none _)
      | (with_reducible refine LeO.ite ?_ ?_)
      | (with_reducible refine LeO.bind ?_ (fun _ => ?_))
      | exact ih0 _ _ _ _ _ _
      | exact impl_Rolls.mono _ _ _ _ _ _ _
      | exact impl_Stops.mono _ _ _ _ _ _
      | exact spec_DrawRunner.mono _ _
      | exact LeO.none _
      | refine LeO.ite ?_ ?_
      | refine LeO.bind ?_ (fun _ => ?_)
theorem laws_FnRolls.mono : ∀ a0 k, LeO (laws_FnRolls.f k a0) (laws_FnRolls.f (k + 1) a0) := by
  intro a0 k
  have ih0 := laws_FnRolls.mono_l k
  unfold laws_FnRolls.f
  repeat' first
      | (with_reducible exact ih0 _ _ _ _ _ _)
      | (with_reducible exact impl_Rolls.mono _ _ _ _ _ _ _)
      | (with_reducible exact impl_Stops.mono _ _ _ _ _ _)
      | (with_reducible exact spec_DrawRunner.mono _ _)
      | (with_reducible exact LeO.refl _)
      | (with_reducible exact LeO.none _)
      | (with_reducible refine LeO.ite ?_ ?_)
      | (with_reducible refine LeO.bind ?_ (fun _ => ?_))
      | exact ih0 _ _ _ _ _ _
      | exact impl_Rolls.mono _ _ _ _ _ _ _
      | exact impl_Stops.mono _ _ _ _ _ _
      | exact spec_DrawRunner.mono _ _
      | exact LeO.none _
      | refine LeO.ite ?_ ?_
      | refine LeO.bind ?_ (fun _ => ?_)
def laws_FnRolls.T6 : Bool × List (List Nat × List Nat) := (true, [([], []), ([], []), ([1], [1]), ([], []), ([3], [3]), ([4], [4]), ([2, 5], [2, 5]), ([], []), ([0, 6, 7, 4], [0, 6, 7]), ([8], [8]), ([9], [9]), ([9], [9]), ([9], [9]), ([10, 8, 0, 1, 2, 3, 4, 5, 6, 7, 8, 9, 10], [10]), ([11, 13, 0, 1, 2, 3, 4, 5, 6, 7, 8, 9, 10, 11, 13], [11]), ([12, 14, 0, 1, 2, 3, 4, 5, 6, 7, 8, 9, 10, 11, 12, 13, 14], [12])])
def laws_FnRolls.B6 : List Nat := [0, 0, 2, 0, 8, 24, 62, 0, 255, 511, 1023, 1023, 1023, 2047, 12287, 32767]
theorem laws_FnRolls.tab6 : rtab .any (opsOf Try.f5 6) = laws_FnRolls.T6 := by kernel_rfl
theorem laws_FnRolls.bits6 : waitsOk laws_FnRolls.T6.2 laws_FnRolls.B6 = true := by kernel_rfl
set_option maxHeartbeats 8000000 in
set_option maxRecDepth 100000 in
theorem laws_FnRolls.calls (k : Nat) (A0 : Option Addr) (c0 : Nat) (l0 : List Int) (r : Bool) (w : World) (hr0 : Kd.C (Kd.int .u8) w A0 l0.length l0) (hc0 : l0.length ≤ c0) (h : laws_FnRolls.f k l0 = some r) :
    Calls Try.prog 5 #[.slice A0 l0.length c0] w fun e w' => e = .returned (.bool r) ∧ Below w.heap.size w w' := by
  have hu46 := Try.underlying46
  have HR0 := Aside0.mk hr0
  have HC0 := Aside0.mk hc0
  clear hr0 hc0
  have HB := Aside0.mk (Below.refl w.heap.size w)
  have H : ((laws_big.f l0).bind fun t167 => (if t167 = true then (some true) else ((spec_DrawRunner.f k l0).bind fun bt168 => ((laws_at.f l0 2).bind fun t174 => (if (wrap64 (bt168.2.2.2.2 + 1)) = 0 then (none) else ((impl_Rolls.f k bt168.1 bt168.2.1 bt168.2.2.1 bt168.2.2.2.1 (Int.tmod t174 (wrap64 (bt168.2.2.2.2 + 1))) bt168.2.2.2.2).bind fun bt175 => ((laws_at.f l0 3).bind fun t178 => ((impl_Rolls.f k bt168.1 bt168.2.1 bt168.2.2.1 bt168.2.2.2.1 (wrap64 ((wrap64 ((Int.tmod t174 (wrap64 (bt168.2.2.2.2 + 1))) + 1)) + (Int.tmod t178 20))) bt168.2.2.2.2).bind fun bt179 => ((impl_RunnerOk.f bt168.1 bt168.2.1 bt168.2.2.1 bt168.2.2.2.1).bind fun t182 => (if t182 = true then (if bt175.2.2 = true then (if bt179.2.2 = true then (if bt179.2.1 > bt175.2.1 then (laws_FnRolls.j0 k (Int.tmod t174 (wrap64 (bt168.2.2.2.2 + 1))) true bt168.1 bt168.2.1 bt168.2.2.1 bt168.2.2.2.1) else (if bt175.1 < bt168.2.2.2.2 then (laws_FnRolls.j0 k (Int.tmod t174 (wrap64 (bt168.2.2.2.2 + 1))) true bt168.1 bt168.2.1 bt168.2.2.1 bt168.2.2.2.1) else (laws_FnRolls.j0 k (Int.tmod t174 (wrap64 (bt168.2.2.2.2 + 1))) (decide (bt179.1 < bt168.2.2.2.2)) bt168.1 bt168.2.1 bt168.2.2.1 bt168.2.2.2.1))) else (laws_FnRolls.j0 k (Int.tmod t174 (wrap64 (bt168.2.2.2.2 + 1))) true bt168.1 bt168.2.1 bt168.2.2.1 bt168.2.2.2.1)) else (laws_FnRolls.j0 k (Int.tmod t174 (wrap64 (bt168.2.2.2.2 + 1))) false bt168.1 bt168.2.1 bt168.2.2.1 bt168.2.2.2.1)) else (laws_FnRolls.j0 k (Int.tmod t174 (wrap64 (bt168.2.2.2.2 + 1))) true bt168.1 bt168.2.1 bt168.2.2.1 bt168.2.2.2.1))))))))))) = some r := h
  clear h
  replace H := Option.bind_eq_some_iff.mp H
  obtain ⟨t167, A20, H⟩ := H
  replace H : (if t167 = true then (some true) else ((spec_DrawRunner.f k l0).bind fun bt168 => ((laws_at.f l0 2).bind fun t174 => (if (wrap64 (bt168.2.2.2.2 + 1)) = 0 then (none) else ((impl_Rolls.f k bt168.1 bt168.2.1 bt168.2.2.1 bt168.2.2.2.1 (Int.tmod t174 (wrap64 (bt168.2.2.2.2 + 1))) bt168.2.2.2.2).bind fun bt175 => ((laws_at.f l0 3).bind fun t178 => ((impl_Rolls.f k bt168.1 bt168.2.1 bt168.2.2.1 bt168.2.2.2.1 (wrap64 ((wrap64 ((Int.tmod t174 (wrap64 (bt168.2.2.2.2 + 1))) + 1)) + (Int.tmod t178 20))) bt168.2.2.2.2).bind fun bt179 => ((impl_RunnerOk.f bt168.1 bt168.2.1 bt168.2.2.1 bt168.2.2.2.1).bind fun t182 => (if t182 = true then (if bt175.2.2 = true then (if bt179.2.2 = true then (if bt179.2.1 > bt175.2.1 then (laws_FnRolls.j0 k (Int.tmod t174 (wrap64 (bt168.2.2.2.2 + 1))) true bt168.1 bt168.2.1 bt168.2.2.1 bt168.2.2.2.1) else (if bt175.1 < bt168.2.2.2.2 then (laws_FnRolls.j0 k (Int.tmod t174 (wrap64 (bt168.2.2.2.2 + 1))) true bt168.1 bt168.2.1 bt168.2.2.1 bt168.2.2.2.1) else (laws_FnRolls.j0 k (Int.tmod t174 (wrap64 (bt168.2.2.2.2 + 1))) (decide (bt179.1 < bt168.2.2.2.2)) bt168.1 bt168.2.1 bt168.2.2.1 bt168.2.2.2.1))) else (laws_FnRolls.j0 k (Int.tmod t174 (wrap64 (bt168.2.2.2.2 + 1))) true bt168.1 bt168.2.1 bt168.2.2.1 bt168.2.2.2.1)) else (laws_FnRolls.j0 k (Int.tmod t174 (wrap64 (bt168.2.2.2.2 + 1))) false bt168.1 bt168.2.1 bt168.2.2.1 bt168.2.2.2.1)) else (laws_FnRolls.j0 k (Int.tmod t174 (wrap64 (bt168.2.2.2.2 + 1))) true bt168.1 bt168.2.1 bt168.2.2.1 bt168.2.2.2.1)))))))))) = some r := H
  have A2 := Aside0.mk A20
  clear A20
  by_cases c3 : t167 = true
  · subst c3
    have H1 : (some true) = some r := by rw [if_pos rfl] at H; exact H
    clear H
    have H := H1
    clear H1
    obtain rfl := Option.some.inj H
    go_enter Try.func5, Try.ntmps5
    go_wp2_with (first | ((with_reducible refine gate_callee (f := 26) rfl ?_); refine goesL_ (some 17) rfl rfl Try.func26 (by kernel_rfl) rfl #[.slice A0 l0.length c0] rfl (by (try simp only [List.map_toArray, List.map_cons, List.map_nil]); first | done | rfl | (simp only [List.length_drop, List.length_take]; rfl)) ?_; (with_reducible refine (laws_big.calls _ _ l0 true _ ?side1 ?side2 A2.out).mono ?_); (case side1 => repeat (first | exact HR0.out | (with_reducible refine Kd.C_alloc ?_ _) | (with_reducible refine Kd.C_drewN ?_ _) | (with_reducible refine Kd.C_drew ?_))); (case side2 => exact HC0.out); rintro e w' ⟨rfl, ⟨nd, rfl⟩⟩; refine ⟨_, rfl, ?_⟩))
    go_ret
    exact ⟨by first | rfl | (simp [errW_none, errW_some] <;> rfl) | (simp [*, errW_none, errW_some] <;> rfl), by repeat (first | (with_reducible first | exact HB.out | apply below_alloc | apply pw_below_drewN | apply below_drew1) | exact HB.out)⟩
  · replace c3 := Bool.eq_false_iff.mpr c3
    subst c3
    have H1 : ((spec_DrawRunner.f k l0).bind fun bt168 => ((laws_at.f l0 2).bind fun t174 => (if (wrap64 (bt168.2.2.2.2 + 1)) = 0 then (none) else ((impl_Rolls.f k bt168.1 bt168.2.1 bt168.2.2.1 bt168.2.2.2.1 (Int.tmod t174 (wrap64 (bt168.2.2.2.2 + 1))) bt168.2.2.2.2).bind fun bt175 => ((laws_at.f l0 3).bind fun t178 => ((impl_Rolls.f k bt168.1 bt168.2.1 bt168.2.2.1 bt168.2.2.2.1 (wrap64 ((wrap64 ((Int.tmod t174 (wrap64 (bt168.2.2.2.2 + 1))) + 1)) + (Int.tmod t178 20))) bt168.2.2.2.2).bind fun bt179 => ((impl_RunnerOk.f bt168.1 bt168.2.1 bt168.2.2.1 bt168.2.2.2.1).bind fun t182 => (if t182 = true then (if bt175.2.2 = true then (if bt179.2.2 = true then (if bt179.2.1 > bt175.2.1 then (laws_FnRolls.j0 k (Int.tmod t174 (wrap64 (bt168.2.2.2.2 + 1))) true bt168.1 bt168.2.1 bt168.2.2.1 bt168.2.2.2.1) else (if bt175.1 < bt168.2.2.2.2 then (laws_FnRolls.j0 k (Int.tmod t174 (wrap64 (bt168.2.2.2.2 + 1))) true bt168.1 bt168.2.1 bt168.2.2.1 bt168.2.2.2.1) else (laws_FnRolls.j0 k (Int.tmod t174 (wrap64 (bt168.2.2.2.2 + 1))) (decide (bt179.1 < bt168.2.2.2.2)) bt168.1 bt168.2.1 bt168.2.2.1 bt168.2.2.2.1))) else (laws_FnRolls.j0 k (Int.tmod t174 (wrap64 (bt168.2.2.2.2 + 1))) true bt168.1 bt168.2.1 bt168.2.2.1 bt168.2.2.2.1)) else (laws_FnRolls.j0 k (Int.tmod t174 (wrap64 (bt168.2.2.2.2 + 1))) false bt168.1 bt168.2.1 bt168.2.2.1 bt168.2.2.2.1)) else (laws_FnRolls.j0 k (Int.tmod t174 (wrap64 (bt168.2.2.2.2 + 1))) true bt168.1 bt168.2.1 bt168.2.2.1 bt168.2.2.2.1))))))))) = some r := by rw [if_neg (show ¬ (false = true) by decide)] at H; exact H
    clear H
    have H := H1
    clear H1
    replace H := Option.bind_eq_some_iff.mp H
    obtain ⟨⟨t168, t169, t170, t171, t172⟩, A40, H⟩ := H
    replace H : ((laws_at.f l0 2).bind fun t174 => (if (wrap64 (t172 + 1)) = 0 then (none) else ((impl_Rolls.f k t168 t169 t170 t171 (Int.tmod t174 (wrap64 (t172 + 1))) t172).bind fun bt175 => ((laws_at.f l0 3).bind fun t178 => ((impl_Rolls.f k t168 t169 t170 t171 (wrap64 ((wrap64 ((Int.tmod t174 (wrap64 (t172 + 1))) + 1)) + (Int.tmod t178 20))) t172).bind fun bt179 => ((impl_RunnerOk.f t168 t169 t170 t171).bind fun t182 => (if t182 = true then (if bt175.2.2 = true then (if bt179.2.2 = true then (if bt179.2.1 > bt175.2.1 then (laws_FnRolls.j0 k (Int.tmod t174 (wrap64 (t172 + 1))) true t168 t169 t170 t171) else (if bt175.1 < t172 then (laws_FnRolls.j0 k (Int.tmod t174 (wrap64 (t172 + 1))) true t168 t169 t170 t171) else (laws_FnRolls.j0 k (Int.tmod t174 (wrap64 (t172 + 1))) (decide (bt179.1 < t172)) t168 t169 t170 t171))) else (laws_FnRolls.j0 k (Int.tmod t174 (wrap64 (t172 + 1))) true t168 t169 t170 t171)) else (laws_FnRolls.j0 k (Int.tmod t174 (wrap64 (t172 + 1))) false t168 t169 t170 t171)) else (laws_FnRolls.j0 k (Int.tmod t174 (wrap64 (t172 + 1))) true t168 t169 t170 t171)))))))) = some r := H
    have A4 := Aside0.mk A40
    clear A40
    replace H := Option.bind_eq_some_iff.mp H
    obtain ⟨t174, A50, H⟩ := H
    replace H : (if (wrap64 (t172 + 1)) = 0 then (none) else ((impl_Rolls.f k t168 t169 t170 t171 (Int.tmod t174 (wrap64 (t172 + 1))) t172).bind fun bt175 => ((laws_at.f l0 3).bind fun t178 => ((impl_Rolls.f k t168 t169 t170 t171 (wrap64 ((wrap64 ((Int.tmod t174 (wrap64 (t172 + 1))) + 1)) + (Int.tmod t178 20))) t172).bind fun bt179 => ((impl_RunnerOk.f t168 t169 t170 t171).bind fun t182 => (if t182 = true then (if bt175.2.2 = true then (if bt179.2.2 = true then (if bt179.2.1 > bt175.2.1 then (laws_FnRolls.j0 k (Int.tmod t174 (wrap64 (t172 + 1))) true t168 t169 t170 t171) else (if bt175.1 < t172 then (laws_FnRolls.j0 k (Int.tmod t174 (wrap64 (t172 + 1))) true t168 t169 t170 t171) else (laws_FnRolls.j0 k (Int.tmod t174 (wrap64 (t172 + 1))) (decide (bt179.1 < t172)) t168 t169 t170 t171))) else (laws_FnRolls.j0 k (Int.tmod t174 (wrap64 (t172 + 1))) true t168 t169 t170 t171)) else (laws_FnRolls.j0 k (Int.tmod t174 (wrap64 (t172 + 1))) false t168 t169 t170 t171)) else (laws_FnRolls.j0 k (Int.tmod t174 (wrap64 (t172 + 1))) true t168 t169 t170 t171))))))) = some r := H
    have A5 := Aside0.mk A50
    clear A50
    by_cases c6 : (wrap64 (t172 + 1)) = 0
    · rw [if_pos c6] at H
      exact absurd H (by simp)
    · rw [if_neg c6] at H
      have c6b0 : ((wrap64 (t172 + 1)) == 0) = false := beq_eq_false_iff_ne.mpr c6
      have c6b1 : ((wrap64 (t172 + 1)) != 0) = true := bne_iff_ne.mpr c6
      replace H := Option.bind_eq_some_iff.mp H
      obtain ⟨⟨t175, t176, t177⟩, A70, H⟩ := H
      replace H : ((laws_at.f l0 3).bind fun t178 => ((impl_Rolls.f k t168 t169 t170 t171 (wrap64 ((wrap64 ((Int.tmod t174 (wrap64 (t172 + 1))) + 1)) + (Int.tmod t178 20))) t172).bind fun bt179 => ((impl_RunnerOk.f t168 t169 t170 t171).bind fun t182 => (if t182 = true then (if t177 = true then (if bt179.2.2 = true then (if bt179.2.1 > t176 then (laws_FnRolls.j0 k (Int.tmod t174 (wrap64 (t172 + 1))) true t168 t169 t170 t171) else (if t175 < t172 then (laws_FnRolls.j0 k (Int.tmod t174 (wrap64 (t172 + 1))) true t168 t169 t170 t171) else (laws_FnRolls.j0 k (Int.tmod t174 (wrap64 (t172 + 1))) (decide (bt179.1 < t172)) t168 t169 t170 t171))) else (laws_FnRolls.j0 k (Int.tmod t174 (wrap64 (t172 + 1))) true t168 t169 t170 t171)) else (laws_FnRolls.j0 k (Int.tmod t174 (wrap64 (t172 + 1))) false t168 t169 t170 t171)) else (laws_FnRolls.j0 k (Int.tmod t174 (wrap64 (t172 + 1))) true t168 t169 t170 t171))))) = some r := H
      have A7 := Aside0.mk A70
      clear A70
      replace H := Option.bind_eq_some_iff.mp H
      obtain ⟨t178, A80, H⟩ := H
      replace H : ((impl_Rolls.f k t168 t169 t170 t171 (wrap64 ((wrap64 ((Int.tmod t174 (wrap64 (t172 + 1))) + 1)) + (Int.tmod t178 20))) t172).bind fun bt179 => ((impl_RunnerOk.f t168 t169 t170 t171).bind fun t182 => (if t182 = true then (if t177 = true then (if bt179.2.2 = true then (if bt179.2.1 > t176 then (laws_FnRolls.j0 k (Int.tmod t174 (wrap64 (t172 + 1))) true t168 t169 t170 t171) else (if t175 < t172 then (laws_FnRolls.j0 k (Int.tmod t174 (wrap64 (t172 + 1))) true t168 t169 t170 t171) else (laws_FnRolls.j0 k (Int.tmod t174 (wrap64 (t172 + 1))) (decide (bt179.1 < t172)) t168 t169 t170 t171))) else (laws_FnRolls.j0 k (Int.tmod t174 (wrap64 (t172 + 1))) true t168 t169 t170 t171)) else (laws_FnRolls.j0 k (Int.tmod t174 (wrap64 (t172 + 1))) false t168 t169 t170 t171)) else (laws_FnRolls.j0 k (Int.tmod t174 (wrap64 (t172 + 1))) true t168 t169 t170 t171)))) = some r := H
      have A8 := Aside0.mk A80
      clear A80
      replace H := Option.bind_eq_some_iff.mp H
      obtain ⟨⟨t179, t180, t181⟩, A90, H⟩ := H
      replace H : ((impl_RunnerOk.f t168 t169 t170 t171).bind fun t182 => (if t182 = true then (if t177 = true then (if t181 = true then (if t180 > t176 then (laws_FnRolls.j0 k (Int.tmod t174 (wrap64 (t172 + 1))) true t168 t169 t170 t171) else (if t175 < t172 then (laws_FnRolls.j0 k (Int.tmod t174 (wrap64 (t172 + 1))) true t168 t169 t170 t171) else (laws_FnRolls.j0 k (Int.tmod t174 (wrap64 (t172 + 1))) (decide (t179 < t172)) t168 t169 t170 t171))) else (laws_FnRolls.j0 k (Int.tmod t174 (wrap64 (t172 + 1))) true t168 t169 t170 t171)) else (laws_FnRolls.j0 k (Int.tmod t174 (wrap64 (t172 + 1))) false t168 t169 t170 t171)) else (laws_FnRolls.j0 k (Int.tmod t174 (wrap64 (t172 + 1))) true t168 t169 t170 t171))) = some r := H
      have A9 := Aside0.mk A90
      clear A90
      have HC10 := Aside0.mk H
      clear H
      go_enter Try.func5, Try.ntmps5
      try go_wp2_with (first | ((with_reducible refine gate_callee (f := 26) rfl ?_); refine goesL_ (some 17) rfl rfl Try.func26 (by kernel_rfl) rfl #[.slice A0 l0.length c0] rfl (by (try simp only [List.map_toArray, List.map_cons, List.map_nil]); first | done | rfl | (simp only [List.length_drop, List.length_take]; rfl)) ?_; (with_reducible refine (laws_big.calls _ _ l0 false _ ?side1 ?side2 A2.out).mono ?_); (case side1 => repeat (first | exact HR0.out | (with_reducible refine Kd.C_alloc ?_ _) | (with_reducible refine Kd.C_drewN ?_ _) | (with_reducible refine Kd.C_drew ?_))); (case side2 => exact HC0.out); rintro e w' ⟨rfl, ⟨nd, rfl⟩⟩; refine ⟨_, rfl, ?_⟩) | ((with_reducible refine gate_callee (f := 27) rfl ?_); refine goesL_ (some 20) rfl rfl Try.func27 (by kernel_rfl) rfl #[.slice A0 l0.length c0] rfl (by (try simp only [List.map_toArray, List.map_cons, List.map_nil]); first | done | rfl | (simp only [List.length_drop, List.length_take]; rfl)) ?_; (with_reducible refine (spec_DrawRunner.calls k _ _ l0 t168 t169 t170 t171 t172 _ ?side1 ?side2 A4.out).mono ?_); (case side1 => repeat (first | exact HR0.out | (with_reducible refine Kd.C_alloc ?_ _) | (with_reducible refine Kd.C_drewN ?_ _) | (with_reducible refine Kd.C_drew ?_))); (case side2 => exact HC0.out); rintro e w11 ⟨rfl, hb⟩; refine ⟨_, rfl, ?_⟩; have n0_ := Aside0.mk (below_step (by repeat (first | (with_reducible first | exact HB.out | apply below_alloc | apply pw_below_drewN | apply below_drew1) | exact HB.out)) hb); clear HB; have HB := n0_; clear n0_; (try clear hb); (try clear hb2); (try clear hk); (try clear hi)) | ((with_reducible refine gate_dst (N := 3) rfl ?_); refine box_event ?hg (N := 3) ?hd (cs := #[.int .i64 0, .int .i64 0, .int .i64 0, .int .i64 0]) (t := 46) ?hr ?_; (case hd => rfl); (case hg => rfl); (case hr => first | (go_simp; done) | (go_simp; rfl)); intro gb173 hg w12 hbox hb; have n0_ := Aside0.mk (below_step (by repeat (first | (with_reducible first | exact HB.out | apply below_alloc | apply pw_below_drewN | apply below_drew1) | exact HB.out)) hb); have n1_ := Aside0.mk (hbox); have n2_ := Aside0.mk ((by rw [hg]; exact (below_size (by repeat (first | (with_reducible first | exact HB.out | apply below_alloc | apply pw_below_drewN | apply below_drew1) | exact HB.out))) : w.heap.size ≤ gb173)); have n3_ := Aside0.mk ((by rw [hg]; exact (below_size (by repeat (first | (with_reducible first | exact HB.out | apply below_alloc | apply pw_below_drewN | apply below_drew1) | exact HB.out))) : w.heap.size ≤ gb173)); clear HB; have HB := n0_; have BK173 := n1_; have GW173 := n2_; have GE173 := n3_; clear n0_ n1_ n2_ n3_; clear hb hbox hg; have hcz13_0 : w12.cell? ⟨gb173, 0, none⟩ = some (.int .i64 0) := (blk_cell BK173.out 0).trans rfl; have hcz13_1 : w12.cell? ⟨gb173, 1, none⟩ = some (.int .i64 0) := (blk_cell BK173.out 1).trans rfl; have hcz13_2 : w12.cell? ⟨gb173, 2, none⟩ = some (.int .i64 0) := (blk_cell BK173.out 2).trans rfl; have hcz13_3 : w12.cell? ⟨gb173, 3, none⟩ = some (.int .i64 0) := (blk_cell BK173.out 3).trans rfl; have hfz13_0 := blk_frozen BK173.out 0; have hfz13_1 := blk_frozen BK173.out 1; have hfz13_2 := blk_frozen BK173.out 2; have hfz13_3 := blk_frozen BK173.out 3) | ((with_reducible refine gate_callee (f := 28) rfl ?_); refine goesL_ (some 24) rfl rfl Try.func28 (by kernel_rfl) rfl #[.slice A0 l0.length c0, .int .i64 2] rfl (by (try simp only [List.map_toArray, List.map_cons, List.map_nil]); first | done | rfl | (simp only [List.length_drop, List.length_take]; rfl)) ?_; (with_reducible refine (laws_at.calls _ _ l0 2 t174 _ ?side1 ?side2 A5.out).mono ?_); (case side1 => exact Kd.C_below HR0.out (by repeat (first | (with_reducible first | exact HB.out | apply below_alloc | apply pw_below_drewN | apply below_drew1 | refine below_set ?_ GE173.out) | exact HB.out))); (case side2 => exact HC0.out); rintro e w' ⟨rfl, ⟨nd, rfl⟩⟩; refine ⟨_, rfl, ?_⟩) | ((with_reducible refine gate_callee (f := 29) rfl ?_); refine goesL_ (some 32) rfl rfl Try.func29 (by kernel_rfl) rfl #[.agg #[.int .i64 t168, .int .i64 t169, .int .i64 t170, .int .i64 t171], .int .i64 (Int.tmod t174 (wrap64 (t172 + 1))), .int .i64 t172] rfl (by (try simp only [List.map_toArray, List.map_cons, List.map_nil]); first | done | rfl | (simp only [List.length_drop, List.length_take]; rfl)) ?_; (with_reducible refine (impl_Rolls.calls k t168 t169 t170 t171 (Int.tmod t174 (wrap64 (t172 + 1))) t172 t175 t176 t177 _ A7.out).mono ?_); rintro e w14 ⟨rfl, hb⟩; refine ⟨_, rfl, ?_⟩; have n0_ := Aside0.mk (blk_below (g := gb173) (o := .cells #[.int .i64 t168, .int .i64 t169, .int .i64 t170, .int .i64 t171] 46 (0, 0)) (by (with_reducible repeat (first | refine blk_drewN ?_ _ | refine blk_drew ?_ | refine blk_alloc ?_ _)); refine blk_put (cs := #[.int .i64 t168, .int .i64 t169, .int .i64 t170, .int .i64 0]) ?_ 3 _ rfl; (with_reducible repeat (first | refine blk_drewN ?_ _ | refine blk_drew ?_ | refine blk_alloc ?_ _)); refine blk_put (cs := #[.int .i64 t168, .int .i64 t169, .int .i64 0, .int .i64 0]) ?_ 2 _ rfl; (with_reducible repeat (first | refine blk_drewN ?_ _ | refine blk_drew ?_ | refine blk_alloc ?_ _)); refine blk_put (cs := #[.int .i64 t168, .int .i64 0, .int .i64 0, .int .i64 0]) ?_ 1 _ rfl; (with_reducible repeat (first | refine blk_drewN ?_ _ | refine blk_drew ?_ | refine blk_alloc ?_ _)); refine blk_put (cs := #[.int .i64 0, .int .i64 0, .int .i64 0, .int .i64 0]) ?_ 0 _ rfl; (with_reducible repeat (first | refine blk_drewN ?_ _ | refine blk_drew ?_ | refine blk_alloc ?_ _)); exact BK173.out) hb); have n1_ := Aside0.mk (below_step (by repeat (first | (with_reducible first | exact HB.out | apply below_alloc | apply pw_below_drewN | apply below_drew1 | refine below_set ?_ GE173.out) | exact HB.out)) hb); clear BK173; clear HB; have BK173 := n0_; have HB := n1_; clear n0_ n1_; (try clear hb); (try clear hb2); (try clear hk); (try clear hi)))
      have n0_ := Aside0.mk (blk_drew BK173.out)
      have n1_ := Aside0.mk (below_drew1 HB.out)
      clear BK173
      clear HB
      have BK173 := n0_
      have HB := n1_
      clear n0_ n1_
      refine start_ (n := 16) (S := fun w' => w'.cell? ⟨gb173, 0, none⟩ = some (.int .i64 t168) ∧ w'.cell? ⟨gb173, 1, none⟩ = some (.int .i64 t169) ∧ w'.cell? ⟨gb173, 2, none⟩ = some (.int .i64 t170) ∧ w'.cell? ⟨gb173, 3, none⟩ = some (.int .i64 t171)) (ds := []) #[false, false, false, false, false, false, false, false, false, false, false, false, false, false, false, false] (by kernel_rfl) rfl rfl ⟨(blk_cell BK173.out 0).trans rfl, (blk_cell BK173.out 1).trans rfl, (blk_cell BK173.out 2).trans rfl, (blk_cell BK173.out 3).trans rfl⟩ (fun hHeld => ?_); refine with_tabW laws_FnRolls.tab6 laws_FnRolls.bits6 (fun HT_ HW_ => ?_)
      generalize w14.drew = w15 at BK173 HB hHeld ⊢
      refine pure_ (i := 1) (N := some 38) (v := ?_) (a' := ?_) #[false, true, false, false, false, false, false, false, false, false, false, false, false, false, false, false] rfl rfl (any_of HT_.out (by kernel_rfl)) (fun _ _ _ h => h) (Or.inl ⟨by rfl, ?_⟩) ?_ ?_
      rotate_left
      · intro w'
        go_simp
        with_reducible rfl
      rotate_left
      · simp only [Act.put, List.setIfInBounds_toArray, List.set_cons_zero, List.set_cons_succ, i64_w, i32_w]
        rfl
      refine pure_ (i := 2) (N := some 39) (v := ?_) (a' := ?_) #[false, true, true, false, false, false, false, false, false, false, false, false, false, false, false, false] rfl rfl (any_of HT_.out (by kernel_rfl)) (fun _ _ _ h => h) (Or.inl ⟨by rfl, ?_⟩) ?_ ?_
      rotate_left
      · intro w'
        go_simp
        with_reducible rfl
      rotate_left
      · simp only [Act.put, List.setIfInBounds_toArray, List.set_cons_zero, List.set_cons_succ, i64_w, i32_w]
        rfl
      refine pure_ (i := 3) (N := some 40) (v := ?_) (a' := ?_) #[false, true, true, true, false, false, false, false, false, false, false, false, false, false, false, false] rfl rfl (any_of HT_.out (by kernel_rfl)) (fun _ _ _ h => h) (Or.inl ⟨by rfl, ?_⟩) ?_ ?_
      rotate_left
      · intro w'
        go_simp
        with_reducible rfl
      rotate_left
      · simp only [Act.put, List.setIfInBounds_toArray, List.set_cons_zero, List.set_cons_succ, i64_w, i32_w]
        rfl
      refine pure_ (i := 7) (N := some 44) (v := ?_) (a' := ?_) #[false, true, true, true, false, false, false, true, false, false, false, false, false, false, false, false] rfl rfl (any_of HT_.out (by kernel_rfl)) (fun _ _ _ h => h) (Or.inl ⟨by rfl, ?_⟩) ?_ ?_
      rotate_left
      · intro w'
        go_simp
        with_reducible rfl
      rotate_left
      · simp only [Act.put, List.setIfInBounds_toArray, List.set_cons_zero, List.set_cons_succ, i64_w, i32_w]
        rfl
      refine take_ (i := 0) (N := some 37) (v := ?_) (a' := ?_) #[true, true, true, true, false, false, false, true, false, false, false, false, false, false, false, false] rfl rfl (take_ofW HT_.out HW_.out (by kernel_rfl)) (fun _ _ _ h => h) (Or.inl ⟨by rfl, ?_⟩) hHeld ?_ ?_
      rotate_left
      · rintro w' ⟨s0, s1, s2, s3⟩
        go_simp
        with_reducible rfl
      rotate_left
      · simp only [Act.put, List.setIfInBounds_toArray, List.set_cons_zero, List.set_cons_succ, i64_w, i32_w]
        rfl
      refine one_ (i := 4) (N := some 41) #[true, true, true, true, true, false, false, true, false, false, false, false, false, false, false, false] rfl rfl (one_of HT_.out (by kernel_rfl)) (by decide) (fun K hK => ?_)
      refine goes_ Try.func28 (by kernel_rfl) rfl #[.slice A0 l0.length c0, .int .i64 3] (by rfl) rfl rfl (by (try simp only [List.map_toArray, List.map_cons, List.map_nil]); first | done | rfl | (simp only [List.length_drop, List.length_take]; rfl)) ?_
      with_reducible refine (laws_at.calls _ _ l0 3 t178 _ ?side1 ?side2 A8.out).mono ?_
      (case side1 => repeat (first | exact (Kd.C_below HR0.out HB.out) | (with_reducible refine Kd.C_alloc ?_ _) | (with_reducible refine Kd.C_drewN ?_ _) | (with_reducible refine Kd.C_drew ?_)))
      (case side2 => exact HC0.out)
      rintro e w' ⟨rfl, ⟨nd, rfl⟩⟩
      refine ⟨_, rfl, ?_⟩
      refine hK.out _ _ ⟨(blk_cell BK173.out 0).trans rfl, (blk_cell BK173.out 1).trans rfl, (blk_cell BK173.out 2).trans rfl, (blk_cell BK173.out 3).trans rfl⟩ (fun hHeld => ?_)
      clear hK K
      refine norm_ (a' := ?_) ?_ ?_
      rotate_left
      · show Act.put _ (some 41) _ = _
        simp only [Act.put, List.setIfInBounds_toArray, List.set_cons_zero, List.set_cons_succ, i64_w, i32_w]
        rfl
      refine pure_ (i := 5) (N := some 42) (v := ?_) (a' := ?_) #[true, true, true, true, true, true, false, true, false, false, false, false, false, false, false, false] rfl rfl (any_of HT_.out (by kernel_rfl)) (fun _ _ _ h => h) (Or.inl ⟨by rfl, ?_⟩) ?_ ?_
      rotate_left
      · intro w'
        go_simp
        with_reducible rfl
      rotate_left
      · simp only [Act.put, List.setIfInBounds_toArray, List.set_cons_zero, List.set_cons_succ, i64_w, i32_w]
        rfl
      refine pure_ (i := 6) (N := some 43) (v := ?_) (a' := ?_) #[true, true, true, true, true, true, true, true, false, false, false, false, false, false, false, false] rfl rfl (any_of HT_.out (by kernel_rfl)) (fun _ _ _ h => h) (Or.inl ⟨by rfl, ?_⟩) ?_ ?_
      rotate_left
      · intro w'
        go_simp
        with_reducible rfl
      rotate_left
      · simp only [Act.put, List.setIfInBounds_toArray, List.set_cons_zero, List.set_cons_succ, i64_w, i32_w]
        rfl
      refine one_ (i := 8) (N := some 45) #[true, true, true, true, true, true, true, true, true, false, false, false, false, false, false, false] rfl rfl (one_of HT_.out (by kernel_rfl)) (by decide) (fun K hK => ?_)
      refine goes_ Try.func29 (by kernel_rfl) rfl #[.agg #[.int .i64 t168, .int .i64 t169, .int .i64 t170, .int .i64 t171], .int .i64 (wrap64 ((wrap64 ((Int.tmod t174 (wrap64 (t172 + 1))) + 1)) + (Int.tmod t178 20))), .int .i64 t172] (by rfl) rfl rfl (by (try simp only [List.map_toArray, List.map_cons, List.map_nil]); first | done | rfl | (simp only [List.length_drop, List.length_take]; rfl)) ?_
      with_reducible refine (impl_Rolls.calls k t168 t169 t170 t171 (wrap64 ((wrap64 ((Int.tmod t174 (wrap64 (t172 + 1))) + 1)) + (Int.tmod t178 20))) t172 t179 t180 t181 _ A9.out).mono ?_
      rintro e w16 ⟨rfl, hb⟩
      refine ⟨_, rfl, ?_⟩
      have n0_ := Aside0.mk (blk_below (g := gb173) (o := .cells #[.int .i64 t168, .int .i64 t169, .int .i64 t170, .int .i64 t171] 46 (0, 0)) (by (with_reducible repeat (first | refine blk_drewN ?_ _ | refine blk_drew ?_ | refine blk_alloc ?_ _)); exact BK173.out) hb)
      have n1_ := Aside0.mk (below_step (by repeat (first | (with_reducible first | exact HB.out | apply below_alloc | apply pw_below_drewN | apply below_drew1 | refine below_set ?_ GE173.out) | exact HB.out)) hb)
      clear BK173
      clear HB
      have BK173 := n0_
      have HB := n1_
      clear n0_ n1_
      (try clear hb)
      (try clear hb2)
      (try clear hk)
      (try clear hi)
      refine hK.out _ _ ⟨(blk_cell BK173.out 0).trans rfl, (blk_cell BK173.out 1).trans rfl, (blk_cell BK173.out 2).trans rfl, (blk_cell BK173.out 3).trans rfl⟩ (fun hHeld => ?_)
      clear hK K
      refine norm_ (a' := ?_) ?_ ?_
      rotate_left
      · show Act.put _ (some 45) _ = _
        simp only [Act.put, List.setIfInBounds_toArray, List.set_cons_zero, List.set_cons_succ, i64_w, i32_w]
        rfl
      refine pure_ (i := 9) (N := some 36) (v := ?_) (a' := ?_) #[true, true, true, true, true, true, true, true, true, true, false, false, false, false, false, false] rfl rfl (any_of HT_.out (by kernel_rfl)) (fun _ _ _ h => h) (Or.inl ⟨by rfl, ?_⟩) ?_ ?_
      rotate_left
      · intro w'
        go_simp
        with_reducible rfl
      rotate_left
      · simp only [Act.put, List.setIfInBounds_toArray, List.set_cons_zero, List.set_cons_succ, i64_w, i32_w]
        rfl
      refine pure_ (i := 10) (N := some 46) (v := ?_) (a' := ?_) #[true, true, true, true, true, true, true, true, true, true, true, false, false, false, false, false] rfl rfl (any_of HT_.out (by kernel_rfl)) (fun _ _ _ h => h) (Or.inl ⟨by rfl, ?_⟩) ?_ ?_
      rotate_left
      · intro w'
        go_simp
        with_reducible rfl
      rotate_left
      · simp only [Act.put, List.setIfInBounds_toArray, List.set_cons_zero, List.set_cons_succ, i64_w, i32_w]
        rfl
      refine pure_ (i := 11) (N := some 47) (v := ?_) (a' := ?_) #[true, true, true, true, true, true, true, true, true, true, true, true, false, false, false, false] rfl rfl (any_of HT_.out (by kernel_rfl)) (fun _ _ _ h => h) (Or.inl ⟨by rfl, ?_⟩) ?_ ?_
      rotate_left
      · intro w'
        go_simp
        with_reducible rfl
      rotate_left
      · simp only [Act.put, List.setIfInBounds_toArray, List.set_cons_zero, List.set_cons_succ, i64_w, i32_w]
        rfl
      refine pure_ (i := 12) (N := some 48) (v := ?_) (a' := ?_) #[true, true, true, true, true, true, true, true, true, true, true, true, true, false, false, false] rfl rfl (any_of HT_.out (by kernel_rfl)) (fun _ _ _ h => h) (Or.inl ⟨by rfl, ?_⟩) ?_ ?_
      rotate_left
      · intro w'
        go_simp
        with_reducible rfl
      rotate_left
      · simp only [Act.put, List.setIfInBounds_toArray, List.set_cons_zero, List.set_cons_succ, i64_w, i32_w]
        rfl
      refine pure_ (i := 13) (N := some 9) (v := ?_) (a' := ?_) #[true, true, true, true, true, true, true, true, true, true, true, true, true, true, false, false] rfl rfl (any_of HT_.out (by kernel_rfl)) (fun _ _ _ h => h) (Or.inl ⟨by rfl, ?_⟩) ?_ ?_
      rotate_left
      · intro w'
        go_simp
        with_reducible rfl
      rotate_left
      · simp only [Act.put, List.setIfInBounds_toArray, List.set_cons_zero, List.set_cons_succ, i64_w, i32_w]
        rfl
      refine pure_ (i := 14) (N := some 10) (v := ?_) (a' := ?_) #[true, true, true, true, true, true, true, true, true, true, true, true, true, true, true, false] rfl rfl (any_of HT_.out (by kernel_rfl)) (fun _ _ _ h => h) (Or.inl ⟨by rfl, ?_⟩) ?_ ?_
      rotate_left
      · intro w'
        go_simp
        with_reducible rfl
      rotate_left
      · simp only [Act.put, List.setIfInBounds_toArray, List.set_cons_zero, List.set_cons_succ, i64_w, i32_w]
        rfl
      refine pure_ (i := 15) (N := some 11) (v := ?_) (a' := ?_) #[true, true, true, true, true, true, true, true, true, true, true, true, true, true, true, true] rfl rfl (any_of HT_.out (by kernel_rfl)) (fun _ _ _ h => h) (Or.inl ⟨by rfl, ?_⟩) ?_ ?_
      rotate_left
      · intro w'
        go_simp
        with_reducible rfl
      rotate_left
      · simp only [Act.put, List.setIfInBounds_toArray, List.set_cons_zero, List.set_cons_succ, i64_w, i32_w]
        rfl
      refine done_ (done_of HT_.out (by kernel_rfl)) ?_
      go_upto_region 7 with (fail)
      go_cut [76] (fun v76 wc => ∃ (kq : Nat) (x76_9 : Bool), v76 = .bool x76_9 ∧ Aside0 (laws_FnRolls.j0 kq (Int.tmod t174 (wrap64 (t172 + 1))) x76_9 t168 t169 t170 t171 = some r) ∧ Aside0 (kq ≤ k) ∧ Aside0 (wc.heap[gb173]? = some (.cells #[.int .i64 t168, .int .i64 t169, .int .i64 t170, .int .i64 t171] 46 (0, 0))) ∧ Aside0 (Below w.heap.size w wc))
      case first =>
        have H := HC10.out
        clear HC10
        replace H := Option.bind_eq_some_iff.mp H
        obtain ⟨t182, A170, H⟩ := H
        replace H : (if t182 = true then (if t177 = true then (if t181 = true then (if t180 > t176 then (laws_FnRolls.j0 k (Int.tmod t174 (wrap64 (t172 + 1))) true t168 t169 t170 t171) else (if t175 < t172 then (laws_FnRolls.j0 k (Int.tmod t174 (wrap64 (t172 + 1))) true t168 t169 t170 t171) else (laws_FnRolls.j0 k (Int.tmod t174 (wrap64 (t172 + 1))) (decide (t179 < t172)) t168 t169 t170 t171))) else (laws_FnRolls.j0 k (Int.tmod t174 (wrap64 (t172 + 1))) true t168 t169 t170 t171)) else (laws_FnRolls.j0 k (Int.tmod t174 (wrap64 (t172 + 1))) false t168 t169 t170 t171)) else (laws_FnRolls.j0 k (Int.tmod t174 (wrap64 (t172 + 1))) true t168 t169 t170 t171)) = some r := H
        have A17 := Aside0.mk A170
        clear A170
        by_cases c18 : t182 = true
        · subst c18
          have H1 : (if t177 = true then (if t181 = true then (if t180 > t176 then (laws_FnRolls.j0 k (Int.tmod t174 (wrap64 (t172 + 1))) true t168 t169 t170 t171) else (if t175 < t172 then (laws_FnRolls.j0 k (Int.tmod t174 (wrap64 (t172 + 1))) true t168 t169 t170 t171) else (laws_FnRolls.j0 k (Int.tmod t174 (wrap64 (t172 + 1))) (decide (t179 < t172)) t168 t169 t170 t171))) else (laws_FnRolls.j0 k (Int.tmod t174 (wrap64 (t172 + 1))) true t168 t169 t170 t171)) else (laws_FnRolls.j0 k (Int.tmod t174 (wrap64 (t172 + 1))) false t168 t169 t170 t171)) = some r := by rw [if_pos rfl] at H; exact H
          clear H
          have H := H1
          clear H1
          by_cases c19 : t177 = true
          · subst c19
            have H1 : (if t181 = true then (if t180 > t176 then (laws_FnRolls.j0 k (Int.tmod t174 (wrap64 (t172 + 1))) true t168 t169 t170 t171) else (if t175 < t172 then (laws_FnRolls.j0 k (Int.tmod t174 (wrap64 (t172 + 1))) true t168 t169 t170 t171) else (laws_FnRolls.j0 k (Int.tmod t174 (wrap64 (t172 + 1))) (decide (t179 < t172)) t168 t169 t170 t171))) else (laws_FnRolls.j0 k (Int.tmod t174 (wrap64 (t172 + 1))) true t168 t169 t170 t171)) = some r := by rw [if_pos rfl] at H; exact H
            clear H
            have H := H1
            clear H1
            by_cases c20 : t181 = true
            · subst c20
              have H1 : (if t180 > t176 then (laws_FnRolls.j0 k (Int.tmod t174 (wrap64 (t172 + 1))) true t168 t169 t170 t171) else (if t175 < t172 then (laws_FnRolls.j0 k (Int.tmod t174 (wrap64 (t172 + 1))) true t168 t169 t170 t171) else (laws_FnRolls.j0 k (Int.tmod t174 (wrap64 (t172 + 1))) (decide (t179 < t172)) t168 t169 t170 t171))) = some r := by rw [if_pos rfl] at H; exact H
              clear H
              have H := H1
              clear H1
              by_cases c21 : t180 > t176
              · rw [if_pos c21] at H
                have c21b0 : decide (t176 < t180) = true := decide_eq_true c21
                clear c21
                (first | rw [c21b0] | (simp only [i64_w, i32_w]; rw [c21b0]) | skip)
                have H' := Aside0.mk H
                clear H
                have hcz22_0 : w16.cell? ⟨gb173, 0, none⟩ = some (.int .i64 t168) := (blk_cell BK173.out 0).trans rfl
                have hcz22_1 : w16.cell? ⟨gb173, 1, none⟩ = some (.int .i64 t169) := (blk_cell BK173.out 1).trans rfl
                have hcz22_2 : w16.cell? ⟨gb173, 2, none⟩ = some (.int .i64 t170) := (blk_cell BK173.out 2).trans rfl
                have hcz22_3 : w16.cell? ⟨gb173, 3, none⟩ = some (.int .i64 t171) := (blk_cell BK173.out 3).trans rfl
                have hfz22_0 := blk_frozen BK173.out 0
                have hfz22_1 := blk_frozen BK173.out 1
                have hfz22_2 := blk_frozen BK173.out 2
                have hfz22_3 := blk_frozen BK173.out 3
                go_wp2_with (first | ((with_reducible refine gate_callee (f := 30) rfl ?_); refine goesL_ (some 50) rfl rfl Try.func30 (by kernel_rfl) rfl #[.agg #[.int .i64 t168, .int .i64 t169, .int .i64 t170, .int .i64 t171]] rfl (by (try simp only [List.map_toArray, List.map_cons, List.map_nil]); first | done | rfl | (simp only [List.length_drop, List.length_take]; rfl)) ?_; (with_reducible refine (impl_RunnerOk.calls t168 t169 t170 t171 true _ A17.out).mono ?_); rintro e w23 ⟨rfl, hb⟩; refine ⟨_, rfl, ?_⟩; have n0_ := Aside0.mk (blk_below (g := gb173) (o := .cells #[.int .i64 t168, .int .i64 t169, .int .i64 t170, .int .i64 t171] 46 (0, 0)) (by (with_reducible repeat (first | refine blk_drewN ?_ _ | refine blk_drew ?_ | refine blk_alloc ?_ _)); exact BK173.out) hb); have n1_ := Aside0.mk (below_step (by repeat (first | (with_reducible first | exact HB.out | apply below_alloc | apply pw_below_drewN | apply below_drew1 | refine below_set ?_ GE173.out) | exact HB.out)) hb); clear BK173; clear HB; have BK173 := n0_; have HB := n1_; clear n0_ n1_; (try clear hb); (try clear hb2); (try clear hk); (try clear hi)))
                go_meet
                case rel => exact ⟨_, (true), (by first | rfl | (simp; done) | (simp [*]; done)), H', ⟨by first | omega | exact Nat.le_refl _⟩, ⟨by (with_reducible repeat (first | refine blk_drewN ?_ _ | refine blk_drew ?_ | refine blk_alloc ?_ _)); exact BK173.out⟩, ⟨by repeat (first | (with_reducible first | exact HB.out | apply below_alloc | apply pw_below_drewN | apply below_drew1 | refine below_set ?_ GE173.out) | exact HB.out)⟩⟩
              · rw [if_neg c21] at H
                have c21b0 : decide (t176 < t180) = false := decide_eq_false c21
                clear c21
                (first | rw [c21b0] | (simp only [i64_w, i32_w]; rw [c21b0]) | skip)
                by_cases c24 : t175 < t172
                · rw [if_pos c24] at H
                  have c24b0 : decide (t175 < t172) = true := decide_eq_true c24
                  clear c24
                  have H' := Aside0.mk H
                  clear H
                  have hcz25_0 : w16.cell? ⟨gb173, 0, none⟩ = some (.int .i64 t168) := (blk_cell BK173.out 0).trans rfl
                  have hcz25_1 : w16.cell? ⟨gb173, 1, none⟩ = some (.int .i64 t169) := (blk_cell BK173.out 1).trans rfl
                  have hcz25_2 : w16.cell? ⟨gb173, 2, none⟩ = some (.int .i64 t170) := (blk_cell BK173.out 2).trans rfl
                  have hcz25_3 : w16.cell? ⟨gb173, 3, none⟩ = some (.int .i64 t171) := (blk_cell BK173.out 3).trans rfl
                  have hfz25_0 := blk_frozen BK173.out 0
                  have hfz25_1 := blk_frozen BK173.out 1
                  have hfz25_2 := blk_frozen BK173.out 2
                  have hfz25_3 := blk_frozen BK173.out 3
                  go_wp2_with (first | ((with_reducible refine gate_callee (f := 30) rfl ?_); refine goesL_ (some 50) rfl rfl Try.func30 (by kernel_rfl) rfl #[.agg #[.int .i64 t168, .int .i64 t169, .int .i64 t170, .int .i64 t171]] rfl (by (try simp only [List.map_toArray, List.map_cons, List.map_nil]); first | done | rfl | (simp only [List.length_drop, List.length_take]; rfl)) ?_; (with_reducible refine (impl_RunnerOk.calls t168 t169 t170 t171 true _ A17.out).mono ?_); rintro e w26 ⟨rfl, hb⟩; refine ⟨_, rfl, ?_⟩; have n0_ := Aside0.mk (blk_below (g := gb173) (o := .cells #[.int .i64 t168, .int .i64 t169, .int .i64 t170, .int .i64 t171] 46 (0, 0)) (by (with_reducible repeat (first | refine blk_drewN ?_ _ | refine blk_drew ?_ | refine blk_alloc ?_ _)); exact BK173.out) hb); have n1_ := Aside0.mk (below_step (by repeat (first | (with_reducible first | exact HB.out | apply below_alloc | apply pw_below_drewN | apply below_drew1 | refine below_set ?_ GE173.out) | exact HB.out)) hb); clear BK173; clear HB; have BK173 := n0_; have HB := n1_; clear n0_ n1_; (try clear hb); (try clear hb2); (try clear hk); (try clear hi)))
                  go_meet
                  case rel => exact ⟨_, (true), (by first | rfl | (simp; done) | (simp [*]; done)), H', ⟨by first | omega | exact Nat.le_refl _⟩, ⟨by (with_reducible repeat (first | refine blk_drewN ?_ _ | refine blk_drew ?_ | refine blk_alloc ?_ _)); exact BK173.out⟩, ⟨by repeat (first | (with_reducible first | exact HB.out | apply below_alloc | apply pw_below_drewN | apply below_drew1 | refine below_set ?_ GE173.out) | exact HB.out)⟩⟩
                · rw [if_neg c24] at H
                  have c24b0 : decide (t175 < t172) = false := decide_eq_false c24
                  clear c24
                  have H' := Aside0.mk H
                  clear H
                  have hcz27_0 : w16.cell? ⟨gb173, 0, none⟩ = some (.int .i64 t168) := (blk_cell BK173.out 0).trans rfl
                  have hcz27_1 : w16.cell? ⟨gb173, 1, none⟩ = some (.int .i64 t169) := (blk_cell BK173.out 1).trans rfl
                  have hcz27_2 : w16.cell? ⟨gb173, 2, none⟩ = some (.int .i64 t170) := (blk_cell BK173.out 2).trans rfl
                  have hcz27_3 : w16.cell? ⟨gb173, 3, none⟩ = some (.int .i64 t171) := (blk_cell BK173.out 3).trans rfl
                  have hfz27_0 := blk_frozen BK173.out 0
                  have hfz27_1 := blk_frozen BK173.out 1
                  have hfz27_2 := blk_frozen BK173.out 2
                  have hfz27_3 := blk_frozen BK173.out 3
                  go_wp2_with (first | ((with_reducible refine gate_callee (f := 30) rfl ?_); refine goesL_ (some 50) rfl rfl Try.func30 (by kernel_rfl) rfl #[.agg #[.int .i64 t168, .int .i64 t169, .int .i64 t170, .int .i64 t171]] rfl (by (try simp only [List.map_toArray, List.map_cons, List.map_nil]); first | done | rfl | (simp only [List.length_drop, List.length_take]; rfl)) ?_; (with_reducible refine (impl_RunnerOk.calls t168 t169 t170 t171 true _ A17.out).mono ?_); rintro e w28 ⟨rfl, hb⟩; refine ⟨_, rfl, ?_⟩; have n0_ := Aside0.mk (blk_below (g := gb173) (o := .cells #[.int .i64 t168, .int .i64 t169, .int .i64 t170, .int .i64 t171] 46 (0, 0)) (by (with_reducible repeat (first | refine blk_drewN ?_ _ | refine blk_drew ?_ | refine blk_alloc ?_ _)); exact BK173.out) hb); have n1_ := Aside0.mk (below_step (by repeat (first | (with_reducible first | exact HB.out | apply below_alloc | apply pw_below_drewN | apply below_drew1 | refine below_set ?_ GE173.out) | exact HB.out)) hb); clear BK173; clear HB; have BK173 := n0_; have HB := n1_; clear n0_ n1_; (try clear hb); (try clear hb2); (try clear hk); (try clear hi)))
                  go_meet
                  case rel => exact ⟨_, (decide (t179 < t172)), (by first | rfl | (simp; done) | (simp [*]; done)), H', ⟨by first | omega | exact Nat.le_refl _⟩, ⟨by (with_reducible repeat (first | refine blk_drewN ?_ _ | refine blk_drew ?_ | refine blk_alloc ?_ _)); exact BK173.out⟩, ⟨by repeat (first | (with_reducible first | exact HB.out | apply below_alloc | apply pw_below_drewN | apply below_drew1 | refine below_set ?_ GE173.out) | exact HB.out)⟩⟩
            · replace c20 := Bool.eq_false_iff.mpr c20
              subst c20
              have H1 : (laws_FnRolls.j0 k (Int.tmod t174 (wrap64 (t172 + 1))) true t168 t169 t170 t171) = some r := by rw [if_neg (show ¬ (false = true) by decide)] at H; exact H
              clear H
              have H := H1
              clear H1
              have H' := Aside0.mk H
              clear H
              have hcz29_0 : w16.cell? ⟨gb173, 0, none⟩ = some (.int .i64 t168) := (blk_cell BK173.out 0).trans rfl
              have hcz29_1 : w16.cell? ⟨gb173, 1, none⟩ = some (.int .i64 t169) := (blk_cell BK173.out 1).trans rfl
              have hcz29_2 : w16.cell? ⟨gb173, 2, none⟩ = some (.int .i64 t170) := (blk_cell BK173.out 2).trans rfl
              have hcz29_3 : w16.cell? ⟨gb173, 3, none⟩ = some (.int .i64 t171) := (blk_cell BK173.out 3).trans rfl
              have hfz29_0 := blk_frozen BK173.out 0
              have hfz29_1 := blk_frozen BK173.out 1
              have hfz29_2 := blk_frozen BK173.out 2
              have hfz29_3 := blk_frozen BK173.out 3
              go_wp2_with (first | ((with_reducible refine gate_callee (f := 30) rfl ?_); refine goesL_ (some 50) rfl rfl Try.func30 (by kernel_rfl) rfl #[.agg #[.int .i64 t168, .int .i64 t169, .int .i64 t170, .int .i64 t171]] rfl (by (try simp only [List.map_toArray, List.map_cons, List.map_nil]); first | done | rfl | (simp only [List.length_drop, List.length_take]; rfl)) ?_; (with_reducible refine (impl_RunnerOk.calls t168 t169 t170 t171 true _ A17.out).mono ?_); rintro e w30 ⟨rfl, hb⟩; refine ⟨_, rfl, ?_⟩; have n0_ := Aside0.mk (blk_below (g := gb173) (o := .cells #[.int .i64 t168, .int .i64 t169, .int .i64 t170, .int .i64 t171] 46 (0, 0)) (by (with_reducible repeat (first | refine blk_drewN ?_ _ | refine blk_drew ?_ | refine blk_alloc ?_ _)); exact BK173.out) hb); have n1_ := Aside0.mk (below_step (by repeat (first | (with_reducible first | exact HB.out | apply below_alloc | apply pw_below_drewN | apply below_drew1 | refine below_set ?_ GE173.out) | exact HB.out)) hb); clear BK173; clear HB; have BK173 := n0_; have HB := n1_; clear n0_ n1_; (try clear hb); (try clear hb2); (try clear hk); (try clear hi)))
              go_meet
              case rel => exact ⟨_, (true), (by first | rfl | (simp; done) | (simp [*]; done)), H', ⟨by first | omega | exact Nat.le_refl _⟩, ⟨by (with_reducible repeat (first | refine blk_drewN ?_ _ | refine blk_drew ?_ | refine blk_alloc ?_ _)); exact BK173.out⟩, ⟨by repeat (first | (with_reducible first | exact HB.out | apply below_alloc | apply pw_below_drewN | apply below_drew1 | refine below_set ?_ GE173.out) | exact HB.out)⟩⟩
          · replace c19 := Bool.eq_false_iff.mpr c19
            subst c19
            have H1 : (laws_FnRolls.j0 k (Int.tmod t174 (wrap64 (t172 + 1))) false t168 t169 t170 t171) = some r := by rw [if_neg (show ¬ (false = true) by decide)] at H; exact H
            clear H
            have H := H1
            clear H1
            have H' := Aside0.mk H
            clear H
            have hcz31_0 : w16.cell? ⟨gb173, 0, none⟩ = some (.int .i64 t168) := (blk_cell BK173.out 0).trans rfl
            have hcz31_1 : w16.cell? ⟨gb173, 1, none⟩ = some (.int .i64 t169) := (blk_cell BK173.out 1).trans rfl
            have hcz31_2 : w16.cell? ⟨gb173, 2, none⟩ = some (.int .i64 t170) := (blk_cell BK173.out 2).trans rfl
            have hcz31_3 : w16.cell? ⟨gb173, 3, none⟩ = some (.int .i64 t171) := (blk_cell BK173.out 3).trans rfl
            have hfz31_0 := blk_frozen BK173.out 0
            have hfz31_1 := blk_frozen BK173.out 1
            have hfz31_2 := blk_frozen BK173.out 2
            have hfz31_3 := blk_frozen BK173.out 3
            go_wp2_with (first | ((with_reducible refine gate_callee (f := 30) rfl ?_); refine goesL_ (some 50) rfl rfl Try.func30 (by kernel_rfl) rfl #[.agg #[.int .i64 t168, .int .i64 t169, .int .i64 t170, .int .i64 t171]] rfl (by (try simp only [List.map_toArray, List.map_cons, List.map_nil]); first | done | rfl | (simp only [List.length_drop, List.length_take]; rfl)) ?_; (with_reducible refine (impl_RunnerOk.calls t168 t169 t170 t171 true _ A17.out).mono ?_); rintro e w32 ⟨rfl, hb⟩; refine ⟨_, rfl, ?_⟩; have n0_ := Aside0.mk (blk_below (g := gb173) (o := .cells #[.int .i64 t168, .int .i64 t169, .int .i64 t170, .int .i64 t171] 46 (0, 0)) (by (with_reducible repeat (first | refine blk_drewN ?_ _ | refine blk_drew ?_ | refine blk_alloc ?_ _)); exact BK173.out) hb); have n1_ := Aside0.mk (below_step (by repeat (first | (with_reducible first | exact HB.out | apply below_alloc | apply pw_below_drewN | apply below_drew1 | refine below_set ?_ GE173.out) | exact HB.out)) hb); clear BK173; clear HB; have BK173 := n0_; have HB := n1_; clear n0_ n1_; (try clear hb); (try clear hb2); (try clear hk); (try clear hi)))
            go_meet
            case rel => exact ⟨_, (false), (by first | rfl | (simp; done) | (simp [*]; done)), H', ⟨by first | omega | exact Nat.le_refl _⟩, ⟨by (with_reducible repeat (first | refine blk_drewN ?_ _ | refine blk_drew ?_ | refine blk_alloc ?_ _)); exact BK173.out⟩, ⟨by repeat (first | (with_reducible first | exact HB.out | apply below_alloc | apply pw_below_drewN | apply below_drew1 | refine below_set ?_ GE173.out) | exact HB.out)⟩⟩
        · replace c18 := Bool.eq_false_iff.mpr c18
          subst c18
          have H1 : (laws_FnRolls.j0 k (Int.tmod t174 (wrap64 (t172 + 1))) true t168 t169 t170 t171) = some r := by rw [if_neg (show ¬ (false = true) by decide)] at H; exact H
          clear H
          have H := H1
          clear H1
          have H' := Aside0.mk H
          clear H
          have hcz33_0 : w16.cell? ⟨gb173, 0, none⟩ = some (.int .i64 t168) := (blk_cell BK173.out 0).trans rfl
          have hcz33_1 : w16.cell? ⟨gb173, 1, none⟩ = some (.int .i64 t169) := (blk_cell BK173.out 1).trans rfl
          have hcz33_2 : w16.cell? ⟨gb173, 2, none⟩ = some (.int .i64 t170) := (blk_cell BK173.out 2).trans rfl
          have hcz33_3 : w16.cell? ⟨gb173, 3, none⟩ = some (.int .i64 t171) := (blk_cell BK173.out 3).trans rfl
          have hfz33_0 := blk_frozen BK173.out 0
          have hfz33_1 := blk_frozen BK173.out 1
          have hfz33_2 := blk_frozen BK173.out 2
          have hfz33_3 := blk_frozen BK173.out 3
          go_wp2_with (first | ((with_reducible refine gate_callee (f := 30) rfl ?_); refine goesL_ (some 50) rfl rfl Try.func30 (by kernel_rfl) rfl #[.agg #[.int .i64 t168, .int .i64 t169, .int .i64 t170, .int .i64 t171]] rfl (by (try simp only [List.map_toArray, List.map_cons, List.map_nil]); first | done | rfl | (simp only [List.length_drop, List.length_take]; rfl)) ?_; (with_reducible refine (impl_RunnerOk.calls t168 t169 t170 t171 false _ A17.out).mono ?_); rintro e w34 ⟨rfl, hb⟩; refine ⟨_, rfl, ?_⟩; have n0_ := Aside0.mk (blk_below (g := gb173) (o := .cells #[.int .i64 t168, .int .i64 t169, .int .i64 t170, .int .i64 t171] 46 (0, 0)) (by (with_reducible repeat (first | refine blk_drewN ?_ _ | refine blk_drew ?_ | refine blk_alloc ?_ _)); exact BK173.out) hb); have n1_ := Aside0.mk (below_step (by repeat (first | (with_reducible first | exact HB.out | apply below_alloc | apply pw_below_drewN | apply below_drew1 | refine below_set ?_ GE173.out) | exact HB.out)) hb); clear BK173; clear HB; have BK173 := n0_; have HB := n1_; clear n0_ n1_; (try clear hb); (try clear hb2); (try clear hk); (try clear hi)))
          go_meet
          case rel => exact ⟨_, (true), (by first | rfl | (simp; done) | (simp [*]; done)), H', ⟨by first | omega | exact Nat.le_refl _⟩, ⟨by (with_reducible repeat (first | refine blk_drewN ?_ _ | refine blk_drew ?_ | refine blk_alloc ?_ _)); exact BK173.out⟩, ⟨by repeat (first | (with_reducible first | exact HB.out | apply below_alloc | apply pw_below_drewN | apply below_drew1 | refine below_set ?_ GE173.out) | exact HB.out)⟩⟩
      case rest =>
        clear HC10
        try clear c1
        try clear c2
        try clear p2
        try clear c3
        try clear c5
        try clear c6
        try clear c6b0
        try clear c6b1
        try clear p6
        try clear c18
        try clear c19
        try clear c20
        try clear c21
        try clear c21b0
        try clear c24
        try clear c24b0
        try clear c26
        try clear c27
        try clear c28
        try clear c29
        try clear c30
        try clear hcz13_0
        try clear hcz13_1
        try clear hcz13_2
        try clear hcz13_3
        try clear hcz22_0
        try clear hcz22_1
        try clear hcz22_2
        try clear hcz22_3
        try clear hcz25_0
        try clear hcz25_1
        try clear hcz25_2
        try clear hcz25_3
        try clear hcz27_0
        try clear hcz27_1
        try clear hcz27_2
        try clear hcz27_3
        try clear hcz29_0
        try clear hcz29_1
        try clear hcz29_2
        try clear hcz29_3
        try clear hcz31_0
        try clear hcz31_1
        try clear hcz31_2
        try clear hcz31_3
        try clear hcz33_0
        try clear hcz33_1
        try clear hcz33_2
        try clear hcz33_3
        try clear hfz13_0
        try clear hfz13_1
        try clear hfz13_2
        try clear hfz13_3
        try clear hfz22_0
        try clear hfz22_1
        try clear hfz22_2
        try clear hfz22_3
        try clear hfz25_0
        try clear hfz25_1
        try clear hfz25_2
        try clear hfz25_3
        try clear hfz27_0
        try clear hfz27_1
        try clear hfz27_2
        try clear hfz27_3
        try clear hfz29_0
        try clear hfz29_1
        try clear hfz29_2
        try clear hfz29_3
        try clear hfz31_0
        try clear hfz31_1
        try clear hfz31_2
        try clear hfz31_3
        try clear hfz33_0
        try clear hfz33_1
        try clear hfz33_2
        try clear hfz33_3
        obtain ⟨kq, x76_9, rfl, HA, HJ9, BK173, HB⟩ := hcut
        cases kq with
        | zero => exact absurd HA.out (by simp [laws_FnRolls.j0])
        | succ kj9 =>
          have H := HA.out
          clear HA
          simp only [laws_FnRolls.j0] at H
          by_cases c35 : x76_9 = true
          · subst c35
            have H1 : (some false) = some r := by rw [if_pos rfl] at H; exact H
            clear H
            have H := H1
            clear H1
            obtain rfl := Option.some.inj H
            go_wp2
            go_ret
            exact ⟨by first | rfl | (simp [errW_none, errW_some] <;> rfl) | (simp [*, errW_none, errW_some] <;> rfl), by repeat (first | (with_reducible first | exact HB.out | apply below_alloc | apply pw_below_drewN | apply below_drew1 | refine below_set ?_ GE173.out) | exact HB.out)⟩
          · replace c35 := Bool.eq_false_iff.mpr c35
            subst c35
            have H1 : ((impl_Stops.f kj9 t168 t169 t170 t171 (Int.tmod t174 (wrap64 (t172 + 1)))).bind fun bt183 => ((impl_Stops.f kj9 t168 t169 t170 t171 (wrap64 ((Int.tmod t174 (wrap64 (t172 + 1))) + 1))).bind fun bt185 => (if bt183.2 = true then (if bt185.2 = true then (if bt183.1 ≤ bt185.1 then (if bt183.1 > 0 then (some true) else (some (!bt183.2))) else (some (!bt183.2))) else (some (!bt183.2))) else (some (!bt183.2))))) = some r := by rw [if_neg (show ¬ (false = true) by decide)] at H; exact H
            clear H
            have H := H1
            clear H1
            replace H := Option.bind_eq_some_iff.mp H
            obtain ⟨⟨t183, t184⟩, A360, H⟩ := H
            replace H : ((impl_Stops.f kj9 t168 t169 t170 t171 (wrap64 ((Int.tmod t174 (wrap64 (t172 + 1))) + 1))).bind fun bt185 => (if t184 = true then (if bt185.2 = true then (if t183 ≤ bt185.1 then (if t183 > 0 then (some true) else (some (!t184))) else (some (!t184))) else (some (!t184))) else (some (!t184)))) = some r := H
            have A36 := Aside0.mk A360
            clear A360
            replace H := Option.bind_eq_some_iff.mp H
            obtain ⟨⟨t185, t186⟩, A370, H⟩ := H
            replace H : (if t184 = true then (if t186 = true then (if t183 ≤ t185 then (if t183 > 0 then (some true) else (some (!t184))) else (some (!t184))) else (some (!t184))) else (some (!t184))) = some r := H
            have A37 := Aside0.mk A370
            clear A370
            by_cases c38 : t184 = true
            · subst c38
              have H1 : (if t186 = true then (if t183 ≤ t185 then (if t183 > 0 then (some true) else (some (!true))) else (some (!true))) else (some (!true))) = some r := by rw [if_pos rfl] at H; exact H
              clear H
              have H := H1
              clear H1
              by_cases c39 : t186 = true
              · subst c39
                have H1 : (if t183 ≤ t185 then (if t183 > 0 then (some true) else (some (!true))) else (some (!true))) = some r := by rw [if_pos rfl] at H; exact H
                clear H
                have H := H1
                clear H1
                by_cases c40 : t183 ≤ t185
                · rw [if_pos c40] at H
                  have c40b0 : decide (t183 ≤ t185) = true := decide_eq_true c40
                  clear c40
                  by_cases c41 : t183 > 0
                  · rw [if_pos c41] at H
                    have c41b0 : decide (0 < t183) = true := decide_eq_true c41
                    clear c41
                    obtain rfl := Option.some.inj H
                    have hcz42_0 : wc.cell? ⟨gb173, 0, none⟩ = some (.int .i64 t168) := (blk_cell BK173.out 0).trans rfl
                    have hcz42_1 : wc.cell? ⟨gb173, 1, none⟩ = some (.int .i64 t169) := (blk_cell BK173.out 1).trans rfl
                    have hcz42_2 : wc.cell? ⟨gb173, 2, none⟩ = some (.int .i64 t170) := (blk_cell BK173.out 2).trans rfl
                    have hcz42_3 : wc.cell? ⟨gb173, 3, none⟩ = some (.int .i64 t171) := (blk_cell BK173.out 3).trans rfl
                    have hfz42_0 := blk_frozen BK173.out 0
                    have hfz42_1 := blk_frozen BK173.out 1
                    have hfz42_2 := blk_frozen BK173.out 2
                    have hfz42_3 := blk_frozen BK173.out 3
                    go_wp2_with (first | ((with_reducible refine gate_callee (f := 31) rfl ?_); refine goesL_ (some 80) rfl rfl Try.func31 (by kernel_rfl) rfl #[.agg #[.int .i64 t168, .int .i64 t169, .int .i64 t170, .int .i64 t171], .int .i64 (Int.tmod t174 (wrap64 (t172 + 1)))] rfl (by (try simp only [List.map_toArray, List.map_cons, List.map_nil]); first | done | rfl | (simp only [List.length_drop, List.length_take]; rfl)) ?_; (with_reducible refine (impl_Stops.calls kj9 t168 t169 t170 t171 (Int.tmod t174 (wrap64 (t172 + 1))) t183 true _ A36.out).mono ?_); rintro e w43 ⟨rfl, hb⟩; refine ⟨_, rfl, ?_⟩; have n0_ := Aside0.mk (blk_below (g := gb173) (o := .cells #[.int .i64 t168, .int .i64 t169, .int .i64 t170, .int .i64 t171] 46 (0, 0)) (by (with_reducible repeat (first | refine blk_drewN ?_ _ | refine blk_drew ?_ | refine blk_alloc ?_ _)); exact BK173.out) hb); have n1_ := Aside0.mk (below_step (by repeat (first | (with_reducible first | exact HB.out | apply below_alloc | apply pw_below_drewN | apply below_drew1 | refine below_set ?_ GE173.out) | exact HB.out)) hb); clear BK173; clear HB; have BK173 := n0_; have HB := n1_; clear n0_ n1_; (try clear hb); (try clear hb2); (try clear hk); (try clear hi); have hcz44_0 : w43.cell? ⟨gb173, 0, none⟩ = some (.int .i64 t168) := (blk_cell BK173.out 0).trans rfl; have hcz44_1 : w43.cell? ⟨gb173, 1, none⟩ = some (.int .i64 t169) := (blk_cell BK173.out 1).trans rfl; have hcz44_2 : w43.cell? ⟨gb173, 2, none⟩ = some (.int .i64 t170) := (blk_cell BK173.out 2).trans rfl; have hcz44_3 : w43.cell? ⟨gb173, 3, none⟩ = some (.int .i64 t171) := (blk_cell BK173.out 3).trans rfl; have hfz44_0 := blk_frozen BK173.out 0; have hfz44_1 := blk_frozen BK173.out 1; have hfz44_2 := blk_frozen BK173.out 2; have hfz44_3 := blk_frozen BK173.out 3) | ((with_reducible refine gate_callee (f := 31) rfl ?_); refine goesL_ (some 87) rfl rfl Try.func31 (by kernel_rfl) rfl #[.agg #[.int .i64 t168, .int .i64 t169, .int .i64 t170, .int .i64 t171], .int .i64 (wrap64 ((Int.tmod t174 (wrap64 (t172 + 1))) + 1))] rfl (by (try simp only [List.map_toArray, List.map_cons, List.map_nil]); first | done | rfl | (simp only [List.length_drop, List.length_take]; rfl)) ?_; (with_reducible refine (impl_Stops.calls kj9 t168 t169 t170 t171 (wrap64 ((Int.tmod t174 (wrap64 (t172 + 1))) + 1)) t185 true _ A37.out).mono ?_); rintro e w45 ⟨rfl, hb⟩; refine ⟨_, rfl, ?_⟩; have n0_ := Aside0.mk (blk_below (g := gb173) (o := .cells #[.int .i64 t168, .int .i64 t169, .int .i64 t170, .int .i64 t171] 46 (0, 0)) (by (with_reducible repeat (first | refine blk_drewN ?_ _ | refine blk_drew ?_ | refine blk_alloc ?_ _)); exact BK173.out) hb); have n1_ := Aside0.mk (below_step (by repeat (first | (with_reducible first | exact HB.out | apply below_alloc | apply pw_below_drewN | apply below_drew1 | refine below_set ?_ GE173.out) | exact HB.out)) hb); clear BK173; clear HB; have BK173 := n0_; have HB := n1_; clear n0_ n1_; (try clear hb); (try clear hb2); (try clear hk); (try clear hi)))
                    go_ret
                    exact ⟨by first | rfl | (simp [errW_none, errW_some] <;> rfl) | (simp [*, errW_none, errW_some] <;> rfl), by repeat (first | (with_reducible first | exact HB.out | apply below_alloc | apply pw_below_drewN | apply below_drew1 | refine below_set ?_ GE173.out) | exact HB.out)⟩
                  · rw [if_neg c41] at H
                    have c41b0 : decide (0 < t183) = false := decide_eq_false c41
                    clear c41
                    obtain rfl := Option.some.inj H
                    have hcz46_0 : wc.cell? ⟨gb173, 0, none⟩ = some (.int .i64 t168) := (blk_cell BK173.out 0).trans rfl
                    have hcz46_1 : wc.cell? ⟨gb173, 1, none⟩ = some (.int .i64 t169) := (blk_cell BK173.out 1).trans rfl
                    have hcz46_2 : wc.cell? ⟨gb173, 2, none⟩ = some (.int .i64 t170) := (blk_cell BK173.out 2).trans rfl
                    have hcz46_3 : wc.cell? ⟨gb173, 3, none⟩ = some (.int .i64 t171) := (blk_cell BK173.out 3).trans rfl
                    have hfz46_0 := blk_frozen BK173.out 0
                    have hfz46_1 := blk_frozen BK173.out 1
                    have hfz46_2 := blk_frozen BK173.out 2
                    have hfz46_3 := blk_frozen BK173.out 3
                    go_wp2_with (first | ((with_reducible refine gate_callee (f := 31) rfl ?_); refine goesL_ (some 80) rfl rfl Try.func31 (by kernel_rfl) rfl #[.agg #[.int .i64 t168, .int .i64 t169, .int .i64 t170, .int .i64 t171], .int .i64 (Int.tmod t174 (wrap64 (t172 + 1)))] rfl (by (try simp only [List.map_toArray, List.map_cons, List.map_nil]); first | done | rfl | (simp only [List.length_drop, List.length_take]; rfl)) ?_; (with_reducible refine (impl_Stops.calls kj9 t168 t169 t170 t171 (Int.tmod t174 (wrap64 (t172 + 1))) t183 true _ A36.out).mono ?_); rintro e w47 ⟨rfl, hb⟩; refine ⟨_, rfl, ?_⟩; have n0_ := Aside0.mk (blk_below (g := gb173) (o := .cells #[.int .i64 t168, .int .i64 t169, .int .i64 t170, .int .i64 t171] 46 (0, 0)) (by (with_reducible repeat (first | refine blk_drewN ?_ _ | refine blk_drew ?_ | refine blk_alloc ?_ _)); exact BK173.out) hb); have n1_ := Aside0.mk (below_step (by repeat (first | (with_reducible first | exact HB.out | apply below_alloc | apply pw_below_drewN | apply below_drew1 | refine below_set ?_ GE173.out) | exact HB.out)) hb); clear BK173; clear HB; have BK173 := n0_; have HB := n1_; clear n0_ n1_; (try clear hb); (try clear hb2); (try clear hk); (try clear hi); have hcz48_0 : w47.cell? ⟨gb173, 0, none⟩ = some (.int .i64 t168) := (blk_cell BK173.out 0).trans rfl; have hcz48_1 : w47.cell? ⟨gb173, 1, none⟩ = some (.int .i64 t169) := (blk_cell BK173.out 1).trans rfl; have hcz48_2 : w47.cell? ⟨gb173, 2, none⟩ = some (.int .i64 t170) := (blk_cell BK173.out 2).trans rfl; have hcz48_3 : w47.cell? ⟨gb173, 3, none⟩ = some (.int .i64 t171) := (blk_cell BK173.out 3).trans rfl; have hfz48_0 := blk_frozen BK173.out 0; have hfz48_1 := blk_frozen BK173.out 1; have hfz48_2 := blk_frozen BK173.out 2; have hfz48_3 := blk_frozen BK173.out 3) | ((with_reducible refine gate_callee (f := 31) rfl ?_); refine goesL_ (some 87) rfl rfl Try.func31 (by kernel_rfl) rfl #[.agg #[.int .i64 t168, .int .i64 t169, .int .i64 t170, .int .i64 t171], .int .i64 (wrap64 ((Int.tmod t174 (wrap64 (t172 + 1))) + 1))] rfl (by (try simp only [List.map_toArray, List.map_cons, List.map_nil]); first | done | rfl | (simp only [List.length_drop, List.length_take]; rfl)) ?_; (with_reducible refine (impl_Stops.calls kj9 t168 t169 t170 t171 (wrap64 ((Int.tmod t174 (wrap64 (t172 + 1))) + 1)) t185 true _ A37.out).mono ?_); rintro e w49 ⟨rfl, hb⟩; refine ⟨_, rfl, ?_⟩; have n0_ := Aside0.mk (blk_below (g := gb173) (o := .cells #[.int .i64 t168, .int .i64 t169, .int .i64 t170, .int .i64 t171] 46 (0, 0)) (by (with_reducible repeat (first | refine blk_drewN ?_ _ | refine blk_drew ?_ | refine blk_alloc ?_ _)); exact BK173.out) hb); have n1_ := Aside0.mk (below_step (by repeat (first | (with_reducible first | exact HB.out | apply below_alloc | apply pw_below_drewN | apply below_drew1 | refine below_set ?_ GE173.out) | exact HB.out)) hb); clear BK173; clear HB; have BK173 := n0_; have HB := n1_; clear n0_ n1_; (try clear hb); (try clear hb2); (try clear hk); (try clear hi)))
                    go_ret
                    exact ⟨by first | rfl | (simp [errW_none, errW_some] <;> rfl) | (simp [*, errW_none, errW_some] <;> rfl), by repeat (first | (with_reducible first | exact HB.out | apply below_alloc | apply pw_below_drewN | apply below_drew1 | refine below_set ?_ GE173.out) | exact HB.out)⟩
                · rw [if_neg c40] at H
                  have c40b0 : decide (t183 ≤ t185) = false := decide_eq_false c40
                  clear c40
                  obtain rfl := Option.some.inj H
                  have hcz50_0 : wc.cell? ⟨gb173, 0, none⟩ = some (.int .i64 t168) := (blk_cell BK173.out 0).trans rfl
                  have hcz50_1 : wc.cell? ⟨gb173, 1, none⟩ = some (.int .i64 t169) := (blk_cell BK173.out 1).trans rfl
                  have hcz50_2 : wc.cell? ⟨gb173, 2, none⟩ = some (.int .i64 t170) := (blk_cell BK173.out 2).trans rfl
                  have hcz50_3 : wc.cell? ⟨gb173, 3, none⟩ = some (.int .i64 t171) := (blk_cell BK173.out 3).trans rfl
                  have hfz50_0 := blk_frozen BK173.out 0
                  have hfz50_1 := blk_frozen BK173.out 1
                  have hfz50_2 := blk_frozen BK173.out 2
                  have hfz50_3 := blk_frozen BK173.out 3
                  go_wp2_with (first | ((with_reducible refine gate_callee (f := 31) rfl ?_); refine goesL_ (some 80) rfl rfl Try.func31 (by kernel_rfl) rfl #[.agg #[.int .i64 t168, .int .i64 t169, .int .i64 t170, .int .i64 t171], .int .i64 (Int.tmod t174 (wrap64 (t172 + 1)))] rfl (by (try simp only [List.map_toArray, List.map_cons, List.map_nil]); first | done | rfl | (simp only [List.length_drop, List.length_take]; rfl)) ?_; (with_reducible refine (impl_Stops.calls kj9 t168 t169 t170 t171 (Int.tmod t174 (wrap64 (t172 + 1))) t183 true _ A36.out).mono ?_); rintro e w51 ⟨rfl, hb⟩; refine ⟨_, rfl, ?_⟩; have n0_ := Aside0.mk (blk_below (g := gb173) (o := .cells #[.int .i64 t168, .int .i64 t169, .int .i64 t170, .int .i64 t171] 46 (0, 0)) (by (with_reducible repeat (first | refine blk_drewN ?_ _ | refine blk_drew ?_ | refine blk_alloc ?_ _)); exact BK173.out) hb); have n1_ := Aside0.mk (below_step (by repeat (first | (with_reducible first | exact HB.out | apply below_alloc | apply pw_below_drewN | apply below_drew1 | refine below_set ?_ GE173.out) | exact HB.out)) hb); clear BK173; clear HB; have BK173 := n0_; have HB := n1_; clear n0_ n1_; (try clear hb); (try clear hb2); (try clear hk); (try clear hi); have hcz52_0 : w51.cell? ⟨gb173, 0, none⟩ = some (.int .i64 t168) := (blk_cell BK173.out 0).trans rfl; have hcz52_1 : w51.cell? ⟨gb173, 1, none⟩ = some (.int .i64 t169) := (blk_cell BK173.out 1).trans rfl; have hcz52_2 : w51.cell? ⟨gb173, 2, none⟩ = some (.int .i64 t170) := (blk_cell BK173.out 2).trans rfl; have hcz52_3 : w51.cell? ⟨gb173, 3, none⟩ = some (.int .i64 t171) := (blk_cell BK173.out 3).trans rfl; have hfz52_0 := blk_frozen BK173.out 0; have hfz52_1 := blk_frozen BK173.out 1; have hfz52_2 := blk_frozen BK173.out 2; have hfz52_3 := blk_frozen BK173.out 3) | ((with_reducible refine gate_callee (f := 31) rfl ?_); refine goesL_ (some 87) rfl rfl Try.func31 (by kernel_rfl) rfl #[.agg #[.int .i64 t168, .int .i64 t169, .int .i64 t170, .int .i64 t171], .int .i64 (wrap64 ((Int.tmod t174 (wrap64 (t172 + 1))) + 1))] rfl (by (try simp only [List.map_toArray, List.map_cons, List.map_nil]); first | done | rfl | (simp only [List.length_drop, List.length_take]; rfl)) ?_; (with_reducible refine (impl_Stops.calls kj9 t168 t169 t170 t171 (wrap64 ((Int.tmod t174 (wrap64 (t172 + 1))) + 1)) t185 true _ A37.out).mono ?_); rintro e w53 ⟨rfl, hb⟩; refine ⟨_, rfl, ?_⟩; have n0_ := Aside0.mk (blk_below (g := gb173) (o := .cells #[.int .i64 t168, .int .i64 t169, .int .i64 t170, .int .i64 t171] 46 (0, 0)) (by (with_reducible repeat (first | refine blk_drewN ?_ _ | refine blk_drew ?_ | refine blk_alloc ?_ _)); exact BK173.out) hb); have n1_ := Aside0.mk (below_step (by repeat (first | (with_reducible first | exact HB.out | apply below_alloc | apply pw_below_drewN | apply below_drew1 | refine below_set ?_ GE173.out) | exact HB.out)) hb); clear BK173; clear HB; have BK173 := n0_; have HB := n1_; clear n0_ n1_; (try clear hb); (try clear hb2); (try clear hk); (try clear hi)))
                  go_ret
                  exact ⟨by first | rfl | (simp [errW_none, errW_some] <;> rfl) | (simp [*, errW_none, errW_some] <;> rfl), by repeat (first | (with_reducible first | exact HB.out | apply below_alloc | apply pw_below_drewN | apply below_drew1 | refine below_set ?_ GE173.out) | exact HB.out)⟩
              · replace c39 := Bool.eq_false_iff.mpr c39
                subst c39
                have H1 : (some (!true)) = some r := by rw [if_neg (show ¬ (false = true) by decide)] at H; exact H
                clear H
                have H := H1
                clear H1
                obtain rfl := Option.some.inj H
                have hcz54_0 : wc.cell? ⟨gb173, 0, none⟩ = some (.int .i64 t168) := (blk_cell BK173.out 0).trans rfl
                have hcz54_1 : wc.cell? ⟨gb173, 1, none⟩ = some (.int .i64 t169) := (blk_cell BK173.out 1).trans rfl
                have hcz54_2 : wc.cell? ⟨gb173, 2, none⟩ = some (.int .i64 t170) := (blk_cell BK173.out 2).trans rfl
                have hcz54_3 : wc.cell? ⟨gb173, 3, none⟩ = some (.int .i64 t171) := (blk_cell BK173.out 3).trans rfl
                have hfz54_0 := blk_frozen BK173.out 0
                have hfz54_1 := blk_frozen BK173.out 1
                have hfz54_2 := blk_frozen BK173.out 2
                have hfz54_3 := blk_frozen BK173.out 3
                go_wp2_with (first | ((with_reducible refine gate_callee (f := 31) rfl ?_); refine goesL_ (some 80) rfl rfl Try.func31 (by kernel_rfl) rfl #[.agg #[.int .i64 t168, .int .i64 t169, .int .i64 t170, .int .i64 t171], .int .i64 (Int.tmod t174 (wrap64 (t172 + 1)))] rfl (by (try simp only [List.map_toArray, List.map_cons, List.map_nil]); first | done | rfl | (simp only [List.length_drop, List.length_take]; rfl)) ?_; (with_reducible refine (impl_Stops.calls kj9 t168 t169 t170 t171 (Int.tmod t174 (wrap64 (t172 + 1))) t183 true _ A36.out).mono ?_); rintro e w55 ⟨rfl, hb⟩; refine ⟨_, rfl, ?_⟩; have n0_ := Aside0.mk (blk_below (g := gb173) (o := .cells #[.int .i64 t168, .int .i64 t169, .int .i64 t170, .int .i64 t171] 46 (0, 0)) (by (with_reducible repeat (first | refine blk_drewN ?_ _ | refine blk_drew ?_ | refine blk_alloc ?_ _)); exact BK173.out) hb); have n1_ := Aside0.mk (below_step (by repeat (first | (with_reducible first | exact HB.out | apply below_alloc | apply pw_below_drewN | apply below_drew1 | refine below_set ?_ GE173.out) | exact HB.out)) hb); clear BK173; clear HB; have BK173 := n0_; have HB := n1_; clear n0_ n1_; (try clear hb); (try clear hb2); (try clear hk); (try clear hi); have hcz56_0 : w55.cell? ⟨gb173, 0, none⟩ = some (.int .i64 t168) := (blk_cell BK173.out 0).trans rfl; have hcz56_1 : w55.cell? ⟨gb173, 1, none⟩ = some (.int .i64 t169) := (blk_cell BK173.out 1).trans rfl; have hcz56_2 : w55.cell? ⟨gb173, 2, none⟩ = some (.int .i64 t170) := (blk_cell BK173.out 2).trans rfl; have hcz56_3 : w55.cell? ⟨gb173, 3, none⟩ = some (.int .i64 t171) := (blk_cell BK173.out 3).trans rfl; have hfz56_0 := blk_frozen BK173.out 0; have hfz56_1 := blk_frozen BK173.out 1; have hfz56_2 := blk_frozen BK173.out 2; have hfz56_3 := blk_frozen BK173.out 3) | ((with_reducible refine gate_callee (f := 31) rfl ?_); refine goesL_ (some 87) rfl rfl Try.func31 (by kernel_rfl) rfl #[.agg #[.int .i64 t168, .int .i64 t169, .int .i64 t170, .int .i64 t171], .int .i64 (wrap64 ((Int.tmod t174 (wrap64 (t172 + 1))) + 1))] rfl (by (try simp only [List.map_toArray, List.map_cons, List.map_nil]); first | done | rfl | (simp only [List.length_drop, List.length_take]; rfl)) ?_; (with_reducible refine (impl_Stops.calls kj9 t168 t169 t170 t171 (wrap64 ((Int.tmod t174 (wrap64 (t172 + 1))) + 1)) t185 false _ A37.out).mono ?_); rintro e w57 ⟨rfl, hb⟩; refine ⟨_, rfl, ?_⟩; have n0_ := Aside0.mk (blk_below (g := gb173) (o := .cells #[.int .i64 t168, .int .i64 t169, .int .i64 t170, .int .i64 t171] 46 (0, 0)) (by (with_reducible repeat (first | refine blk_drewN ?_ _ | refine blk_drew ?_ | refine blk_alloc ?_ _)); exact BK173.out) hb); have n1_ := Aside0.mk (below_step (by repeat (first | (with_reducible first | exact HB.out | apply below_alloc | apply pw_below_drewN | apply below_drew1 | refine below_set ?_ GE173.out) | exact HB.out)) hb); clear BK173; clear HB; have BK173 := n0_; have HB := n1_; clear n0_ n1_; (try clear hb); (try clear hb2); (try clear hk); (try clear hi)))
                go_ret
                exact ⟨by first | rfl | (simp [errW_none, errW_some] <;> rfl) | (simp [*, errW_none, errW_some] <;> rfl), by repeat (first | (with_reducible first | exact HB.out | apply below_alloc | apply pw_below_drewN | apply below_drew1 | refine below_set ?_ GE173.out) | exact HB.out)⟩
            · replace c38 := Bool.eq_false_iff.mpr c38
              subst c38
              have H1 : (some (!false)) = some r := by rw [if_neg (show ¬ (false = true) by decide)] at H; exact H
              clear H
              have H := H1
              clear H1
              obtain rfl := Option.some.inj H
              have hcz58_0 : wc.cell? ⟨gb173, 0, none⟩ = some (.int .i64 t168) := (blk_cell BK173.out 0).trans rfl
              have hcz58_1 : wc.cell? ⟨gb173, 1, none⟩ = some (.int .i64 t169) := (blk_cell BK173.out 1).trans rfl
              have hcz58_2 : wc.cell? ⟨gb173, 2, none⟩ = some (.int .i64 t170) := (blk_cell BK173.out 2).trans rfl
              have hcz58_3 : wc.cell? ⟨gb173, 3, none⟩ = some (.int .i64 t171) := (blk_cell BK173.out 3).trans rfl
              have hfz58_0 := blk_frozen BK173.out 0
              have hfz58_1 := blk_frozen BK173.out 1
              have hfz58_2 := blk_frozen BK173.out 2
              have hfz58_3 := blk_frozen BK173.out 3
              go_wp2_with (first | ((with_reducible refine gate_callee (f := 31) rfl ?_); refine goesL_ (some 80) rfl rfl Try.func31 (by kernel_rfl) rfl #[.agg #[.int .i64 t168, .int .i64 t169, .int .i64 t170, .int .i64 t171], .int .i64 (Int.tmod t174 (wrap64 (t172 + 1)))] rfl (by (try simp only [List.map_toArray, List.map_cons, List.map_nil]); first | done | rfl | (simp only [List.length_drop, List.length_take]; rfl)) ?_; (with_reducible refine (impl_Stops.calls kj9 t168 t169 t170 t171 (Int.tmod t174 (wrap64 (t172 + 1))) t183 false _ A36.out).mono ?_); rintro e w59 ⟨rfl, hb⟩; refine ⟨_, rfl, ?_⟩; have n0_ := Aside0.mk (blk_below (g := gb173) (o := .cells #[.int .i64 t168, .int .i64 t169, .int .i64 t170, .int .i64 t171] 46 (0, 0)) (by (with_reducible repeat (first | refine blk_drewN ?_ _ | refine blk_drew ?_ | refine blk_alloc ?_ _)); exact BK173.out) hb); have n1_ := Aside0.mk (below_step (by repeat (first | (with_reducible first | exact HB.out | apply below_alloc | apply pw_below_drewN | apply below_drew1 | refine below_set ?_ GE173.out) | exact HB.out)) hb); clear BK173; clear HB; have BK173 := n0_; have HB := n1_; clear n0_ n1_; (try clear hb); (try clear hb2); (try clear hk); (try clear hi); have hcz60_0 : w59.cell? ⟨gb173, 0, none⟩ = some (.int .i64 t168) := (blk_cell BK173.out 0).trans rfl; have hcz60_1 : w59.cell? ⟨gb173, 1, none⟩ = some (.int .i64 t169) := (blk_cell BK173.out 1).trans rfl; have hcz60_2 : w59.cell? ⟨gb173, 2, none⟩ = some (.int .i64 t170) := (blk_cell BK173.out 2).trans rfl; have hcz60_3 : w59.cell? ⟨gb173, 3, none⟩ = some (.int .i64 t171) := (blk_cell BK173.out 3).trans rfl; have hfz60_0 := blk_frozen BK173.out 0; have hfz60_1 := blk_frozen BK173.out 1; have hfz60_2 := blk_frozen BK173.out 2; have hfz60_3 := blk_frozen BK173.out 3) | ((with_reducible refine gate_callee (f := 31) rfl ?_); refine goesL_ (some 87) rfl rfl Try.func31 (by kernel_rfl) rfl #[.agg #[.int .i64 t168, .int .i64 t169, .int .i64 t170, .int .i64 t171], .int .i64 (wrap64 ((Int.tmod t174 (wrap64 (t172 + 1))) + 1))] rfl (by (try simp only [List.map_toArray, List.map_cons, List.map_nil]); first | done | rfl | (simp only [List.length_drop, List.length_take]; rfl)) ?_; (with_reducible refine (impl_Stops.calls kj9 t168 t169 t170 t171 (wrap64 ((Int.tmod t174 (wrap64 (t172 + 1))) + 1)) t185 t186 _ A37.out).mono ?_); rintro e w61 ⟨rfl, hb⟩; refine ⟨_, rfl, ?_⟩; have n0_ := Aside0.mk (blk_below (g := gb173) (o := .cells #[.int .i64 t168, .int .i64 t169, .int .i64 t170, .int .i64 t171] 46 (0, 0)) (by (with_reducible repeat (first | refine blk_drewN ?_ _ | refine blk_drew ?_ | refine blk_alloc ?_ _)); exact BK173.out) hb); have n1_ := Aside0.mk (below_step (by repeat (first | (with_reducible first | exact HB.out | apply below_alloc | apply pw_below_drewN | apply below_drew1 | refine below_set ?_ GE173.out) | exact HB.out)) hb); clear BK173; clear HB; have BK173 := n0_; have HB := n1_; clear n0_ n1_; (try clear hb); (try clear hb2); (try clear hk); (try clear hi)))
              go_ret
              exact ⟨by first | rfl | (simp [errW_none, errW_some] <;> rfl) | (simp [*, errW_none, errW_some] <;> rfl), by repeat (first | (with_reducible first | exact HB.out | apply below_alloc | apply pw_below_drewN | apply below_drew1 | refine below_set ?_ GE173.out) | exact HB.out)⟩

/-- THE ONE PURE STATEMENT of laws_FnRolls: yours. -/
def laws_FnRolls.Pure : Prop := ∀ (l0 : List Int), l0.length ≤ maxLen → l0.length * 1 ≤ 140737488351232 → (∀ x ∈ l0, (Lit.int .u8 x).wf = true) → ∃ k, laws_FnRolls.f k l0 = some true
theorem laws_FnRolls.walk (P : laws_FnRolls.Pure) (a0 : Option Addr) (len0 cap0 : Nat) (z0 : List Int) (w : World) (w0 : (a0 = none ∧ len0 = 0 ∧ cap0 = 0 ∧ z0 = []) ∨ ∃ x, a0 = some x ∧ len0 ≤ cap0 ∧ cap0 ≤ maxLen ∧ z0.length = cap0 ∧ (∀ i, i < z0.length → w.cell? (x.add i) = some (.int .u8 (z0.getD i 0))) ∧ ∀ n ∈ z0, (Lit.int .u8 n).wf = true) (y0 : len0 * 1 ≤ 140737488351232) :
    Calls Try.prog 5 #[.slice a0 len0 cap0] w fun e w' => e = .returned (.bool true) ∧ Below w.heap.size w w' := by
  obtain ⟨l0, rfl, hr0, hm0, hw0, hc0⟩ := ReadsInt.ofRowC w0
  obtain ⟨k, h⟩ := P l0 hm0 y0 hw0
  refine (laws_FnRolls.calls k _ _ l0 true w (Kd.C_of_reads (d := (0 : Int)) (h1 := fun _ => rfl) hr0) hc0 h).mono ?_
  rintro e w' ⟨rfl, hd⟩
  exact ⟨rfl, hd⟩

end Go.Proofs.Ytgbkmbdciknedaa.QFnRolls
