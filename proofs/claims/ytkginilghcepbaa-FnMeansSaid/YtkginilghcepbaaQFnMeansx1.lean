/- Lean functions that tell what the Go functions used by one law answer, and for each a proof that the Go code comes to just these answers; no condition. Printed by this session's own program over the kit's printer. -/
import Derived.Test.YtkginilghcepbaaWSq
import Derived.Test.YtkginilghcepbaaQFnMeansx0
namespace Go.Proofs.Ytkginilghcepbaa.QFnMeans
open Go.RowKit Go.Proofs.YtkginilghcepbaaW.PrintWords Go.Proofs.YtkginilghcepbaaW.PrintLast Go.Proofs.YtkginilghcepbaaW.PrintMore
attribute [local go_sem] max2_int min2_int max_two min_two max_three min_three max_four min_four   -- for this text's walks alone
attribute [local go_sem high] go_eql go_neq go_lss go_leq go_gtr go_geq go_store   -- for this text's walks alone
set_option linter.unusedVariables false
set_option linter.unusedSimpArgs false

/-! ### laws_big: function 23 -/
def laws_big.f (l0 : List Int) : Option (Bool) := some (decide ((l0.length : Int) > 1048576))
set_option maxHeartbeats 8000000 in
set_option maxRecDepth 100000 in
theorem laws_big.calls (A0 : Option Addr) (c0 : Nat) (l0 : List Int) (r : Bool) (w : World) (hr0 : Kd.C (Kd.int .u8) w A0 l0.length l0) (hc0 : l0.length ≤ c0) (h : laws_big.f l0 = some r) :
  Calls Try.prog 23 #[.slice A0 l0.length c0] w fun e w' => e = .returned (.bool r) ∧ Drawn0 w w' := by
 have g9 := mk_ hr0; have m9 := mk_ hc0; clear hr0 hc0
 have H : (some (decide ((l0.length : Int) > 1048576))) = some r := h
 clear h; obtain rfl := Option.some.inj H
 go_enter Try.func23, Try.ntmps23
 go_wp2; go_ret
 exact ⟨by first | rfl | (simp; done) | (simp [*]; done), by repeat (first | exact Drawn0.refl _ | apply Drawn0.step)⟩

/-! ### laws_at: function 24 -/
def laws_at.f (l0 : List Int) (a1 : Int) : Option (Int) := if a1 < (l0.length : Int) then (if 0 ≤ a1 then (some (wrap64 (rd l0 a1))) else (none)) else (some (Int.tmod (wrap64 ((wrap64 (a1 * 7)) + (l0.length : Int))) 256))
set_option maxHeartbeats 8000000 in
set_option maxRecDepth 100000 in
theorem laws_at.calls (A0 : Option Addr) (c0 : Nat) (l0 : List Int) (a1 : Int) (r : Int) (w : World) (hr0 : Kd.C (Kd.int .u8) w A0 l0.length l0) (hc0 : l0.length ≤ c0) (h : laws_at.f l0 a1 = some r) :
  Calls Try.prog 24 #[.slice A0 l0.length c0, .int .i64 a1] w fun e w' => e = .returned (.int .i64 r) ∧ Drawn0 w w' := by
 have g9 := mk_ hr0; have m9 := mk_ hc0; clear hr0 hc0
 have H : (if a1 < (l0.length : Int) then (if 0 ≤ a1 then (some (wrap64 (rd l0 a1))) else (none)) else (some (Int.tmod (wrap64 ((wrap64 (a1 * 7)) + (l0.length : Int))) 256))) = some r := h
 clear h; by_cases c3 : a1 < (l0.length : Int)
 ·rw [if_pos c3] at H; have g7 : decide (a1 < (l0.length : Int)) = true := decide_eq_true c3; clear c3; by_cases c4 : 0 ≤ a1
  ·rw [if_pos c4] at H; have n0 : decide (0 ≤ a1) = true := decide_eq_true c4; clear c4; obtain rfl := Option.some.inj H
   have j9 : 0 ≤ (a1 : Int) := od_
   have l1 : a1 < (l0.length : Int) := od_
   obtain ⟨q5, p4, o7⟩ := Kd.at_int g9.out a1 j9 l1; cases p4; replace j9 := eq_true j9; replace l1 := eq_true l1
   go_enter Try.func24, Try.ntmps24
   go_wp2; go_ret
   exact ⟨by first | rfl | (simp; done) | (simp [*]; done), by repeat (first | exact Drawn0.refl _ | apply Drawn0.step)⟩
  ·rw [if_neg c4] at H
   exact absurd H (by simp)
 ·rw [if_neg c3] at H; have g7 : decide (a1 < (l0.length : Int)) = false := decide_eq_false c3; clear c3; obtain rfl := Option.some.inj H
  go_enter Try.func24, Try.ntmps24
  go_wp2; go_ret
  exact ⟨by first | rfl | (simp; done) | (simp [*]; done), by repeat (first | exact Drawn0.refl _ | apply Drawn0.step)⟩

/-! ### math_IsNaN: function 70 -/
def math_IsNaN.f (a0 : Fl) : Option (Bool) := some (fcmp .neq .f64 a0 a0)
set_option maxHeartbeats 8000000 in
set_option maxRecDepth 100000 in
theorem math_IsNaN.calls (b_a0 : Nat) (a0 : Fl) (r : Bool) (w : World) (hF_a0 : cn .f64 b_a0 = a0) (h : math_IsNaN.f a0 = some r) :
  Calls Try.prog 70 #[.float .f64 b_a0] w fun e w' => e = .returned (.bool r) ∧ Drawn0 w w' := by
 have H : (some (fcmp .neq .f64 a0 a0)) = some r := h
 clear h; obtain rfl := Option.some.inj H
 go_enter Try.func70, Try.ntmps70
 go_wp2; go_ret
 exact ⟨by first | rfl | (simp; done) | (simp [*]; done), by repeat (first | exact Drawn0.refl _ | apply Drawn0.step)⟩

/-! ### impl_MeanOf: function 27 -/
def impl_MeanOf.l0 : Nat → List (Fl) → Fl → Int → List (Fl) → Int → Int → Option (Fl × Int × Bool)
 | 0, _, _, _, _, _, _ => none
 | k + 1, x0, x5, x6, x9, p5, m5 => if m5 < p5 then (if 0 ≤ m5 then (if m5 < (x9.length : Int) then ((some (rdf .f64 x9 m5 : Fl)).bind fun fr104_0 => ((math_IsNaN.f fr104_0).bind fun g8 => (if g8 = true then (impl_MeanOf.l0 k x0 x5 x6 x9 p5 (wrap64 (m5 + 1))) else (impl_MeanOf.l0 k x0 (fop .add .f64 x5 fr104_0) (wrap64 (x6 + 1)) x9 p5 (wrap64 (m5 + 1)))))) else (none)) else (none)) else (if x6 = 0 then (some ((cn .f64 0), 0, false)) else (if (x0.length : Int) > 60 then (some ((cn .f64 0), 0, false)) else (some ((fop .quo .f64 x5 (fint .f64 x6)), x6, true))))
def impl_MeanOf.f (k : Nat) (l0 : List (Fl)) : Option (Fl × Int × Bool) := impl_MeanOf.l0 k l0 (cn .f64 0) 0 l0 (l0.length : Int) 0
theorem impl_MeanOf.mono_l : ∀ k, (∀ y0 y1 y2 y3 y4 y5, LeO (impl_MeanOf.l0 k y0 y1 y2 y3 y4 y5) (impl_MeanOf.l0 (k + 1) y0 y1 y2 y3 y4 y5))
 | 0 => fun _ _ _ _ _ _ r h => by simp [impl_MeanOf.l0] at h
 | k + 1 => by
  have d0 := impl_MeanOf.mono_l k
  ·intro y0 y1 y2 y3 y4 y5
   unfold impl_MeanOf.l0
   repeat' first
   | (with_reducible exact d0 _ _ _ _ _ _)
   | (with_reducible exact LeO.refl _)
   | (with_reducible exact LeO.none _)
   | (with_reducible refine LeO.ite ?_ ?_)
   | (with_reducible refine LeO.bind ?_ (fun _ => ?_))
   | exact d0 _ _ _ _ _ _
   | exact LeO.none _
   | refine LeO.ite ?_ ?_
   | refine LeO.bind ?_ (fun _ => ?_)
theorem impl_MeanOf.mono : ∀ a0 k, LeO (impl_MeanOf.f k a0) (impl_MeanOf.f (k + 1) a0) := by
 intro a0 k
 have d0 := impl_MeanOf.mono_l k
 unfold impl_MeanOf.f
 repeat' first
   | (with_reducible exact d0 _ _ _ _ _ _)
   | (with_reducible exact LeO.refl _)
   | (with_reducible exact LeO.none _)
   | (with_reducible refine LeO.ite ?_ ?_)
   | (with_reducible refine LeO.bind ?_ (fun _ => ?_))
   | exact d0 _ _ _ _ _ _
   | exact LeO.none _
   | refine LeO.ite ?_ ?_
   | refine LeO.bind ?_ (fun _ => ?_)
set_option maxHeartbeats 8000000 in
set_option maxRecDepth 100000 in
theorem impl_MeanOf.calls (k : Nat) (A0 : Option Addr) (c0 : Nat) (l0 : List (Fl)) (r1 : Fl) (r2 : Int) (r3 : Bool) (w : World) (hr0 : Kd.C (Kd.fl .f64) w A0 l0.length l0) (hc0 : l0.length ≤ c0) (h : impl_MeanOf.f k l0 = some (r1, r2, r3)) :
  Calls Try.prog 27 #[.slice A0 l0.length c0] w fun e w' => ∃ b_r1 : Nat, e = .returned (.tuple #[.float .f64 b_r1, .int .i64 r2, .bool r3]) ∧ cn .f64 b_r1 = r1 ∧ Drawn0 w w' := by
 have g9 := mk_ hr0; have m9 := mk_ hc0; clear hr0 hc0
 have H : (impl_MeanOf.l0 k l0 (cn .f64 0) 0 l0 (l0.length : Int) 0) = some (r1, r2, r3) := h
 clear h
 have H' := mk_ H
 clear H
 go_enter Try.func27, Try.ntmps27
 go_wp2
 go_loopg [5, 6, 11] k (fun kq v5 v6 v11 w' => ∃ (c1 : Fl) (a6 : Int) (a3 : Int) (b_x5_1 : Nat), v5 = .float .f64 b_x5_1 ∧ v6 = .int .i64 a6 ∧ v11 = .int .i64 a3 ∧ Aside0 (impl_MeanOf.l0 kq l0 c1 a6 l0 (l0.length : Int) a3 = some (r1, r2, r3)) ∧ Aside0 (kq ≤ k) ∧ Aside0 (cn .f64 b_x5_1 = c1) ∧ Drawn0 w w')
 case atStart => exact ⟨((cn .f64 0)), (0), (0), 0, rf_, rf_, rf_, H', ⟨Nat.le_refl _⟩, ⟨rfl⟩, by repeat (first | exact Drawn0.refl _ | apply Drawn0.step)⟩
 case round =>
  clear H'
  obtain ⟨c1, a6, a3, b_x5_1, rfl, rfl, rfl, HA, l2, ⟨hF_x5_1⟩, ⟨m1, rfl⟩⟩ := hrel
  cases gk with
  | zero => exact absurd HA.out (by simp [impl_MeanOf.l0])
  | succ k1 =>
   have H := HA.out; clear HA
   simp only [impl_MeanOf.l0] at H
   by_cases c2 : a3 < (l0.length : Int)
   ·rw [if_pos c2] at H; have p6 : decide (a3 < (l0.length : Int)) = true := decide_eq_true c2; clear c2; by_cases c3 : 0 ≤ a3
    ·rw [if_pos c3] at H; have g7 : decide (0 ≤ a3) = true := decide_eq_true c3; clear c3; by_cases c4 : a3 < (l0.length : Int)
     ·rw [if_pos c4] at H; have n0 : decide (a3 < (l0.length : Int)) = true := decide_eq_true c4; clear c4
      obtain ⟨fr104_0, b5⟩ : ∃ y_ : Fl, y_ = (rdf .f64 l0 a3) := ⟨_, rfl⟩
      replace H : ((math_IsNaN.f fr104_0).bind fun g8 => (if g8 = true then (impl_MeanOf.l0 k1 l0 c1 a6 l0 (l0.length : Int) (wrap64 (a3 + 1))) else (impl_MeanOf.l0 k1 l0 (fop .add .f64 c1 fr104_0) (wrap64 (a6 + 1)) l0 (l0.length : Int) (wrap64 (a3 + 1))))) = some (r1, r2, r3) := by first | (rw [b5]; with_reducible exact H) | (have H2_ := (Option.bind_some _ _).symm.trans H; rw [b5]; with_reducible exact H2_) | (have H2_ := (Option.bind_some _ _).symm.trans H; with_reducible exact H2_) | with_reducible exact H | (rw [b5]; exact H) | exact H
      have Nfr104_0 := mk_ b5; clear b5; replace H := Option.bind_eq_some_iff.mp H; obtain ⟨g8, n1, H⟩ := H
      replace H : (if g8 = true then (impl_MeanOf.l0 k1 l0 c1 a6 l0 (l0.length : Int) (wrap64 (a3 + 1))) else (impl_MeanOf.l0 k1 l0 (fop .add .f64 c1 fr104_0) (wrap64 (a6 + 1)) l0 (l0.length : Int) (wrap64 (a3 + 1)))) = some (r1, r2, r3) := H
      have A5 := mk_ n1; clear n1; by_cases c6 : g8 = true
      ·subst c6
       have H1 : (impl_MeanOf.l0 k1 l0 c1 a6 l0 (l0.length : Int) (wrap64 (a3 + 1))) = some (r1, r2, r3) := by rw [if_pos rfl] at H; exact H
       clear H
       have H := H1
       clear H1
       have H' := mk_ H
       clear H
       have d9 : 0 ≤ (a3 : Int) := od_
       have g1 : a3 < (l0.length : Int) := od_
       obtain ⟨n2, b_fr104_0, l3, h5, hF104_0⟩ := Kd.at_fl g9.out a3 d9 g1
       have hF_fr104_0 := hF104_0.trans Nfr104_0.out.symm
       clear hF104_0; cases l3; replace d9 := eq_true d9; replace g1 := eq_true g1
       go_wp2_with (first | ((with_reducible refine gc_ 70 rfl ?_); refine gl_ (some 16) rfl Try.func70 #[.float .f64 b_fr104_0] ?_; (with_reducible refine (math_IsNaN.calls b_fr104_0 fr104_0 true _ ?a7 A5.out).mono ?_); (case a7 => exact hF_fr104_0); rintro e w' ⟨rfl, ⟨nd, rfl⟩⟩; refine ⟨_, rfl, ?_⟩))
       go_roundg k1
       case measure => have := l2.out; omega
       case rel => exact ⟨(c1), (a6), (wrap64 (a3 + 1)), b_x5_1, rf_, rf_, rf_, H', ⟨by have := l2.out; omega⟩, ⟨hF_x5_1⟩, by repeat (first | exact Drawn0.refl _ | apply Drawn0.step)⟩
      ·replace c6 := Bool.eq_false_iff.mpr c6; subst c6
       have H1 : (impl_MeanOf.l0 k1 l0 (fop .add .f64 c1 fr104_0) (wrap64 (a6 + 1)) l0 (l0.length : Int) (wrap64 (a3 + 1))) = some (r1, r2, r3) := by rw [if_neg (show ¬ (false = true) by decide)] at H; exact H
       clear H
       have H := H1
       clear H1
       obtain ⟨ft106, hft106⟩ : ∃ y_ : Fl, y_ = (fop .add .f64 c1 fr104_0) := ⟨_, rfl⟩
       replace H : (impl_MeanOf.l0 k1 l0 ft106 (wrap64 (a6 + 1)) l0 (l0.length : Int) (wrap64 (a3 + 1))) = some (r1, r2, r3) := by first | (rw [hft106]; with_reducible exact H) | (have H2_ := (Option.bind_some _ _).symm.trans H; rw [hft106]; with_reducible exact H2_) | (have H2_ := (Option.bind_some _ _).symm.trans H; with_reducible exact H2_) | with_reducible exact H | (rw [hft106]; exact H) | exact H
       have Nft106 := mk_ hft106; clear hft106
       have H' := mk_ H
       clear H
       have d9 : 0 ≤ (a3 : Int) := od_
       have g1 : a3 < (l0.length : Int) := od_
       obtain ⟨n2, b_fr104_0, l3, h5, hF104_0⟩ := Kd.at_fl g9.out a3 d9 g1
       have hF_fr104_0 := hF104_0.trans Nfr104_0.out.symm
       clear hF104_0; cases l3; replace d9 := eq_true d9; replace g1 := eq_true g1
       go_wp2_with (first | ((with_reducible refine gc_ 70 rfl ?_); refine gl_ (some 16) rfl Try.func70 #[.float .f64 b_fr104_0] ?_; (with_reducible refine (math_IsNaN.calls b_fr104_0 fr104_0 false _ ?a7 A5.out).mono ?_); (case a7 => exact hF_fr104_0); rintro e w' ⟨rfl, ⟨nd, rfl⟩⟩; refine ⟨_, rfl, ?_⟩) | ((with_reducible refine gd_ 20 rfl ?_); (try (refine gate_guard (by rfl) ?_; dsimp only)); refine fop_event rfl (N := 20) rfl (op := .add) (by simp) rfl .f64 b_x5_1 b_fr104_0 c1 fr104_0 rfl rfl hF_x5_1 hF_fr104_0 ?_; intro b_ft106 nf_ hF_; replace hF_ := hF_.trans Nft106.out.symm; have hF_ft106 := hF_; clear hF_))
       go_roundg k1
       case measure => have := l2.out; omega
       case rel => exact ⟨(ft106), (wrap64 (a6 + 1)), (wrap64 (a3 + 1)), b_ft106, rf_, rf_, rf_, H', ⟨by have := l2.out; omega⟩, ⟨hF_ft106⟩, by repeat (first | exact Drawn0.refl _ | apply Drawn0.step)⟩
     ·rw [if_neg c4] at H
      exact absurd H (by simp)
    ·rw [if_neg c3] at H
     exact absurd H (by simp)
   ·rw [if_neg c2] at H; have p6 : decide (a3 < (l0.length : Int)) = false := decide_eq_false c2; clear c2; by_cases c7 : a6 = 0
    ·rw [if_pos c7] at H; have p7 : (a6 == 0) = true := beq_iff_eq.mpr c7; have p8 : (a6 != 0) = false := bne_eq_false_iff_eq.mpr c7; clear c7
     simp only [Option.some.injEq, Prod.mk.injEq] at H
     obtain ⟨rfl, rfl, rfl⟩ := H; go_wp2
     go_ret3
     exact ⟨0, by first | rfl | (simp; done) | (simp [*]; done), rfl, by repeat (first | exact Drawn0.refl _ | apply Drawn0.step)⟩
    ·rw [if_neg c7] at H; have p7 : (a6 == 0) = false := beq_eq_false_iff_ne.mpr c7; have p8 : (a6 != 0) = true := bne_iff_ne.mpr c7; by_cases c8 : (l0.length : Int) > 60
     ·rw [if_pos c8] at H; have p9 : decide (60 < (l0.length : Int)) = true := decide_eq_true c8; have q0 : decide (60 < l0.length) = true := decide_eq_true (by omega); clear c8
      simp only [Option.some.injEq, Prod.mk.injEq] at H
      obtain ⟨rfl, rfl, rfl⟩ := H; go_wp2
      go_ret3
      exact ⟨0, by first | rfl | (simp; done) | (simp [*]; done), rfl, by repeat (first | exact Drawn0.refl _ | apply Drawn0.step)⟩
     ·rw [if_neg c8] at H; have p9 : decide (60 < (l0.length : Int)) = false := decide_eq_false c8; have q0 : decide (60 < l0.length) = false := decide_eq_false (by omega); clear c8
      obtain ⟨ft102, hft102⟩ : ∃ y_ : Fl, y_ = (fint .f64 a6) := ⟨_, rfl⟩
      replace H : (some ((fop .quo .f64 c1 ft102), a6, true)) = some (r1, r2, r3) := by first | (rw [hft102]; with_reducible exact H) | (have H2_ := (Option.bind_some _ _).symm.trans H; rw [hft102]; with_reducible exact H2_) | (have H2_ := (Option.bind_some _ _).symm.trans H; with_reducible exact H2_) | with_reducible exact H | (rw [hft102]; exact H) | exact H
      have Nft102 := mk_ hft102; clear hft102
      obtain ⟨ft103, hft103⟩ : ∃ y_ : Fl, y_ = (fop .quo .f64 c1 ft102) := ⟨_, rfl⟩
      replace H : (some (ft103, a6, true)) = some (r1, r2, r3) := by first | (rw [hft103]; with_reducible exact H) | (have H2_ := (Option.bind_some _ _).symm.trans H; rw [hft103]; with_reducible exact H2_) | (have H2_ := (Option.bind_some _ _).symm.trans H; with_reducible exact H2_) | with_reducible exact H | (rw [hft103]; exact H) | exact H
      have Nft103 := mk_ hft103; clear hft103
      simp only [Option.some.injEq, Prod.mk.injEq] at H
      obtain ⟨rfl, rfl, rfl⟩ := H
      go_wp2_with (first | ((with_reducible refine gd_ 33 rfl ?_); (try (refine gate_guard (by rfl) ?_; dsimp only)); refine fint_event rfl (N := 33) rfl rfl .f64 .i64 a6 Try.underlying3 Try.underlying36 rfl ?_; intro b_ft102 nf_ hF_; replace hF_ := hF_.trans Nft102.out.symm; have hF_ft102 := hF_; clear hF_) | ((with_reducible refine gd_ 34 rfl ?_); (try (refine gate_guard (by rfl) ?_; dsimp only)); refine fop_event rfl (N := 34) rfl (op := .quo) (by simp) rfl .f64 b_x5_1 b_ft102 c1 ft102 rfl rfl hF_x5_1 hF_ft102 ?_; intro b_ft103 nf_ hF_; replace hF_ := hF_.trans Nft103.out.symm; have hF_ft103 := hF_; clear hF_))
      go_ret3
      exact ⟨b_ft103, by first | rfl | (simp; done) | (simp [*]; done), hF_ft103, by repeat (first | exact Drawn0.refl _ | apply Drawn0.step)⟩

-- NOT PRINTED: function 95 (math_Float64frombits)

/-! ### math_NaN: function 71 -/
def math_NaN.f  : Option (Fl) := some (cn .f64 9221120237041090561)
set_option maxHeartbeats 8000000 in
set_option maxRecDepth 100000 in
theorem math_NaN.calls  (r : Fl) (w : World) (h : math_NaN.f  = some r) :
  Calls Try.prog 71 #[] w fun e w' => ∃ b_r : Nat, e = .returned (.float .f64 b_r) ∧ cn .f64 b_r = r ∧ Drawn0 w w' := by
 have H : (some (cn .f64 9221120237041090561)) = some r := h
 clear h; obtain rfl := Option.some.inj H
 go_enter Try.func71, Try.ntmps71
 go_wp2_with (first | ((with_reducible refine gate_callee (f := 95) rfl ?_); refine extern_event rfl (N := 1) rfl (e := Extern.MathFloatBits.float64frombits) rfl Try.func95 (by kernel_rfl) rfl (by kernel_rfl) (by kernel_rfl) #[.int .u64 9221120237041090561] (by (try simp only [List.map_toArray, List.map_cons, List.map_nil]); first | done | rfl) (.float .f64 9221120237041090561) rfl ?_))
 go_ret
 exact ⟨9221120237041090561, by first | rfl | (simp; done) | (simp [*]; done), rfl, by repeat (first | exact Drawn0.refl _ | apply Drawn0.step)⟩

/-! ### impl_Smooth_1: function 73 -/
def impl_Smooth_1.f (a0 : Fl) : Option (Bool) := (math_IsNaN.f a0).bind fun h2 => (some (!h2))
set_option maxHeartbeats 8000000 in
set_option maxRecDepth 100000 in
theorem impl_Smooth_1.calls (b_a0 : Nat) (a0 : Fl) (r : Bool) (w : World) (hF_a0 : cn .f64 b_a0 = a0) (h : impl_Smooth_1.f a0 = some r) :
  Calls Try.prog 73 #[.float .f64 b_a0] w fun e w' => e = .returned (.bool r) ∧ Drawn0 w w' := by
 have H : ((math_IsNaN.f a0).bind fun h2 => (some (!h2))) = some r := h
 clear h; replace H := Option.bind_eq_some_iff.mp H; obtain ⟨h2, q6, H⟩ := H; (try dsimp only at H); have A2 := mk_ q6; clear q6; obtain rfl := Option.some.inj H
 go_enter Try.func73, Try.ntmps73
 go_wp2_with (first | ((with_reducible refine gc_ 70 rfl ?_); refine gl_ (some 4) rfl Try.func70 #[.float .f64 b_a0] ?_; (with_reducible refine (math_IsNaN.calls b_a0 a0 h2 _ ?a7 A2.out).mono ?_); (case a7 => exact hF_a0); rintro e w' ⟨rfl, ⟨nd, rfl⟩⟩; refine ⟨_, rfl, ?_⟩))
 go_ret
 exact ⟨by first | rfl | (simp; done) | (simp [*]; done), by repeat (first | exact Drawn0.refl _ | apply Drawn0.step)⟩

/-! ### slices_IndexFunc_float64_float64: function 72 -/
def slices_IndexFunc_float64_float64.l0 : Nat → List (Fl) → Int → Int → Option (Int)
 | 0, _, _, _ => none
 | k + 1, x0, x7, x8 => if x8 < x7 then (if 0 ≤ x8 then (if x8 < (x0.length : Int) then ((impl_Smooth_1.f (rdf .f64 x0 x8)).bind fun h3 => (if h3 = true then (some x8) else (slices_IndexFunc_float64_float64.l0 k x0 x7 (wrap64 (x8 + 1))))) else (none)) else (none)) else (some (-1))
def slices_IndexFunc_float64_float64.f (k : Nat) (l0 : List (Fl)) (a1 : Unit) : Option (Int) := slices_IndexFunc_float64_float64.l0 k l0 (l0.length : Int) 0
theorem slices_IndexFunc_float64_float64.mono_l : ∀ k, (∀ y0 y1 y2, LeO (slices_IndexFunc_float64_float64.l0 k y0 y1 y2) (slices_IndexFunc_float64_float64.l0 (k + 1) y0 y1 y2))
 | 0 => fun _ _ _ r h => by simp [slices_IndexFunc_float64_float64.l0] at h
 | k + 1 => by
  have d0 := slices_IndexFunc_float64_float64.mono_l k
  ·intro y0 y1 y2
   unfold slices_IndexFunc_float64_float64.l0
   repeat' first
   | (with_reducible exact d0 _ _ _)
   | (with_reducible exact LeO.refl _)
   | (with_reducible exact LeO.none _)
   | (with_reducible refine LeO.ite ?_ ?_)
   | (with_reducible refine LeO.bind ?_ (fun _ => ?_))
   | exact d0 _ _ _
   | exact LeO.none _
   | refine LeO.ite ?_ ?_
   | refine LeO.bind ?_ (fun _ => ?_)
theorem slices_IndexFunc_float64_float64.mono : ∀ a0 a1 k, LeO (slices_IndexFunc_float64_float64.f k a0 a1) (slices_IndexFunc_float64_float64.f (k + 1) a0 a1) := by
 intro a0 a1 k
 have d0 := slices_IndexFunc_float64_float64.mono_l k
 unfold slices_IndexFunc_float64_float64.f
 repeat' first
   | (with_reducible exact d0 _ _ _)
   | (with_reducible exact LeO.refl _)
   | (with_reducible exact LeO.none _)
   | (with_reducible refine LeO.ite ?_ ?_)
   | (with_reducible refine LeO.bind ?_ (fun _ => ?_))
   | exact d0 _ _ _
   | exact LeO.none _
   | refine LeO.ite ?_ ?_
   | refine LeO.bind ?_ (fun _ => ?_)
set_option maxHeartbeats 8000000 in
set_option maxRecDepth 100000 in
theorem slices_IndexFunc_float64_float64.calls (k : Nat) (A0 : Option Addr) (c0 : Nat) (l0 : List (Fl)) (a1 : Unit) (r : Int) (w : World) (hr0 : Kd.C (Kd.fl .f64) w A0 l0.length l0) (hc0 : l0.length ≤ c0) (h : slices_IndexFunc_float64_float64.f k l0 a1 = some r) :
  Calls Try.prog 72 #[.slice A0 l0.length c0, .func (.func 73) #[] #[]] w fun e w' => e = .returned (.int .i64 r) ∧ Drawn0 w w' := by
 have g9 := mk_ hr0; have m9 := mk_ hc0; clear hr0 hc0
 have H : (slices_IndexFunc_float64_float64.l0 k l0 (l0.length : Int) 0) = some r := h
 clear h
 have H' := mk_ H
 clear H
 go_enter Try.func72, Try.ntmps72
 go_wp2
 go_loopg [8] k (fun kq v8 w' => ∃ (a8 : Int), v8 = .int .i64 a8 ∧ Aside0 (slices_IndexFunc_float64_float64.l0 kq l0 (l0.length : Int) a8 = some r) ∧ Aside0 (kq ≤ k) ∧ Drawn0 w w')
 case atStart => exact ⟨(0), rf_, H', ⟨Nat.le_refl _⟩, by repeat (first | exact Drawn0.refl _ | apply Drawn0.step)⟩
 case round =>
  clear H'
  obtain ⟨a8, rfl, HA, l2, ⟨m1, rfl⟩⟩ := hrel
  cases gk with
  | zero => exact absurd HA.out (by simp [slices_IndexFunc_float64_float64.l0])
  | succ k1 =>
   have H := HA.out; clear HA
   simp only [slices_IndexFunc_float64_float64.l0] at H
   by_cases c3 : a8 < (l0.length : Int)
   ·rw [if_pos c3] at H; have g7 : decide (a8 < (l0.length : Int)) = true := decide_eq_true c3; clear c3; by_cases c4 : 0 ≤ a8
    ·rw [if_pos c4] at H; have n0 : decide (0 ≤ a8) = true := decide_eq_true c4; clear c4; by_cases c5 : a8 < (l0.length : Int)
     ·rw [if_pos c5] at H; have s4 : decide (a8 < (l0.length : Int)) = true := decide_eq_true c5; clear c5
      obtain ⟨fr108_0, b6⟩ : ∃ y_ : Fl, y_ = (rdf .f64 l0 a8) := ⟨_, rfl⟩
      replace H : ((impl_Smooth_1.f fr108_0).bind fun h3 => (if h3 = true then (some a8) else (slices_IndexFunc_float64_float64.l0 k1 l0 (l0.length : Int) (wrap64 (a8 + 1))))) = some r := by first | (rw [b6]; with_reducible exact H) | (have H2_ := (Option.bind_some _ _).symm.trans H; rw [b6]; with_reducible exact H2_) | (have H2_ := (Option.bind_some _ _).symm.trans H; with_reducible exact H2_) | with_reducible exact H | (rw [b6]; exact H) | exact H
      have Nfr108_0 := mk_ b6; clear b6; replace H := Option.bind_eq_some_iff.mp H; obtain ⟨h3, q7, H⟩ := H; (try dsimp only at H); have A6 := mk_ q7; clear q7; by_cases c7 : h3 = true
      ·subst c7; rw [if_pos rfl] at H
       obtain rfl := Option.some.inj H
       have g2 : 0 ≤ (a8 : Int) := od_
       have g3 : a8 < (l0.length : Int) := od_
       obtain ⟨n3, b_fr108_0, l4, h6, hF108_0⟩ := Kd.at_fl g9.out a8 g2 g3
       have hF_fr108_0 := hF108_0.trans Nfr108_0.out.symm
       clear hF108_0; cases l4; replace g2 := eq_true g2; replace g3 := eq_true g3
       go_wp2_with (first | (go_at_call 73; (with_reducible refine (impl_Smooth_1.calls b_fr108_0 fr108_0 true _ ?a7 A6.out).mono ?_); (case a7 => exact hF_fr108_0); rintro e w' ⟨rfl, ⟨nd, rfl⟩⟩))
       go_ret
       exact ⟨by first | rfl | (simp; done) | (simp [*]; done), by repeat (first | exact Drawn0.refl _ | apply Drawn0.step)⟩
      ·replace c7 := Bool.eq_false_iff.mpr c7; subst c7; rw [if_neg (show ¬ (false = true) by decide)] at H
       have H' := mk_ H
       clear H
       have g2 : 0 ≤ (a8 : Int) := od_
       have g3 : a8 < (l0.length : Int) := od_
       obtain ⟨n3, b_fr108_0, l4, h6, hF108_0⟩ := Kd.at_fl g9.out a8 g2 g3
       have hF_fr108_0 := hF108_0.trans Nfr108_0.out.symm
       clear hF108_0; cases l4; replace g2 := eq_true g2; replace g3 := eq_true g3
       go_wp2_with (first | (go_at_call 73; (with_reducible refine (impl_Smooth_1.calls b_fr108_0 fr108_0 false _ ?a7 A6.out).mono ?_); (case a7 => exact hF_fr108_0); rintro e w' ⟨rfl, ⟨nd, rfl⟩⟩))
       go_roundg k1
       case measure => have := l2.out; omega
       case rel => exact ⟨(wrap64 (a8 + 1)), rf_, H', ⟨by have := l2.out; omega⟩, by repeat (first | exact Drawn0.refl _ | apply Drawn0.step)⟩
     ·rw [if_neg c5] at H
      exact absurd H (by simp)
    ·rw [if_neg c4] at H
     exact absurd H (by simp)
   ·rw [if_neg c3] at H; have g7 : decide (a8 < (l0.length : Int)) = false := decide_eq_false c3; clear c3; obtain rfl := Option.some.inj H; go_wp2; go_ret
    exact ⟨by first | rfl | (simp; done) | (simp [*]; done), by repeat (first | exact Drawn0.refl _ | apply Drawn0.step)⟩

/-! ### impl_Smooth: function 28 -/
mutual
def impl_Smooth.j0 : Nat → List (Fl) → Fl → Fl → List (Fl) → Option ((List (Fl)) × Bool)
 | 0, _, _, _, _ => none
 | k + 1, x0, x1, x6, x7 => impl_Smooth.l0 k x1 x6 x7 false x0 (x0.length : Int) 0
def impl_Smooth.l0 : Nat → Fl → Fl → List (Fl) → Bool → List (Fl) → Int → Int → Option ((List (Fl)) × Bool)
 | 0, _, _, _, _, _, _, _ => none
 | k + 1, x1, x6, x7, x9, l5, m6, h7 => if h7 < m6 then (if 0 ≤ h7 then (if h7 < (l5.length : Int) then ((some (rdf .f64 l5 h7 : Fl)).bind fun fr116_0 => ((math_IsNaN.f fr116_0).bind fun g4 => (if g4 = true then (impl_Smooth.j2 k x1 x6 x7 x9 l5 m6 h7) else (impl_Smooth.j2 k x1 (fop .add .f64 x6 (fop .mul .f64 (fop .sub .f64 fr116_0 x6) x1)) x7 true l5 m6 h7)))) else (none)) else (none)) else (some (x7, true))
def impl_Smooth.j2 : Nat → Fl → Fl → List (Fl) → Bool → List (Fl) → Int → Int → Option ((List (Fl)) × Bool)
 | 0, _, _, _, _, _, _, _ => none
 | k + 1, x1, x6, x7, x9, l5, m6, h7 => if x9 = true then (if x7.length < 17592186044416 then (impl_Smooth.l0 k x1 x6 (x7 ++ [x6]) x9 l5 m6 (wrap64 (h7 + 1))) else (none)) else ((math_NaN.f).bind fun d5 => (if x7.length < 17592186044416 then (impl_Smooth.l0 k x1 x6 (x7 ++ [d5]) x9 l5 m6 (wrap64 (h7 + 1))) else (none)))
end
def impl_Smooth.f (k : Nat) (l0 : List (Fl)) (a1 : Fl) : Option ((List (Fl)) × Bool) := if (l0.length : Int) > 60 then (some (([] : List (Fl)), false)) else ((math_NaN.f).bind fun d2 => ((some (([] : List (Fl)) : List (Fl))).bind fun b7 => ((slices_IndexFunc_float64_float64.f k l0 ()).bind fun a4 => (if a4 ≥ 0 then (if 0 ≤ a4 then (if a4 < (l0.length : Int) then (impl_Smooth.j0 k l0 a1 (rdf .f64 l0 a4) b7) else (none)) else (none)) else (impl_Smooth.j0 k l0 a1 d2 b7)))))
theorem impl_Smooth.mono_l : ∀ k, (∀ y0 y1 y2 y3, LeO (impl_Smooth.j0 k y0 y1 y2 y3) (impl_Smooth.j0 (k + 1) y0 y1 y2 y3)) ∧ (∀ y0 y1 y2 y3 y4 y5 y6, LeO (impl_Smooth.l0 k y0 y1 y2 y3 y4 y5 y6) (impl_Smooth.l0 (k + 1) y0 y1 y2 y3 y4 y5 y6)) ∧ (∀ y0 y1 y2 y3 y4 y5 y6, LeO (impl_Smooth.j2 k y0 y1 y2 y3 y4 y5 y6) (impl_Smooth.j2 (k + 1) y0 y1 y2 y3 y4 y5 y6))
 | 0 => ⟨fun _ _ _ _ r h => by simp [impl_Smooth.j0] at h, fun _ _ _ _ _ _ _ r h => by simp [impl_Smooth.l0] at h, fun _ _ _ _ _ _ _ r h => by simp [impl_Smooth.j2] at h⟩
 | k + 1 => by
  obtain ⟨d0, h8, h9⟩ := impl_Smooth.mono_l k
  refine ⟨?_, ?_, ?_⟩
  ·intro y0 y1 y2 y3
   unfold impl_Smooth.j0
   repeat' first
   | (with_reducible exact d0 _ _ _ _)
   | (with_reducible exact h8 _ _ _ _ _ _ _)
   | (with_reducible exact h9 _ _ _ _ _ _ _)
   | (with_reducible exact slices_IndexFunc_float64_float64.mono _ _ _)
   | (with_reducible exact LeO.refl _)
   | (with_reducible exact LeO.none _)
   | (with_reducible refine LeO.ite ?_ ?_)
   | (with_reducible refine LeO.bind ?_ (fun _ => ?_))
   | exact d0 _ _ _ _
   | exact h8 _ _ _ _ _ _ _
   | exact h9 _ _ _ _ _ _ _
   | exact slices_IndexFunc_float64_float64.mono _ _ _
   | exact LeO.none _
   | refine LeO.ite ?_ ?_
   | refine LeO.bind ?_ (fun _ => ?_)
  ·intro y0 y1 y2 y3 y4 y5 y6
   unfold impl_Smooth.l0
   repeat' first
   | (with_reducible exact d0 _ _ _ _)
   | (with_reducible exact h8 _ _ _ _ _ _ _)
   | (with_reducible exact h9 _ _ _ _ _ _ _)
   | (with_reducible exact slices_IndexFunc_float64_float64.mono _ _ _)
   | (with_reducible exact LeO.refl _)
   | (with_reducible exact LeO.none _)
   | (with_reducible refine LeO.ite ?_ ?_)
   | (with_reducible refine LeO.bind ?_ (fun _ => ?_))
   | exact d0 _ _ _ _
   | exact h8 _ _ _ _ _ _ _
   | exact h9 _ _ _ _ _ _ _
   | exact slices_IndexFunc_float64_float64.mono _ _ _
   | exact LeO.none _
   | refine LeO.ite ?_ ?_
   | refine LeO.bind ?_ (fun _ => ?_)
  ·intro y0 y1 y2 y3 y4 y5 y6
   unfold impl_Smooth.j2
   repeat' first
   | (with_reducible exact d0 _ _ _ _)
   | (with_reducible exact h8 _ _ _ _ _ _ _)
   | (with_reducible exact h9 _ _ _ _ _ _ _)
   | (with_reducible exact slices_IndexFunc_float64_float64.mono _ _ _)
   | (with_reducible exact LeO.refl _)
   | (with_reducible exact LeO.none _)
   | (with_reducible refine LeO.ite ?_ ?_)
   | (with_reducible refine LeO.bind ?_ (fun _ => ?_))
   | exact d0 _ _ _ _
   | exact h8 _ _ _ _ _ _ _
   | exact h9 _ _ _ _ _ _ _
   | exact slices_IndexFunc_float64_float64.mono _ _ _
   | exact LeO.none _
   | refine LeO.ite ?_ ?_
   | refine LeO.bind ?_ (fun _ => ?_)
theorem impl_Smooth.mono : ∀ a0 a1 k, LeO (impl_Smooth.f k a0 a1) (impl_Smooth.f (k + 1) a0 a1) := by
 intro a0 a1 k
 obtain ⟨d0, h8, h9⟩ := impl_Smooth.mono_l k
 unfold impl_Smooth.f
 repeat' first
   | (with_reducible exact d0 _ _ _ _)
   | (with_reducible exact h8 _ _ _ _ _ _ _)
   | (with_reducible exact h9 _ _ _ _ _ _ _)
   | (with_reducible exact slices_IndexFunc_float64_float64.mono _ _ _)
   | (with_reducible exact LeO.refl _)
   | (with_reducible exact LeO.none _)
   | (with_reducible refine LeO.ite ?_ ?_)
   | (with_reducible refine LeO.bind ?_ (fun _ => ?_))
   | exact d0 _ _ _ _
   | exact h8 _ _ _ _ _ _ _
   | exact h9 _ _ _ _ _ _ _
   | exact slices_IndexFunc_float64_float64.mono _ _ _
   | exact LeO.none _
   | refine LeO.ite ?_ ?_
   | refine LeO.bind ?_ (fun _ => ?_)
set_option maxHeartbeats 8000000 in
set_option maxRecDepth 100000 in
theorem impl_Smooth.calls (k : Nat) (A0 : Option Addr) (c0 : Nat) (l0 : List (Fl)) (b_a1 : Nat) (a1 : Fl) (r1 : List (Fl)) (r2 : Bool) (w : World) (hr0 : Kd.C (Kd.fl .f64) w A0 l0.length l0) (hc0 : l0.length ≤ c0) (hF_a1 : cn .f64 b_a1 = a1) (h : impl_Smooth.f k l0 a1 = some (r1, r2)) :
  Calls Try.prog 28 #[.slice A0 l0.length c0, .float .f64 b_a1] w fun e w' => ∃ v0_ : Value, e = .returned (.tuple #[v0_, .bool r2]) ∧ Kd.R (Kd.fl .f64) 36 w' w.heap.size (fun _ => True) v0_ r1 ∧ Below w.heap.size w w' := by
 have g9 := mk_ hr0; have m9 := mk_ hc0; clear hr0 hc0; have HB := mk_ (Below.refl w.heap.size w)
 have H : (if (l0.length : Int) > 60 then (some (([] : List (Fl)), false)) else ((math_NaN.f).bind fun d2 => ((some (([] : List (Fl)) : List (Fl))).bind fun b7 => ((slices_IndexFunc_float64_float64.f k l0 ()).bind fun a4 => (if a4 ≥ 0 then (if 0 ≤ a4 then (if a4 < (l0.length : Int) then (impl_Smooth.j0 k l0 a1 (rdf .f64 l0 a4) b7) else (none)) else (none)) else (impl_Smooth.j0 k l0 a1 d2 b7)))))) = some (r1, r2) := h
 clear h; by_cases c3 : (l0.length : Int) > 60
 ·rw [if_pos c3] at H; have g7 : decide (60 < (l0.length : Int)) = true := decide_eq_true c3; have q1 : decide (60 < l0.length) = true := decide_eq_true (by omega); clear c3
  simp only [Option.some.injEq, Prod.mk.injEq] at H
  obtain ⟨rfl, rfl⟩ := H
  go_enter Try.func28, Try.ntmps28
  go_wp2
  go_ret2
  exact ⟨_, re_, by first | exact Kd.R_nil _ _ _ _ _ | exact Kd.N_nil _ _ _ _ _ | exact Kd.V_nil _ _ _ _ _ | exact Kd.Q_nil _ _ _ _ _ | exact Kd.S_nil _ _ _ _ _, hw_ HB⟩
 ·rw [if_neg c3] at H; have g7 : decide (60 < (l0.length : Int)) = false := decide_eq_false c3; have q1 : decide (60 < l0.length) = false := decide_eq_false (by omega); clear c3; replace H := Option.bind_eq_some_iff.mp H; obtain ⟨d2, q8, H⟩ := H
  replace H : ((some (([] : List (Fl)) : List (Fl))).bind fun b7 => ((slices_IndexFunc_float64_float64.f k l0 ()).bind fun a4 => (if a4 ≥ 0 then (if 0 ≤ a4 then (if a4 < (l0.length : Int) then (impl_Smooth.j0 k l0 a1 (rdf .f64 l0 a4) b7) else (none)) else (none)) else (impl_Smooth.j0 k l0 a1 d2 b7)))) = some (r1, r2) := H
  have A4 := mk_ q8; clear q8
  obtain ⟨b7, d6⟩ : ∃ y_ : List (Fl), y_ = (([] : List (Fl))) := ⟨_, rfl⟩
  replace H : ((slices_IndexFunc_float64_float64.f k l0 ()).bind fun a4 => (if a4 ≥ 0 then (if 0 ≤ a4 then (if a4 < (l0.length : Int) then (impl_Smooth.j0 k l0 a1 (rdf .f64 l0 a4) b7) else (none)) else (none)) else (impl_Smooth.j0 k l0 a1 d2 b7))) = some (r1, r2) := by first | (rw [d6]; with_reducible exact H) | (have H2_ := (Option.bind_some _ _).symm.trans H; rw [d6]; with_reducible exact H2_) | (have H2_ := (Option.bind_some _ _).symm.trans H; with_reducible exact H2_) | with_reducible exact H | (rw [d6]; exact H) | exact H
  have j6 := mk_ d6; clear d6; replace H := Option.bind_eq_some_iff.mp H; obtain ⟨a4, n1, H⟩ := H
  replace H : (if a4 ≥ 0 then (if 0 ≤ a4 then (if a4 < (l0.length : Int) then (impl_Smooth.j0 k l0 a1 (rdf .f64 l0 a4) b7) else (none)) else (none)) else (impl_Smooth.j0 k l0 a1 d2 b7)) = some (r1, r2) := H
  have A5 := mk_ n1; clear n1; have q2 := mk_ H; clear H
  go_enter Try.func28, Try.ntmps28
  go_upto_if 20 with (first | ((with_reducible refine gc_ 71 rfl ?_); refine gl_ (some 15) rfl Try.func71 #[] ?_; (with_reducible refine (math_NaN.calls  d2 _ A4.out).mono ?_); rintro e w' ⟨l6, rfl, j1, ⟨nd, rfl⟩⟩; refine ⟨_, rfl, ?_⟩) | ((with_reducible refine gd_ 16 rfl ?_); refine Kd.R_lit (Kd.fl .f64) _ 36 ?hg (N := 16) ?hd (xs := ([] : List (Fl))) (inner := []) (ok := fun _ => True) (okp := fun _ => True) ?hr ?hp (fun _ hk => hk) trivial (Below.refl _ _) (Nat.le_refl _) (by simp) ?_; (case hd => rfl); (case hg => rfl); (case hr => exact hr_); (case hp => exact (Reps.none _ _)); intro v112 w7 n4 hb hg_ hnew_; clear hg_ hnew_; (first | rw [← j6.out] at n4 | (simp only [Int.reduceToNat] at n4; rw [← j6.out] at n4)); have j7 := mk_ (Kd.R_lower n4 (below_size (hw_ HB))); replace HB := hk_ HB hb; clear hb n4) | ((with_reducible refine gc_ 72 rfl ?_); refine gl_ (some 18) rfl Try.func72 #[.slice A0 l0.length c0, .func (.func 73) #[] #[]] ?_; (with_reducible refine (slices_IndexFunc_float64_float64.calls k _ _ l0 () a4 _ ?a7 ?n5 A5.out).mono ?_); (case a7 => exact cw_ (Kd.C_below g9.out HB.out)); (case n5 => exact m9.out); rintro e w' ⟨rfl, ⟨nd, rfl⟩⟩; refine ⟨_, rfl, ?_⟩))
  (try simp only [Act.put, List.setIfInBounds_toArray, List.set_cons_zero, List.set_cons_succ])
  go_cut [6] (fun v6 wc => ∃ (kq : Nat) (j3 : Fl) (b_x6_5 : Nat), v6 = .float .f64 b_x6_5 ∧ Aside0 (impl_Smooth.j0 kq l0 a1 j3 b7 = some (r1, r2)) ∧ Aside0 (kq ≤ k) ∧ Aside0 (cn .f64 b_x6_5 = j3) ∧ Aside0 (Kd.R (Kd.fl .f64) 36 wc w.heap.size (fun _ => True) v112 b7) ∧ Aside0 (Below w.heap.size w wc))
  case first =>
   have H := q2.out; clear q2; by_cases c9 : a4 ≥ 0
   ·rw [if_pos c9] at H; have h4 : decide (0 ≤ a4) = true := decide_eq_true c9; clear c9
    (first | rw [h4] | (simp only [i64_w, i32_w]; rw [h4]) | skip)
    by_cases o8 : 0 ≤ a4
    ·rw [if_pos o8] at H; have q9 : decide (0 ≤ a4) = true := decide_eq_true o8; clear o8; by_cases o9 : a4 < (l0.length : Int)
     ·rw [if_pos o9] at H; have s0 : decide (a4 < (l0.length : Int)) = true := decide_eq_true o9; clear o9
      obtain ⟨fr115_0, b8⟩ : ∃ y_ : Fl, y_ = (rdf .f64 l0 a4) := ⟨_, rfl⟩
      replace H : (impl_Smooth.j0 k l0 a1 fr115_0 b7) = some (r1, r2) := by first | (rw [b8]; with_reducible exact H) | (have H2_ := (Option.bind_some _ _).symm.trans H; rw [b8]; with_reducible exact H2_) | (have H2_ := (Option.bind_some _ _).symm.trans H; with_reducible exact H2_) | with_reducible exact H | (rw [b8]; exact H) | exact H
      have Nfr115_0 := mk_ b8; clear b8
      have H' := mk_ H
      clear H
      have l7 : 0 ≤ (a4 : Int) := od_
      have l8 : a4 < (l0.length : Int) := od_
      obtain ⟨s1, b_fr115_0, q3, d3, hF115_0⟩ := Kd.at_fl g9.out a4 l7 l8
      have hF_fr115_0 := hF115_0.trans Nfr115_0.out.symm
      clear hF115_0; cases q3
      replace d3 := (HB.out.cell (World.block_lt_of_cell? w _ d3)).trans d3
      replace l7 := eq_true l7; replace l8 := eq_true l8; go_wp2; go_meet
      case rel => exact ⟨_, (fr115_0), b_fr115_0, rf_, H', ⟨by first | omega | exact Nat.le_refl _⟩, ⟨hF_fr115_0⟩, kw_ j7, ⟨hw_ HB⟩⟩
     ·rw [if_neg o9] at H
      exact absurd H (by simp)
    ·rw [if_neg o8] at H
     exact absurd H (by simp)
   ·rw [if_neg c9] at H; have h4 : decide (0 ≤ a4) = false := decide_eq_false c9; clear c9
    (first | rw [h4] | (simp only [i64_w, i32_w]; rw [h4]) | skip)
    have H' := mk_ H
    clear H; go_wp2; go_meet
    case rel => exact ⟨_, (d2), l6, rf_, H', ⟨by first | omega | exact Nat.le_refl _⟩, ⟨j1⟩, kw_ j7, ⟨hw_ HB⟩⟩
  case rest =>
   clear q2; (try clear c3)
   obtain ⟨kq, j3, b_x6_5, rfl, HA, m7, ⟨hF_x6_5⟩, d1, HB⟩ := hcut
   cases kq with
   | zero => exact absurd HA.out (by simp [impl_Smooth.j0])
   | succ kj5 =>
    have H := HA.out; clear HA
    simp only [impl_Smooth.j0] at H
    have H' := mk_ H
    clear H; go_wp2
    go_loopg [6, 7, 9, 27] kj5 (fun kq v6 v7 v9 v27 w' => ∃ (b4 : Fl) (a5 : List (Fl)) (g5 : Bool) (a2 : Int) (b_x6_2 : Nat), v6 = .float .f64 b_x6_2 ∧ v9 = .bool g5 ∧ v27 = .int .i64 a2 ∧ Aside0 (impl_Smooth.l0 kq a1 b4 a5 g5 l0 (l0.length : Int) a2 = some (r1, r2)) ∧ Aside0 (kq ≤ kj5) ∧ Aside0 (cn .f64 b_x6_2 = b4) ∧ Aside0 (Kd.R (Kd.fl .f64) 36 w' w.heap.size (fun _ => True) v7 a5) ∧ Aside0 (Below w.heap.size w w'))
    case atStart => exact ⟨(j3), (b7), (false), (0), b_x6_5, rf_, rf_, rf_, H', ⟨Nat.le_refl _⟩, ⟨hF_x6_5⟩, kw_ d1, ⟨hw_ HB⟩⟩
    case round =>
     clear H'; (try clear c3)
     obtain ⟨b4, a5, g5, a2, b_x6_2, rfl, rfl, rfl, HA, m8, ⟨hF_x6_2⟩, d1, HB⟩ := hrel
     cases gk with
     | zero => exact absurd HA.out (by simp [impl_Smooth.l0])
     | succ k2 =>
      have H := HA.out; clear HA
      simp only [impl_Smooth.l0] at H
      by_cases l9 : a2 < (l0.length : Int)
      ·rw [if_pos l9] at H; have j8 : decide (a2 < (l0.length : Int)) = true := decide_eq_true l9; clear l9; by_cases n6 : 0 ≤ a2
       ·rw [if_pos n6] at H; have n7 : decide (0 ≤ a2) = true := decide_eq_true n6; clear n6; by_cases n8 : a2 < (l0.length : Int)
        ·rw [if_pos n8] at H; have s2 : decide (a2 < (l0.length : Int)) = true := decide_eq_true n8; clear n8
         obtain ⟨fr116_0, b9⟩ : ∃ y_ : Fl, y_ = (rdf .f64 l0 a2) := ⟨_, rfl⟩
         replace H : ((math_IsNaN.f fr116_0).bind fun g4 => (if g4 = true then (impl_Smooth.j2 k2 a1 b4 a5 g5 l0 (l0.length : Int) a2) else (impl_Smooth.j2 k2 a1 (fop .add .f64 b4 (fop .mul .f64 (fop .sub .f64 fr116_0 b4) a1)) a5 true l0 (l0.length : Int) a2))) = some (r1, r2) := by first | (rw [b9]; with_reducible exact H) | (have H2_ := (Option.bind_some _ _).symm.trans H; rw [b9]; with_reducible exact H2_) | (have H2_ := (Option.bind_some _ _).symm.trans H; with_reducible exact H2_) | with_reducible exact H | (rw [b9]; exact H) | exact H
         have Nfr116_0 := mk_ b9; clear b9; replace H := Option.bind_eq_some_iff.mp H; obtain ⟨g4, n9, H⟩ := H
         replace H : (if g4 = true then (impl_Smooth.j2 k2 a1 b4 a5 g5 l0 (l0.length : Int) a2) else (impl_Smooth.j2 k2 a1 (fop .add .f64 b4 (fop .mul .f64 (fop .sub .f64 fr116_0 b4) a1)) a5 true l0 (l0.length : Int) a2)) = some (r1, r2) := H
         have s5 := mk_ n9; clear n9; have m0 := mk_ H; clear H
         have m2 : 0 ≤ (a2 : Int) := od_
         have m3 : a2 < (l0.length : Int) := od_
         obtain ⟨s3, b_fr116_0, q4, d4, hF116_0⟩ := Kd.at_fl g9.out a2 m2 m3
         have hF_fr116_0 := hF116_0.trans Nfr116_0.out.symm
         clear hF116_0; cases q4
         replace d4 := (HB.out.cell (World.block_lt_of_cell? w _ d4)).trans d4
         replace m2 := eq_true m2; replace m3 := eq_true m3
         go_upto_if 33 with (first | ((with_reducible refine gc_ 70 rfl ?_); refine gl_ (some 32) rfl Try.func70 #[.float .f64 b_fr116_0] ?_; (with_reducible refine (math_IsNaN.calls b_fr116_0 fr116_0 g4 _ ?a7 s5.out).mono ?_); (case a7 => exact hF_fr116_0); rintro e w' ⟨rfl, ⟨nd, rfl⟩⟩; refine ⟨_, rfl, ?_⟩))
         (try simp only [Act.put, List.setIfInBounds_toArray, List.set_cons_zero, List.set_cons_succ])
         go_cut [6, 9] (fun v6 v9 wc => ∃ (kq : Nat) (a9 : Fl) (g6 : Bool) (b_x6_15 : Nat), v6 = .float .f64 b_x6_15 ∧ v9 = .bool g6 ∧ Aside0 (impl_Smooth.j2 kq a1 a9 a5 g6 l0 (l0.length : Int) a2 = some (r1, r2)) ∧ Aside0 (kq ≤ k2) ∧ Aside0 (cn .f64 b_x6_15 = a9) ∧ Aside0 (Kd.R (Kd.fl .f64) 36 wc w.heap.size (fun _ => True) u7 a5) ∧ Aside0 (Below w.heap.size w wc))
         case first =>
          have H := m0.out; clear m0; by_cases p0 : g4 = true
          ·subst p0
           have H1 : (impl_Smooth.j2 k2 a1 b4 a5 g5 l0 (l0.length : Int) a2) = some (r1, r2) := by rw [if_pos rfl] at H; exact H
           clear H
           have H := H1
           clear H1
           have H' := mk_ H
           clear H; go_wp2; go_meet
           case rel => exact ⟨_, (b4), (g5), b_x6_2, rf_, rf_, H', ⟨by have := m7.out; have := m8.out; first | omega | exact Nat.le_refl _⟩, ⟨hF_x6_2⟩, kw_ d1, ⟨hw_ HB⟩⟩
          ·replace p0 := Bool.eq_false_iff.mpr p0; subst p0
           have H1 : (impl_Smooth.j2 k2 a1 (fop .add .f64 b4 (fop .mul .f64 (fop .sub .f64 fr116_0 b4) a1)) a5 true l0 (l0.length : Int) a2) = some (r1, r2) := by rw [if_neg (show ¬ (false = true) by decide)] at H; exact H
           clear H
           have H := H1
           clear H1
           obtain ⟨ft118, hft118⟩ : ∃ y_ : Fl, y_ = (fop .sub .f64 fr116_0 b4) := ⟨_, rfl⟩
           replace H : (impl_Smooth.j2 k2 a1 (fop .add .f64 b4 (fop .mul .f64 ft118 a1)) a5 true l0 (l0.length : Int) a2) = some (r1, r2) := by first | (rw [hft118]; with_reducible exact H) | (have H2_ := (Option.bind_some _ _).symm.trans H; rw [hft118]; with_reducible exact H2_) | (have H2_ := (Option.bind_some _ _).symm.trans H; with_reducible exact H2_) | with_reducible exact H | (rw [hft118]; exact H) | exact H
           have Nft118 := mk_ hft118; clear hft118
           obtain ⟨ft119, hft119⟩ : ∃ y_ : Fl, y_ = (fop .mul .f64 ft118 a1) := ⟨_, rfl⟩
           replace H : (impl_Smooth.j2 k2 a1 (fop .add .f64 b4 ft119) a5 true l0 (l0.length : Int) a2) = some (r1, r2) := by first | (rw [hft119]; with_reducible exact H) | (have H2_ := (Option.bind_some _ _).symm.trans H; rw [hft119]; with_reducible exact H2_) | (have H2_ := (Option.bind_some _ _).symm.trans H; with_reducible exact H2_) | with_reducible exact H | (rw [hft119]; exact H) | exact H
           have Nft119 := mk_ hft119; clear hft119
           obtain ⟨ft120, hft120⟩ : ∃ y_ : Fl, y_ = (fop .add .f64 b4 ft119) := ⟨_, rfl⟩
           replace H : (impl_Smooth.j2 k2 a1 ft120 a5 true l0 (l0.length : Int) a2) = some (r1, r2) := by first | (rw [hft120]; with_reducible exact H) | (have H2_ := (Option.bind_some _ _).symm.trans H; rw [hft120]; with_reducible exact H2_) | (have H2_ := (Option.bind_some _ _).symm.trans H; with_reducible exact H2_) | with_reducible exact H | (rw [hft120]; exact H) | exact H
           have Nft120 := mk_ hft120; clear hft120
           have H' := mk_ H
           clear H
           go_wp2_with (first | ((with_reducible refine gd_ 37 rfl ?_); refine fop_event rfl (N := 37) rfl (op := .sub) (by simp) rfl .f64 b_fr116_0 b_x6_2 fr116_0 b4 rfl rfl hF_fr116_0 hF_x6_2 ?_; intro b_ft118 nf_ hF_; replace hF_ := hF_.trans Nft118.out.symm; have hF_ft118 := hF_; clear hF_) | ((with_reducible refine gd_ 39 rfl ?_); refine fop_event rfl (N := 39) rfl (op := .mul) (by simp) rfl .f64 b_ft118 b_a1 ft118 a1 rfl rfl hF_ft118 hF_a1 ?_; intro b_ft119 nf_ hF_; replace hF_ := hF_.trans Nft119.out.symm; have hF_ft119 := hF_; clear hF_) | ((with_reducible refine gd_ 40 rfl ?_); refine fop_event rfl (N := 40) rfl (op := .add) (by simp) rfl .f64 b_x6_2 b_ft119 b4 ft119 rfl rfl hF_x6_2 hF_ft119 ?_; intro b_ft120 nf_ hF_; replace hF_ := hF_.trans Nft120.out.symm; have hF_ft120 := hF_; clear hF_))
           go_meet
           case rel => exact ⟨_, (ft120), (true), b_ft120, rf_, rf_, H', ⟨by have := m7.out; have := m8.out; first | omega | exact Nat.le_refl _⟩, ⟨hF_ft120⟩, kw_ d1, ⟨hw_ HB⟩⟩
         case rest =>
          clear m0; (try clear c3); (try clear l9); (try clear j8); (try clear n6); (try clear n7); (try clear n8)
          obtain ⟨kq, a9, g6, b_x6_15, rfl, rfl, HA, j4, ⟨hF_x6_15⟩, d1, HB⟩ := hcut
          cases kq with
          | zero => exact absurd HA.out (by simp [impl_Smooth.j2])
          | succ kj15 =>
           have H := HA.out; clear HA
           simp only [impl_Smooth.j2] at H
           by_cases p1 : g6 = true
           ·subst p1
            have H1 : (if a5.length < 17592186044416 then (impl_Smooth.l0 kj15 a1 a9 (a5 ++ [a9]) true l0 (l0.length : Int) (wrap64 (a2 + 1))) else (none)) = some (r1, r2) := by rw [if_pos rfl] at H; exact H
            clear H
            have H := H1
            clear H1; by_cases p2 : a5.length < 17592186044416
            ·rw [if_pos p2] at H; have LMc19 := mk_ p2; clear p2
             obtain ⟨o0, d7⟩ : ∃ y_ : List (Fl), y_ = (a5 ++ [a9]) := ⟨_, rfl⟩
             replace H : (impl_Smooth.l0 kj15 a1 a9 o0 true l0 (l0.length : Int) (wrap64 (a2 + 1))) = some (r1, r2) := by first | (rw [d7]; with_reducible exact H) | (have H2_ := (Option.bind_some _ _).symm.trans H; rw [d7]; with_reducible exact H2_) | (have H2_ := (Option.bind_some _ _).symm.trans H; with_reducible exact H2_) | with_reducible exact H | (rw [d7]; exact H) | exact H
             have o1 := mk_ d7; clear d7
             have H' := mk_ H
             clear H
             go_wp2_with (first | ((with_reducible refine gate_builtin (b := .append) (xs := #[.tmp 42, .tmp 44]) rfl ?_); at_builtin; refine Kd.R_append (Kd.fl .f64) (w0 := w) w.heap.size rfl (.tmp 42) (.tmp 44) 53 36 (.float .f64 0) 8 rfl Try.underlying53 info36 rfl (by decide) (by omega) u7 a5 a9 [.float .f64 b_x6_15] (fun _ => True) (fun _ => False) rfl rfl ?aP (fun _ hk => hk.elim) ?aF ?aO ?aB ?aS ?aL ?_; (case aP => exact Kd.M_fl hF_x6_15); (case aB => exact (by exact HB.out)); (case aF => exact (fun _ _ => trivial)); (case aO => exact (by exact d1.out)); (case aS => exact (below_size (by exact HB.out))); (case aL => have := LMc19.out; omega); intro v122 s7 ho hb hg hat; rw [← o1.out] at ho; replace HB := mk_ (hb); have o2 := mk_ (ho); clear d1; clear ho hb hg hat))
             go_roundg kj15
             case measure => have := m7.out; have := m8.out; have := j4.out; omega
             case rel => exact ⟨(a9), (o0), (true), (wrap64 (a2 + 1)), b_x6_15, rf_, rf_, rf_, H', ⟨by have := m7.out; have := m8.out; have := j4.out; omega⟩, ⟨hF_x6_15⟩, kw_ o2, ⟨hw_ HB⟩⟩
            ·rw [if_neg p2] at H
             exact absurd H (by simp)
           ·replace p1 := Bool.eq_false_iff.mpr p1; subst p1
            have H1 : ((math_NaN.f).bind fun d5 => (if a5.length < 17592186044416 then (impl_Smooth.l0 kj15 a1 a9 (a5 ++ [d5]) false l0 (l0.length : Int) (wrap64 (a2 + 1))) else (none))) = some (r1, r2) := by rw [if_neg (show ¬ (false = true) by decide)] at H; exact H
            clear H
            have H := H1
            clear H1; replace H := Option.bind_eq_some_iff.mp H; obtain ⟨d5, o3, H⟩ := H
            replace H : (if a5.length < 17592186044416 then (impl_Smooth.l0 kj15 a1 a9 (a5 ++ [d5]) false l0 (l0.length : Int) (wrap64 (a2 + 1))) else (none)) = some (r1, r2) := H
            have s6 := mk_ o3; clear o3; by_cases p3 : a5.length < 17592186044416
            ·rw [if_pos p3] at H; have LMc22 := mk_ p3; clear p3
             obtain ⟨o4, d8⟩ : ∃ y_ : List (Fl), y_ = (a5 ++ [d5]) := ⟨_, rfl⟩
             replace H : (impl_Smooth.l0 kj15 a1 a9 o4 false l0 (l0.length : Int) (wrap64 (a2 + 1))) = some (r1, r2) := by first | (rw [d8]; with_reducible exact H) | (have H2_ := (Option.bind_some _ _).symm.trans H; rw [d8]; with_reducible exact H2_) | (have H2_ := (Option.bind_some _ _).symm.trans H; with_reducible exact H2_) | with_reducible exact H | (rw [d8]; exact H) | exact H
             have o5 := mk_ d8; clear d8
             have H' := mk_ H
             clear H
             go_wp2_with (first | ((with_reducible refine gc_ 71 rfl ?_); refine gl_ (some 47) rfl Try.func71 #[] ?_; (with_reducible refine (math_NaN.calls  d5 _ s6.out).mono ?_); rintro e w' ⟨m4, rfl, j5, ⟨nd, rfl⟩⟩; refine ⟨_, rfl, ?_⟩) | ((with_reducible refine gate_builtin (b := .append) (xs := #[.tmp 46, .tmp 48]) rfl ?_); at_builtin; refine Kd.R_append (Kd.fl .f64) (w0 := w) w.heap.size rfl (.tmp 46) (.tmp 48) 53 36 (.float .f64 0) 8 rfl Try.underlying53 info36 rfl (by decide) (by omega) u7 a5 d5 [.float .f64 m4] (fun _ => True) (fun _ => False) rfl rfl ?aP (fun _ hk => hk.elim) ?aF ?aO ?aB ?aS ?aL ?_; (case aP => exact Kd.M_fl j5); (case aB => exact (hw_ HB)); (case aF => exact (fun _ _ => trivial)); (case aO => exact (kx_ d1)); (case aS => exact (below_size (hw_ HB))); (case aL => have := LMc22.out; omega); intro v126 s8 ho hb hg hat; rw [← o5.out] at ho; replace HB := mk_ (hb); have o6 := mk_ (ho); clear d1; clear ho hb hg hat))
             go_roundg kj15
             case measure => have := m7.out; have := m8.out; have := j4.out; omega
             case rel => exact ⟨(a9), (o4), (false), (wrap64 (a2 + 1)), b_x6_15, rf_, rf_, rf_, H', ⟨by have := m7.out; have := m8.out; have := j4.out; omega⟩, ⟨hF_x6_15⟩, kw_ o6, ⟨hw_ HB⟩⟩
            ·rw [if_neg p3] at H
             exact absurd H (by simp)
        ·rw [if_neg n8] at H
         exact absurd H (by simp)
       ·rw [if_neg n6] at H
        exact absurd H (by simp)
      ·rw [if_neg l9] at H; have j8 : decide (a2 < (l0.length : Int)) = false := decide_eq_false l9; clear l9
       simp only [Option.some.injEq, Prod.mk.injEq] at H
       obtain ⟨rfl, rfl⟩ := H; go_wp2
       go_ret2
       exact ⟨_, re_, by (with_reducible repeat (first | apply Kd.R_alloc | apply Kd.R_drewN | apply Kd.R_drew)); exact d1.out, hw_ HB⟩

end Go.Proofs.Ytkginilghcepbaa.QFnMeans
-- squeezed
