/- Lean functions that tell what the Go functions used by one law answer, and for each a proof that the Go code comes to just these answers; no condition. Printed by this session's own program over the kit's printer. -/
import Derived.Test.YtnphbpkpjinddaaWSq
import Derived.Test.YtnphbpkpjinddaaQFnExactClearsx0
namespace Go.Proofs.Ytnphbpkpjinddaa.QFnExactClears
open Go.RowKit Go.Proofs.YtnphbpkpjinddaaW.PrintWords Go.Proofs.YtnphbpkpjinddaaW.PrintLast Go.Proofs.YtnphbpkpjinddaaW.PrintMore
attribute [local go_sem] max2_int min2_int max_two min_two max_three min_three max_four min_four   -- for this text's walks alone
attribute [local go_sem high] go_eql go_neq go_lss go_leq go_gtr go_geq go_store   -- for this text's walks alone
set_option linter.unusedVariables false
set_option linter.unusedSimpArgs false

/-! ### laws_szPhaseS: function 51 -/
def laws_szPhaseS.f (l0 : List (S139)) (a1 : Int) : Option (Int) := if (wrap64 (a1 - (l0.length : Int))) < 0 then (some (-1)) else (some (wrap64 (a1 - (l0.length : Int))))
set_option maxHeartbeats 8000000 in
set_option maxRecDepth 100000 in
theorem laws_szPhaseS.calls (A0 : Option Addr) (c0 : Nat) (l0 : List (S139)) (a1 : Int) (r : Int) (w : World) (hr0 : Kd.C k139 w A0 l0.length l0) (hc0 : l0.length ≤ c0) (h : laws_szPhaseS.f l0 a1 = some r) :
  Calls Try.prog 51 #[.slice A0 l0.length c0, .int .i64 a1] w fun e w' => e = .returned (.int .i64 r) ∧ Drawn0 w w' := by
 have B3 := mk_ hr0; have B4 := mk_ hc0; clear hr0 hc0
 have H : (if (wrap64 (a1 - (l0.length : Int))) < 0 then (some (-1)) else (some (wrap64 (a1 - (l0.length : Int))))) = some r := h
 clear h; by_cases c3 : (wrap64 (a1 - (l0.length : Int))) < 0
 ·rw [if_pos c3] at H; have h2 : decide ((wrap64 (a1 - (l0.length : Int))) < 0) = true := decide_eq_true c3; clear c3; obtain rfl := Option.some.inj H
  go_enter Try.func51, Try.ntmps51
  go_wp2; go_ret
  exact ⟨by first | rfl | (simp; done) | (simp [*]; done), by repeat (first | exact Drawn0.refl _ | apply Drawn0.step)⟩
 ·rw [if_neg c3] at H; have h2 : decide ((wrap64 (a1 - (l0.length : Int))) < 0) = false := decide_eq_false c3; clear c3; obtain rfl := Option.some.inj H
  go_enter Try.func51, Try.ntmps51
  go_wp2; go_ret
  exact ⟨by first | rfl | (simp; done) | (simp [*]; done), by repeat (first | exact Drawn0.refl _ | apply Drawn0.step)⟩

/-! ### laws_szPeakS: function 52 -/
def laws_szPeakS.f (l0 : List (S141)) (a1 : Int) : Option (Int) := if (wrap64 (a1 - (l0.length : Int))) < 0 then (some (-1)) else (some (wrap64 (a1 - (l0.length : Int))))
set_option maxHeartbeats 8000000 in
set_option maxRecDepth 100000 in
theorem laws_szPeakS.calls (A0 : Option Addr) (c0 : Nat) (l0 : List (S141)) (a1 : Int) (r : Int) (w : World) (hr0 : Kd.C k141 w A0 l0.length l0) (hc0 : l0.length ≤ c0) (h : laws_szPeakS.f l0 a1 = some r) :
  Calls Try.prog 52 #[.slice A0 l0.length c0, .int .i64 a1] w fun e w' => e = .returned (.int .i64 r) ∧ Drawn0 w w' := by
 have B3 := mk_ hr0; have B4 := mk_ hc0; clear hr0 hc0
 have H : (if (wrap64 (a1 - (l0.length : Int))) < 0 then (some (-1)) else (some (wrap64 (a1 - (l0.length : Int))))) = some r := h
 clear h; by_cases c3 : (wrap64 (a1 - (l0.length : Int))) < 0
 ·rw [if_pos c3] at H; have h2 : decide ((wrap64 (a1 - (l0.length : Int))) < 0) = true := decide_eq_true c3; clear c3; obtain rfl := Option.some.inj H
  go_enter Try.func52, Try.ntmps52
  go_wp2; go_ret
  exact ⟨by first | rfl | (simp; done) | (simp [*]; done), by repeat (first | exact Drawn0.refl _ | apply Drawn0.step)⟩
 ·rw [if_neg c3] at H; have h2 : decide ((wrap64 (a1 - (l0.length : Int))) < 0) = false := decide_eq_false c3; clear c3; obtain rfl := Option.some.inj H
  go_enter Try.func52, Try.ntmps52
  go_wp2; go_ret
  exact ⟨by first | rfl | (simp; done) | (simp [*]; done), by repeat (first | exact Drawn0.refl _ | apply Drawn0.step)⟩

/-! ### spec_l1In: function 70 -/
def spec_l1In.f (a0 : Int) (a1 : Int) (a2 : Int) : Option (Bool) := if a0 ≥ a1 then (some (decide (a0 ≤ a2))) else (some false)
set_option maxHeartbeats 8000000 in
set_option maxRecDepth 100000 in
theorem spec_l1In.calls (a0 : Int) (a1 : Int) (a2 : Int) (r : Bool) (w : World) (h : spec_l1In.f a0 a1 a2 = some r) :
  Calls Try.prog 70 #[.int .i64 a0, .int .i64 a1, .int .i64 a2] w fun e w' => e = .returned (.bool r) ∧ Drawn0 w w' := by
 have H : (if a0 ≥ a1 then (some (decide (a0 ≤ a2))) else (some false)) = some r := h
 clear h; by_cases c4 : a0 ≥ a1
 ·rw [if_pos c4] at H; have l9 : decide (a1 ≤ a0) = true := decide_eq_true c4; clear c4; obtain rfl := Option.some.inj H
  go_enter Try.func70, Try.ntmps70
  go_wp2; go_ret
  exact ⟨by first | rfl | (simp; done) | (simp [*]; done), by repeat (first | exact Drawn0.refl _ | apply Drawn0.step)⟩
 ·rw [if_neg c4] at H; have l9 : decide (a1 ≤ a0) = false := decide_eq_false c4; clear c4; obtain rfl := Option.some.inj H
  go_enter Try.func70, Try.ntmps70
  go_wp2; go_ret
  exact ⟨by first | rfl | (simp; done) | (simp [*]; done), by repeat (first | exact Drawn0.refl _ | apply Drawn0.step)⟩

/-! ### spec_l3Phases: function 106 -/
def spec_l3Phases.l0 : Nat → Int → List (S137) → Int → Option (Bool)
 | 0, _, _, _ => none
 | k + 1, x0, x1, x5 => if x5 < (x1.length : Int) then (if 0 ≤ x5 then ((spec_l1In.f ((rd_T137 x1 x5).f0) (-100) 100).bind fun n2 => (if n2 = true then ((spec_l1In.f ((rd_T137 x1 x5).f1) 1 1000).bind fun n3 => (if n3 = true then (spec_l3Phases.l0 k x0 x1 (wrap64 (x5 + 1))) else (some false))) else (some false))) else (none)) else ((spec_l1In.f x0 0 100000).bind fun n4 => (if n4 = true then (some (decide ((x1.length : Int) ≤ 12))) else (some false)))
def spec_l3Phases.f (k : Nat) (a0 : Int) (l1 : List (S137)) : Option (Bool) := spec_l3Phases.l0 k a0 l1 0
theorem spec_l3Phases.mono_l : ∀ k, (∀ y0 y1 y2, LeO (spec_l3Phases.l0 k y0 y1 y2) (spec_l3Phases.l0 (k + 1) y0 y1 y2))
 | 0 => fun _ _ _ r h => by simp [spec_l3Phases.l0] at h
 | k + 1 => by
  have g4 := spec_l3Phases.mono_l k
  ·intro y0 y1 y2
   unfold spec_l3Phases.l0
   repeat' first
   | (with_reducible exact g4 _ _ _)
   | (with_reducible exact LeO.refl _)
   | (with_reducible exact LeO.none _)
   | (with_reducible refine LeO.ite ?_ ?_)
   | (with_reducible refine LeO.bind ?_ (fun _ => ?_))
   | exact g4 _ _ _
   | exact LeO.none _
   | refine LeO.ite ?_ ?_
   | refine LeO.bind ?_ (fun _ => ?_)
theorem spec_l3Phases.mono : ∀ a0 a1 k, LeO (spec_l3Phases.f k a0 a1) (spec_l3Phases.f (k + 1) a0 a1) := by
 intro a0 a1 k
 have g4 := spec_l3Phases.mono_l k
 unfold spec_l3Phases.f
 repeat' first
   | (with_reducible exact g4 _ _ _)
   | (with_reducible exact LeO.refl _)
   | (with_reducible exact LeO.none _)
   | (with_reducible refine LeO.ite ?_ ?_)
   | (with_reducible refine LeO.bind ?_ (fun _ => ?_))
   | exact g4 _ _ _
   | exact LeO.none _
   | refine LeO.ite ?_ ?_
   | refine LeO.bind ?_ (fun _ => ?_)
set_option maxHeartbeats 8000000 in
set_option maxRecDepth 100000 in
theorem spec_l3Phases.calls (k : Nat) (a0 : Int) (A1 : Option Addr) (c1 : Nat) (l1 : List (S137)) (r : Bool) (w : World) (hr1 : Kd.C k137 w A1 l1.length l1) (hc1 : l1.length ≤ c1) (h : spec_l3Phases.f k a0 l1 = some r) :
  Calls Try.prog 106 #[.int .i64 a0, .slice A1 l1.length c1] w fun e w' => e = .returned (.bool r) ∧ Drawn0 w w' := by
 have d5 := mk_ hr1; have g7 := mk_ hc1; clear hr1 hc1
 have H : (spec_l3Phases.l0 k a0 l1 0) = some r := h
 clear h
 have H' := mk_ H
 clear H
 go_enter Try.func106, Try.ntmps106
 go_wp2
 go_loopg [5] k (fun kq v5 w' => ∃ (a8 : Int), v5 = .int .i64 a8 ∧ Aside0 (spec_l3Phases.l0 kq a0 l1 a8 = some r) ∧ Aside0 (kq ≤ k) ∧ Drawn0 w w')
 case atStart => exact ⟨(0), rf_, H', ⟨Nat.le_refl _⟩, by repeat (first | exact Drawn0.refl _ | apply Drawn0.step)⟩
 case round =>
  clear H'; (try clear c1)
  obtain ⟨a8, rfl, HA, o7, ⟨m1, rfl⟩⟩ := hrel
  cases gk with
  | zero => exact absurd HA.out (by simp [spec_l3Phases.l0])
  | succ k1 =>
   have H := HA.out; clear HA
   simp only [spec_l3Phases.l0] at H
   by_cases c3 : a8 < (l1.length : Int)
   ·rw [if_pos c3] at H; have h2 : decide (a8 < (l1.length : Int)) = true := decide_eq_true c3; clear c3; by_cases c4 : 0 ≤ a8
    ·rw [if_pos c4] at H; have l9 : decide (0 ≤ a8) = true := decide_eq_true c4; clear c4; replace H := Option.bind_eq_some_iff.mp H; obtain ⟨n2, y6, H⟩ := H; (try dsimp only at H); have A5 := mk_ y6; clear y6; by_cases c6 : n2 = true
     ·subst c6; rw [if_pos rfl] at H
      replace H := Option.bind_eq_some_iff.mp H; obtain ⟨n3, y7, H⟩ := H
      (try dsimp only at H); have A7 := mk_ y7; clear y7
      by_cases c8 : n3 = true
      ·subst c8; rw [if_pos rfl] at H
       have H' := mk_ H
       clear H
       have d6 : 0 ≤ (a8 : Int) := od_
       have d7 : a8 < (l1.length : Int) := od_
       obtain ⟨h7, l4, h8, h9⟩ := at_T137 d5.out a8 d6 d7; cases l4; replace d6 := eq_true d6; replace d7 := eq_true d7
       go_wp2_with (first | ((with_reducible refine gc_ 70 rfl ?_); refine gl_ (some 17) rfl Try.func70 #[.int .i64 ((rd_T137 l1 a8).f0), .int .i64 (-100), .int .i64 100] ?_; (with_reducible refine (spec_l1In.calls ((rd_T137 l1 a8).f0) (-100) 100 true _ A5.out).mono ?_); rintro e w' ⟨rfl, ⟨nd, rfl⟩⟩; refine ⟨_, rfl, ?_⟩; have h3 : 0 ≤ (a8 : Int) := od_; have h4 : a8 < (l1.length : Int) := od_; obtain ⟨l5, n5, m0, m4⟩ := at_T137 d5.out a8 h3 h4; obtain rfl : h7 = l5 := (by injection n5); replace h3 := eq_true h3; replace h4 := eq_true h4) | (go_at_call 70; (with_reducible refine (spec_l1In.calls ((rd_T137 l1 a8).f1) 1 1000 true _ A7.out).mono ?_); rintro e w' ⟨rfl, ⟨nd, rfl⟩⟩))
       go_roundg k1
       case measure => have := o7.out; omega
       case rel => exact ⟨(wrap64 (a8 + 1)), rf_, H', ⟨by have := o7.out; omega⟩, by repeat (first | exact Drawn0.refl _ | apply Drawn0.step)⟩
      ·replace c8 := Bool.eq_false_iff.mpr c8; subst c8; rw [if_neg (show ¬ (false = true) by decide)] at H; obtain rfl := Option.some.inj H
       have d6 : 0 ≤ (a8 : Int) := od_
       have d7 : a8 < (l1.length : Int) := od_
       obtain ⟨h7, l4, h8, h9⟩ := at_T137 d5.out a8 d6 d7; cases l4; replace d6 := eq_true d6; replace d7 := eq_true d7
       go_wp2_with (first | ((with_reducible refine gc_ 70 rfl ?_); refine gl_ (some 17) rfl Try.func70 #[.int .i64 ((rd_T137 l1 a8).f0), .int .i64 (-100), .int .i64 100] ?_; (with_reducible refine (spec_l1In.calls ((rd_T137 l1 a8).f0) (-100) 100 true _ A5.out).mono ?_); rintro e w' ⟨rfl, ⟨nd, rfl⟩⟩; refine ⟨_, rfl, ?_⟩; have h3 : 0 ≤ (a8 : Int) := od_; have h4 : a8 < (l1.length : Int) := od_; obtain ⟨l5, n5, m0, m4⟩ := at_T137 d5.out a8 h3 h4; obtain rfl : h7 = l5 := (by injection n5); replace h3 := eq_true h3; replace h4 := eq_true h4) | (go_at_call 70; (with_reducible refine (spec_l1In.calls ((rd_T137 l1 a8).f1) 1 1000 false _ A7.out).mono ?_); rintro e w' ⟨rfl, ⟨nd, rfl⟩⟩))
       go_ret
       exact ⟨by first | rfl | (simp; done) | (simp [*]; done), by repeat (first | exact Drawn0.refl _ | apply Drawn0.step)⟩
     ·replace c6 := Bool.eq_false_iff.mpr c6; subst c6; rw [if_neg (show ¬ (false = true) by decide)] at H; obtain rfl := Option.some.inj H
      have d6 : 0 ≤ (a8 : Int) := od_
      have d7 : a8 < (l1.length : Int) := od_
      obtain ⟨h7, l4, h8, h9⟩ := at_T137 d5.out a8 d6 d7; cases l4; replace d6 := eq_true d6; replace d7 := eq_true d7
      go_wp2_with (first | ((with_reducible refine gc_ 70 rfl ?_); refine gl_ (some 17) rfl Try.func70 #[.int .i64 ((rd_T137 l1 a8).f0), .int .i64 (-100), .int .i64 100] ?_; (with_reducible refine (spec_l1In.calls ((rd_T137 l1 a8).f0) (-100) 100 false _ A5.out).mono ?_); rintro e w' ⟨rfl, ⟨nd, rfl⟩⟩; refine ⟨_, rfl, ?_⟩))
      go_ret
      exact ⟨by first | rfl | (simp; done) | (simp [*]; done), by repeat (first | exact Drawn0.refl _ | apply Drawn0.step)⟩
    ·rw [if_neg c4] at H
     exact absurd H (by simp)
   ·rw [if_neg c3] at H; have h2 : decide (a8 < (l1.length : Int)) = false := decide_eq_false c3; clear c3; replace H := Option.bind_eq_some_iff.mp H; obtain ⟨n4, o8, H⟩ := H; (try dsimp only at H); have A9 := mk_ o8; clear o8; by_cases l6 : n4 = true
    ·subst l6; rw [if_pos rfl] at H
     obtain rfl := Option.some.inj H
     go_wp2_with (first | ((with_reducible refine gc_ 70 rfl ?_); refine gl_ (some 29) rfl Try.func70 #[.int .i64 a0, .int .i64 0, .int .i64 100000] ?_; (with_reducible refine (spec_l1In.calls a0 0 100000 true _ A9.out).mono ?_); rintro e w' ⟨rfl, ⟨nd, rfl⟩⟩; refine ⟨_, rfl, ?_⟩))
     go_ret
     exact ⟨by first | rfl | (simp; done) | (simp [*]; done), by repeat (first | exact Drawn0.refl _ | apply Drawn0.step)⟩
    ·replace l6 := Bool.eq_false_iff.mpr l6; subst l6; rw [if_neg (show ¬ (false = true) by decide)] at H; obtain rfl := Option.some.inj H
     go_wp2_with (first | ((with_reducible refine gc_ 70 rfl ?_); refine gl_ (some 29) rfl Try.func70 #[.int .i64 a0, .int .i64 0, .int .i64 100000] ?_; (with_reducible refine (spec_l1In.calls a0 0 100000 false _ A9.out).mono ?_); rintro e w' ⟨rfl, ⟨nd, rfl⟩⟩; refine ⟨_, rfl, ?_⟩))
     go_ret
     exact ⟨by first | rfl | (simp; done) | (simp [*]; done), by repeat (first | exact Drawn0.refl _ | apply Drawn0.step)⟩

/-! ### spec_l1Min: function 83 -/
def spec_l1Min.f (a0 : Int) (a1 : Int) : Option (Int) := if a0 < a1 then (some a0) else (some a1)
set_option maxHeartbeats 8000000 in
set_option maxRecDepth 100000 in
theorem spec_l1Min.calls (a0 : Int) (a1 : Int) (r : Int) (w : World) (h : spec_l1Min.f a0 a1 = some r) :
  Calls Try.prog 83 #[.int .i64 a0, .int .i64 a1] w fun e w' => e = .returned (.int .i64 r) ∧ Drawn0 w w' := by
 have H : (if a0 < a1 then (some a0) else (some a1)) = some r := h
 clear h; by_cases c3 : a0 < a1
 ·rw [if_pos c3] at H; have h2 : decide (a0 < a1) = true := decide_eq_true c3; clear c3; obtain rfl := Option.some.inj H
  go_enter Try.func83, Try.ntmps83
  go_wp2; go_ret
  exact ⟨by first | rfl | (simp; done) | (simp [*]; done), by repeat (first | exact Drawn0.refl _ | apply Drawn0.step)⟩
 ·rw [if_neg c3] at H; have h2 : decide (a0 < a1) = false := decide_eq_false c3; clear c3; obtain rfl := Option.some.inj H
  go_enter Try.func83, Try.ntmps83
  go_wp2; go_ret
  exact ⟨by first | rfl | (simp; done) | (simp [*]; done), by repeat (first | exact Drawn0.refl _ | apply Drawn0.step)⟩

/-! ### spec_l3High: function 107 -/
def spec_l3High.l0 : Nat → Int → List (S137) → Int → Int → Option (Int)
 | 0, _, _, _, _ => none
 | k + 1, x0, x1, x2, x7 => if x7 < (x1.length : Int) then (if 0 ≤ x7 then ((spec_l1Min.f x2 ((rd_T137 x1 x7).f1)).bind fun j5 => (spec_l3High.l0 k (wrap64 (x0 + (wrap64 (((rd_T137 x1 x7).f0) * j5)))) x1 (wrap64 (x2 - j5)) (wrap64 (x7 + 1)))) else (none)) else (some x0)
def spec_l3High.f (k : Nat) (a0 : Int) (l1 : List (S137)) (a2 : Int) : Option (Int) := spec_l3High.l0 k a0 l1 a2 0
theorem spec_l3High.mono_l : ∀ k, (∀ y0 y1 y2 y3, LeO (spec_l3High.l0 k y0 y1 y2 y3) (spec_l3High.l0 (k + 1) y0 y1 y2 y3))
 | 0 => fun _ _ _ _ r h => by simp [spec_l3High.l0] at h
 | k + 1 => by
  have g4 := spec_l3High.mono_l k
  ·intro y0 y1 y2 y3
   unfold spec_l3High.l0
   repeat' first
   | (with_reducible exact g4 _ _ _ _)
   | (with_reducible exact LeO.refl _)
   | (with_reducible exact LeO.none _)
   | (with_reducible refine LeO.ite ?_ ?_)
   | (with_reducible refine LeO.bind ?_ (fun _ => ?_))
   | exact g4 _ _ _ _
   | exact LeO.none _
   | refine LeO.ite ?_ ?_
   | refine LeO.bind ?_ (fun _ => ?_)
theorem spec_l3High.mono : ∀ a0 a1 a2 k, LeO (spec_l3High.f k a0 a1 a2) (spec_l3High.f (k + 1) a0 a1 a2) := by
 intro a0 a1 a2 k
 have g4 := spec_l3High.mono_l k
 unfold spec_l3High.f
 repeat' first
   | (with_reducible exact g4 _ _ _ _)
   | (with_reducible exact LeO.refl _)
   | (with_reducible exact LeO.none _)
   | (with_reducible refine LeO.ite ?_ ?_)
   | (with_reducible refine LeO.bind ?_ (fun _ => ?_))
   | exact g4 _ _ _ _
   | exact LeO.none _
   | refine LeO.ite ?_ ?_
   | refine LeO.bind ?_ (fun _ => ?_)
set_option maxHeartbeats 8000000 in
set_option maxRecDepth 100000 in
theorem spec_l3High.calls (k : Nat) (a0 : Int) (A1 : Option Addr) (c1 : Nat) (l1 : List (S137)) (a2 : Int) (r : Int) (w : World) (hr1 : Kd.C k137 w A1 l1.length l1) (hc1 : l1.length ≤ c1) (h : spec_l3High.f k a0 l1 a2 = some r) :
  Calls Try.prog 107 #[.int .i64 a0, .slice A1 l1.length c1, .int .i64 a2] w fun e w' => e = .returned (.int .i64 r) ∧ Drawn0 w w' := by
 have d5 := mk_ hr1; have g7 := mk_ hc1; clear hr1 hc1
 have H : (spec_l3High.l0 k a0 l1 a2 0) = some r := h
 clear h
 have H' := mk_ H
 clear H
 go_enter Try.func107, Try.ntmps107
 go_wp2
 go_loopg [0, 2, 7] k (fun kq v0 v2 v7 w' => ∃ (m5 : Int) (j6 : Int) (b3 : Int), v0 = .int .i64 m5 ∧ v2 = .int .i64 j6 ∧ v7 = .int .i64 b3 ∧ Aside0 (spec_l3High.l0 kq m5 l1 j6 b3 = some r) ∧ Aside0 (kq ≤ k) ∧ Drawn0 w w')
 case atStart => exact ⟨(a0), (a2), (0), rf_, rf_, rf_, H', ⟨Nat.le_refl _⟩, by repeat (first | exact Drawn0.refl _ | apply Drawn0.step)⟩
 case round =>
  clear H'; (try clear c1)
  obtain ⟨m5, j6, b3, rfl, rfl, rfl, HA, o7, ⟨m1, rfl⟩⟩ := hrel
  cases gk with
  | zero => exact absurd HA.out (by simp [spec_l3High.l0])
  | succ k1 =>
   have H := HA.out; clear HA
   simp only [spec_l3High.l0] at H
   by_cases c4 : b3 < (l1.length : Int)
   ·rw [if_pos c4] at H; have l9 : decide (b3 < (l1.length : Int)) = true := decide_eq_true c4; clear c4; by_cases c5 : 0 ≤ b3
    ·rw [if_pos c5] at H; have B5 : decide (0 ≤ b3) = true := decide_eq_true c5; clear c5; replace H := Option.bind_eq_some_iff.mp H; obtain ⟨j5, o9, H⟩ := H; (try dsimp only at H); have A6 := mk_ o9; clear o9
     have H' := mk_ H
     clear H
     have n6 : 0 ≤ (b3 : Int) := od_
     have n7 : b3 < (l1.length : Int) := od_
     obtain ⟨p0, s9, q5, q6⟩ := at_T137 d5.out b3 n6 n7; cases s9; replace n6 := eq_true n6; replace n7 := eq_true n7
     go_wp2_with (first | ((with_reducible refine gc_ 83 rfl ?_); refine gl_ (some 21) rfl Try.func83 #[.int .i64 j6, .int .i64 ((rd_T137 l1 b3).f1)] ?_; (with_reducible refine (spec_l1Min.calls j6 ((rd_T137 l1 b3).f1) j5 _ A6.out).mono ?_); rintro e w' ⟨rfl, ⟨nd, rfl⟩⟩; refine ⟨_, rfl, ?_⟩; have n8 : 0 ≤ (b3 : Int) := od_; have n9 : b3 < (l1.length : Int) := od_; obtain ⟨p1, t0, q7, q8⟩ := at_T137 d5.out b3 n8 n9; obtain rfl : p0 = p1 := (by injection t0); replace n8 := eq_true n8; replace n9 := eq_true n9))
     go_roundg k1
     case measure => have := o7.out; omega
     case rel => exact ⟨(wrap64 (m5 + (wrap64 (((rd_T137 l1 b3).f0) * j5)))), (wrap64 (j6 - j5)), (wrap64 (b3 + 1)), rf_, rf_, rf_, H', ⟨by have := o7.out; omega⟩, by repeat (first | exact Drawn0.refl _ | apply Drawn0.step)⟩
    ·rw [if_neg c5] at H
     exact absurd H (by simp)
   ·rw [if_neg c4] at H; have l9 : decide (b3 < (l1.length : Int)) = false := decide_eq_false c4; clear c4; obtain rfl := Option.some.inj H; go_wp2; go_ret
    exact ⟨by first | rfl | (simp; done) | (simp [*]; done), by repeat (first | exact Drawn0.refl _ | apply Drawn0.step)⟩

/-! ### spec_Clears: function 53 -/
mutual
def spec_Clears.j0 : Nat → Int → List (S137) → List (S134) → Int → Bool → Option (Int × Bool)
 | 0, _, _, _, _, _ => none
 | k + 1, x0, x1, x2, x3, B6 => if B6 = true then (some ((-2), false)) else (spec_Clears.l0 k x0 x1 x2 x3 0)
def spec_Clears.l0 : Nat → Int → List (S137) → List (S134) → Int → Int → Option (Int × Bool)
 | 0, _, _, _, _, _ => none
 | k + 1, x0, x1, x2, x3, p2 => if p2 < (x2.length : Int) then (if 0 ≤ p2 then ((spec_l1In.f ((rd_T134 x2 p2).f0) 0 12000).bind fun m6 => (if m6 = true then ((spec_l1In.f ((rd_T134 x2 p2).f1) 0 1000000).bind fun g8 => (if g8 = true then (spec_Clears.l0 k x0 x1 x2 x3 (wrap64 (p2 + 1))) else (some ((-2), false)))) else (some ((-2), false)))) else (none)) else (spec_Clears.l1 k x0 x1 x2 x3 0)
def spec_Clears.l1 : Nat → Int → List (S137) → List (S134) → Int → Int → Option (Int × Bool)
 | 0, _, _, _, _, _ => none
 | k + 1, x0, x1, x2, x3, o2 => if o2 < (x2.length : Int) then (if 0 ≤ o2 then ((spec_l3High.f k x0 x1 ((rd_T134 x2 o2).f0)).bind fun d4 => (if (wrap64 (d4 - ((rd_T134 x2 o2).f1))) < x3 then (some (o2, true)) else (spec_Clears.l1 k x0 x1 x2 x3 (wrap64 (o2 + 1))))) else (none)) else (some ((-1), true))
end
def spec_Clears.f (k : Nat) (a0 : Int) (l1 : List (S137)) (l2 : List (S134)) (a3 : Int) : Option (Int × Bool) := (spec_l3Phases.f k a0 l1).bind fun j7 => (if j7 = true then (if (l2.length : Int) > 20 then (spec_Clears.j0 k a0 l1 l2 a3 true) else ((spec_l1In.f a3 0 1000).bind fun d1 => (spec_Clears.j0 k a0 l1 l2 a3 (!d1)))) else (spec_Clears.j0 k a0 l1 l2 a3 true))
theorem spec_Clears.mono_l : ∀ k, (∀ y0 y1 y2 y3 y4, LeO (spec_Clears.j0 k y0 y1 y2 y3 y4) (spec_Clears.j0 (k + 1) y0 y1 y2 y3 y4)) ∧ (∀ y0 y1 y2 y3 y4, LeO (spec_Clears.l0 k y0 y1 y2 y3 y4) (spec_Clears.l0 (k + 1) y0 y1 y2 y3 y4)) ∧ (∀ y0 y1 y2 y3 y4, LeO (spec_Clears.l1 k y0 y1 y2 y3 y4) (spec_Clears.l1 (k + 1) y0 y1 y2 y3 y4))
 | 0 => ⟨fun _ _ _ _ _ r h => by simp [spec_Clears.j0] at h, fun _ _ _ _ _ r h => by simp [spec_Clears.l0] at h, fun _ _ _ _ _ r h => by simp [spec_Clears.l1] at h⟩
 | k + 1 => by
  obtain ⟨g4, m7, m8⟩ := spec_Clears.mono_l k
  refine ⟨?_, ?_, ?_⟩
  ·intro y0 y1 y2 y3 y4
   unfold spec_Clears.j0
   repeat' first
   | (with_reducible exact g4 _ _ _ _ _)
   | (with_reducible exact m7 _ _ _ _ _)
   | (with_reducible exact m8 _ _ _ _ _)
   | (with_reducible exact spec_l3High.mono _ _ _ _)
   | (with_reducible exact spec_l3Phases.mono _ _ _)
   | (with_reducible exact LeO.refl _)
   | (with_reducible exact LeO.none _)
   | (with_reducible refine LeO.ite ?_ ?_)
   | (with_reducible refine LeO.bind ?_ (fun _ => ?_))
   | exact g4 _ _ _ _ _
   | exact m7 _ _ _ _ _
   | exact m8 _ _ _ _ _
   | exact spec_l3High.mono _ _ _ _
   | exact spec_l3Phases.mono _ _ _
   | exact LeO.none _
   | refine LeO.ite ?_ ?_
   | refine LeO.bind ?_ (fun _ => ?_)
  ·intro y0 y1 y2 y3 y4
   unfold spec_Clears.l0
   repeat' first
   | (with_reducible exact g4 _ _ _ _ _)
   | (with_reducible exact m7 _ _ _ _ _)
   | (with_reducible exact m8 _ _ _ _ _)
   | (with_reducible exact spec_l3High.mono _ _ _ _)
   | (with_reducible exact spec_l3Phases.mono _ _ _)
   | (with_reducible exact LeO.refl _)
   | (with_reducible exact LeO.none _)
   | (with_reducible refine LeO.ite ?_ ?_)
   | (with_reducible refine LeO.bind ?_ (fun _ => ?_))
   | exact g4 _ _ _ _ _
   | exact m7 _ _ _ _ _
   | exact m8 _ _ _ _ _
   | exact spec_l3High.mono _ _ _ _
   | exact spec_l3Phases.mono _ _ _
   | exact LeO.none _
   | refine LeO.ite ?_ ?_
   | refine LeO.bind ?_ (fun _ => ?_)
  ·intro y0 y1 y2 y3 y4
   unfold spec_Clears.l1
   repeat' first
   | (with_reducible exact g4 _ _ _ _ _)
   | (with_reducible exact m7 _ _ _ _ _)
   | (with_reducible exact m8 _ _ _ _ _)
   | (with_reducible exact spec_l3High.mono _ _ _ _)
   | (with_reducible exact spec_l3Phases.mono _ _ _)
   | (with_reducible exact LeO.refl _)
   | (with_reducible exact LeO.none _)
   | (with_reducible refine LeO.ite ?_ ?_)
   | (with_reducible refine LeO.bind ?_ (fun _ => ?_))
   | exact g4 _ _ _ _ _
   | exact m7 _ _ _ _ _
   | exact m8 _ _ _ _ _
   | exact spec_l3High.mono _ _ _ _
   | exact spec_l3Phases.mono _ _ _
   | exact LeO.none _
   | refine LeO.ite ?_ ?_
   | refine LeO.bind ?_ (fun _ => ?_)
theorem spec_Clears.mono : ∀ a0 a1 a2 a3 k, LeO (spec_Clears.f k a0 a1 a2 a3) (spec_Clears.f (k + 1) a0 a1 a2 a3) := by
 intro a0 a1 a2 a3 k
 obtain ⟨g4, m7, m8⟩ := spec_Clears.mono_l k
 unfold spec_Clears.f
 repeat' first
   | (with_reducible exact g4 _ _ _ _ _)
   | (with_reducible exact m7 _ _ _ _ _)
   | (with_reducible exact m8 _ _ _ _ _)
   | (with_reducible exact spec_l3High.mono _ _ _ _)
   | (with_reducible exact spec_l3Phases.mono _ _ _)
   | (with_reducible exact LeO.refl _)
   | (with_reducible exact LeO.none _)
   | (with_reducible refine LeO.ite ?_ ?_)
   | (with_reducible refine LeO.bind ?_ (fun _ => ?_))
   | exact g4 _ _ _ _ _
   | exact m7 _ _ _ _ _
   | exact m8 _ _ _ _ _
   | exact spec_l3High.mono _ _ _ _
   | exact spec_l3Phases.mono _ _ _
   | exact LeO.none _
   | refine LeO.ite ?_ ?_
   | refine LeO.bind ?_ (fun _ => ?_)
set_option maxHeartbeats 8000000 in
set_option maxRecDepth 100000 in
theorem spec_Clears.calls (k : Nat) (a0 : Int) (A1 : Option Addr) (c1 : Nat) (l1 : List (S137)) (A2 : Option Addr) (c2 : Nat) (l2 : List (S134)) (a3 : Int) (r1 : Int) (r2 : Bool) (w : World) (hr1 : Kd.C k137 w A1 l1.length l1) (hc1 : l1.length ≤ c1) (hr2 : Kd.C k134 w A2 l2.length l2) (hc2 : l2.length ≤ c2) (h : spec_Clears.f k a0 l1 l2 a3 = some (r1, r2)) :
  Calls Try.prog 53 #[.int .i64 a0, .slice A1 l1.length c1, .slice A2 l2.length c2, .int .i64 a3] w fun e w' => e = .returned (.tuple #[.int .i64 r1, .bool r2]) ∧ Drawn0 w w' := by
 have d5 := mk_ hr1; have g7 := mk_ hc1; clear hr1 hc1; have g9 := mk_ hr2; have C3 := mk_ hc2; clear hr2 hc2
 have H : ((spec_l3Phases.f k a0 l1).bind fun j7 => (if j7 = true then (if (l2.length : Int) > 20 then (spec_Clears.j0 k a0 l1 l2 a3 true) else ((spec_l1In.f a3 0 1000).bind fun d1 => (spec_Clears.j0 k a0 l1 l2 a3 (!d1)))) else (spec_Clears.j0 k a0 l1 l2 a3 true))) = some (r1, r2) := h
 clear h; have t1 := mk_ H; clear H
 go_enter Try.func53, Try.ntmps53
 go_upto_region 1 with (fail)
 repeat (go_quiet (fail); go_upto_region 1 with (fail))
 go_cut [25] (fun v25 wc => ∃ (kq : Nat) (j1 : Bool), v25 = .bool j1 ∧ Aside0 (spec_Clears.j0 kq a0 l1 l2 a3 j1 = some (r1, r2)) ∧ Aside0 (kq ≤ k) ∧ Drawn0 w wc)
 case first =>
  have H := t1.out; clear t1; replace H := Option.bind_eq_some_iff.mp H; obtain ⟨j7, o9, H⟩ := H
  replace H : (if j7 = true then (if (l2.length : Int) > 20 then (spec_Clears.j0 k a0 l1 l2 a3 true) else ((spec_l1In.f a3 0 1000).bind fun d1 => (spec_Clears.j0 k a0 l1 l2 a3 (!d1)))) else (spec_Clears.j0 k a0 l1 l2 a3 true)) = some (r1, r2) := H
  have A6 := mk_ o9; clear o9; by_cases c7 : j7 = true
  ·subst c7
   have H1 : (if (l2.length : Int) > 20 then (spec_Clears.j0 k a0 l1 l2 a3 true) else ((spec_l1In.f a3 0 1000).bind fun d1 => (spec_Clears.j0 k a0 l1 l2 a3 (!d1)))) = some (r1, r2) := by rw [if_pos rfl] at H; exact H
   clear H
   have H := H1
   clear H1; by_cases c8 : (l2.length : Int) > 20
   ·rw [if_pos c8] at H; have l7 : decide (20 < (l2.length : Int)) = true := decide_eq_true c8; have t2 : decide (20 < l2.length) = true := decide_eq_true (by omega); clear c8
    (first | rw [l7] | (simp only [i64_w, i32_w]; rw [l7]) | skip)
    have H' := mk_ H
    clear H
    go_wp2_with (first | (go_at_call 106; (with_reducible refine (spec_l3Phases.calls k a0 _ _ l1 true _ ?a6 ?a7 A6.out).mono ?_); (case a6 => exact cw_ d5.out); (case a7 => exact g7.out); rintro e w' ⟨rfl, ⟨nd, rfl⟩⟩; (try first | exact ⟨rfl, _, World.drewN_drewN _ _ _⟩ | exact ⟨rfl, _, Eq.trans (World.drewN_drewN _ _ _) (congrArg (World.drewN _) (Nat.add_assoc _ _ _))⟩)))
    repeat (go_quiet (first | (go_at_call 106; (with_reducible refine (spec_l3Phases.calls k a0 _ _ l1 true _ ?a6 ?a7 A6.out).mono ?_); (case a6 => exact cw_ d5.out); (case a7 => exact g7.out); rintro e w' ⟨rfl, ⟨nd, rfl⟩⟩; (try first | exact ⟨rfl, _, World.drewN_drewN _ _ _⟩ | exact ⟨rfl, _, Eq.trans (World.drewN_drewN _ _ _) (congrArg (World.drewN _) (Nat.add_assoc _ _ _))⟩))); try go_wp2_with (first | (go_at_call 106; (with_reducible refine (spec_l3Phases.calls k a0 _ _ l1 true _ ?a6 ?a7 A6.out).mono ?_); (case a6 => exact cw_ d5.out); (case a7 => exact g7.out); rintro e w' ⟨rfl, ⟨nd, rfl⟩⟩; (try first | exact ⟨rfl, _, World.drewN_drewN _ _ _⟩ | exact ⟨rfl, _, Eq.trans (World.drewN_drewN _ _ _) (congrArg (World.drewN _) (Nat.add_assoc _ _ _))⟩))))
    go_meet
    case rel => exact ⟨_, (true), rf_, H', ⟨by first | omega | exact Nat.le_refl _⟩, by repeat (first | exact Drawn0.refl _ | apply Drawn0.step)⟩
   ·rw [if_neg c8] at H; have l7 : decide (20 < (l2.length : Int)) = false := decide_eq_false c8; have t2 : decide (20 < l2.length) = false := decide_eq_false (by omega); clear c8
    (first | rw [l7] | (simp only [i64_w, i32_w]; rw [l7]) | skip)
    replace H := Option.bind_eq_some_iff.mp H; obtain ⟨d1, o8, H⟩ := H
    replace H : (spec_Clears.j0 k a0 l1 l2 a3 (!d1)) = some (r1, r2) := H
    have A9 := mk_ o8; clear o8
    have H' := mk_ H
    clear H
    go_wp2_with (first | (go_at_call 106; (with_reducible refine (spec_l3Phases.calls k a0 _ _ l1 true _ ?a6 ?a7 A6.out).mono ?_); (case a6 => exact cw_ d5.out); (case a7 => exact g7.out); rintro e w' ⟨rfl, ⟨nd, rfl⟩⟩; (try first | exact ⟨rfl, _, World.drewN_drewN _ _ _⟩ | exact ⟨rfl, _, Eq.trans (World.drewN_drewN _ _ _) (congrArg (World.drewN _) (Nat.add_assoc _ _ _))⟩)) | (go_at_call 70; (with_reducible refine (spec_l1In.calls a3 0 1000 d1 _ A9.out).mono ?_); rintro e w' ⟨rfl, ⟨nd, rfl⟩⟩; (try first | exact ⟨rfl, _, World.drewN_drewN _ _ _⟩ | exact ⟨rfl, _, Eq.trans (World.drewN_drewN _ _ _) (congrArg (World.drewN _) (Nat.add_assoc _ _ _))⟩)))
    repeat (go_quiet (first | (go_at_call 106; (with_reducible refine (spec_l3Phases.calls k a0 _ _ l1 true _ ?a6 ?a7 A6.out).mono ?_); (case a6 => exact cw_ d5.out); (case a7 => exact g7.out); rintro e w' ⟨rfl, ⟨nd, rfl⟩⟩; (try first | exact ⟨rfl, _, World.drewN_drewN _ _ _⟩ | exact ⟨rfl, _, Eq.trans (World.drewN_drewN _ _ _) (congrArg (World.drewN _) (Nat.add_assoc _ _ _))⟩)) | (go_at_call 70; (with_reducible refine (spec_l1In.calls a3 0 1000 d1 _ A9.out).mono ?_); rintro e w' ⟨rfl, ⟨nd, rfl⟩⟩; (try first | exact ⟨rfl, _, World.drewN_drewN _ _ _⟩ | exact ⟨rfl, _, Eq.trans (World.drewN_drewN _ _ _) (congrArg (World.drewN _) (Nat.add_assoc _ _ _))⟩))); try go_wp2_with (first | (go_at_call 106; (with_reducible refine (spec_l3Phases.calls k a0 _ _ l1 true _ ?a6 ?a7 A6.out).mono ?_); (case a6 => exact cw_ d5.out); (case a7 => exact g7.out); rintro e w' ⟨rfl, ⟨nd, rfl⟩⟩; (try first | exact ⟨rfl, _, World.drewN_drewN _ _ _⟩ | exact ⟨rfl, _, Eq.trans (World.drewN_drewN _ _ _) (congrArg (World.drewN _) (Nat.add_assoc _ _ _))⟩)) | (go_at_call 70; (with_reducible refine (spec_l1In.calls a3 0 1000 d1 _ A9.out).mono ?_); rintro e w' ⟨rfl, ⟨nd, rfl⟩⟩; (try first | exact ⟨rfl, _, World.drewN_drewN _ _ _⟩ | exact ⟨rfl, _, Eq.trans (World.drewN_drewN _ _ _) (congrArg (World.drewN _) (Nat.add_assoc _ _ _))⟩))))
    go_meet
    case rel => exact ⟨_, (!d1), rf_, H', ⟨by first | omega | exact Nat.le_refl _⟩, by repeat (first | exact Drawn0.refl _ | apply Drawn0.step)⟩
  ·replace c7 := Bool.eq_false_iff.mpr c7; subst c7
   have H1 : (spec_Clears.j0 k a0 l1 l2 a3 true) = some (r1, r2) := by rw [if_neg (show ¬ (false = true) by decide)] at H; exact H
   clear H
   have H := H1
   clear H1
   have H' := mk_ H
   clear H
   go_wp2_with (first | (go_at_call 106; (with_reducible refine (spec_l3Phases.calls k a0 _ _ l1 false _ ?a6 ?a7 A6.out).mono ?_); (case a6 => exact cw_ d5.out); (case a7 => exact g7.out); rintro e w' ⟨rfl, ⟨nd, rfl⟩⟩; (try first | exact ⟨rfl, _, World.drewN_drewN _ _ _⟩ | exact ⟨rfl, _, Eq.trans (World.drewN_drewN _ _ _) (congrArg (World.drewN _) (Nat.add_assoc _ _ _))⟩)))
   repeat (go_quiet (first | (go_at_call 106; (with_reducible refine (spec_l3Phases.calls k a0 _ _ l1 false _ ?a6 ?a7 A6.out).mono ?_); (case a6 => exact cw_ d5.out); (case a7 => exact g7.out); rintro e w' ⟨rfl, ⟨nd, rfl⟩⟩; (try first | exact ⟨rfl, _, World.drewN_drewN _ _ _⟩ | exact ⟨rfl, _, Eq.trans (World.drewN_drewN _ _ _) (congrArg (World.drewN _) (Nat.add_assoc _ _ _))⟩))); try go_wp2_with (first | (go_at_call 106; (with_reducible refine (spec_l3Phases.calls k a0 _ _ l1 false _ ?a6 ?a7 A6.out).mono ?_); (case a6 => exact cw_ d5.out); (case a7 => exact g7.out); rintro e w' ⟨rfl, ⟨nd, rfl⟩⟩; (try first | exact ⟨rfl, _, World.drewN_drewN _ _ _⟩ | exact ⟨rfl, _, Eq.trans (World.drewN_drewN _ _ _) (congrArg (World.drewN _) (Nat.add_assoc _ _ _))⟩))))
   go_meet
   case rel => exact ⟨_, (true), rf_, H', ⟨by first | omega | exact Nat.le_refl _⟩, by repeat (first | exact Drawn0.refl _ | apply Drawn0.step)⟩
 case rest =>
  clear t1; (try clear c1); (try clear c2)
  obtain ⟨kq, j1, rfl, HA, q9, ⟨mc4, rfl⟩⟩ := hcut
  cases kq with
  | zero => exact absurd HA.out (by simp [spec_Clears.j0])
  | succ kj4 =>
   have H := HA.out; clear HA
   simp only [spec_Clears.j0] at H
   by_cases l6 : j1 = true
   ·subst l6
    have H1 : (some ((-2), false)) = some (r1, r2) := by rw [if_pos rfl] at H; exact H
    clear H
    have H := H1
    clear H1
    simp only [Option.some.injEq, Prod.mk.injEq] at H
    obtain ⟨rfl, rfl⟩ := H; go_wp2
    repeat (go_quiet (fail); try go_wp2)
    go_ret2
    exact ⟨by first | rfl | (simp; done) | (simp [*]; done), by repeat (first | exact Drawn0.refl _ | apply Drawn0.step)⟩
   ·replace l6 := Bool.eq_false_iff.mpr l6; subst l6
    have H1 : (spec_Clears.l0 kj4 a0 l1 l2 a3 0) = some (r1, r2) := by rw [if_neg (show ¬ (false = true) by decide)] at H; exact H
    clear H
    have H := H1
    clear H1
    have H' := mk_ H
    clear H; go_wp2
    repeat (go_quiet (fail); try go_wp2)
    go_loopg [10] kj4 (fun kq v10 w' => ∃ (a4 : Int), v10 = .int .i64 a4 ∧ Aside0 (spec_Clears.l0 kq a0 l1 l2 a3 a4 = some (r1, r2)) ∧ Aside0 (kq ≤ kj4) ∧ Drawn0 w w')
    case atStart => exact ⟨(0), rf_, H', ⟨Nat.le_refl _⟩, by repeat (first | exact Drawn0.refl _ | apply Drawn0.step)⟩
    case round =>
     clear H'; (try clear c1); (try clear c2); (try clear l6)
     obtain ⟨a4, rfl, HA, s0, ⟨m2, rfl⟩⟩ := hrel
     cases gk with
     | zero => exact absurd HA.out (by simp [spec_Clears.l0])
     | succ k2 =>
      have H := HA.out; clear HA
      simp only [spec_Clears.l0] at H
      by_cases o0 : a4 < (l2.length : Int)
      ·rw [if_pos o0] at H; have p3 : decide (a4 < (l2.length : Int)) = true := decide_eq_true o0; clear o0; by_cases s1 : 0 ≤ a4
       ·rw [if_pos s1] at H; have y8 : decide (0 ≤ a4) = true := decide_eq_true s1; clear s1; replace H := Option.bind_eq_some_iff.mp H; obtain ⟨m6, p4, H⟩ := H
        replace H : (if m6 = true then ((spec_l1In.f ((rd_T134 l2 a4).f1) 0 1000000).bind fun g8 => (if g8 = true then (spec_Clears.l0 k2 a0 l1 l2 a3 (wrap64 (a4 + 1))) else (some ((-2), false)))) else (some ((-2), false))) = some (r1, r2) := H
        have m9 := mk_ p4; clear p4; by_cases s2 : m6 = true
        ·subst s2
         have H1 : ((spec_l1In.f ((rd_T134 l2 a4).f1) 0 1000000).bind fun g8 => (if g8 = true then (spec_Clears.l0 k2 a0 l1 l2 a3 (wrap64 (a4 + 1))) else (some ((-2), false)))) = some (r1, r2) := by rw [if_pos rfl] at H; exact H
         clear H
         have H := H1
         clear H1; replace H := Option.bind_eq_some_iff.mp H; obtain ⟨g8, p5, H⟩ := H
         replace H : (if g8 = true then (spec_Clears.l0 k2 a0 l1 l2 a3 (wrap64 (a4 + 1))) else (some ((-2), false))) = some (r1, r2) := H
         have o3 := mk_ p5; clear p5; by_cases s3 : g8 = true
         ·subst s3
          have H1 : (spec_Clears.l0 k2 a0 l1 l2 a3 (wrap64 (a4 + 1))) = some (r1, r2) := by rw [if_pos rfl] at H; exact H
          clear H
          have H := H1
          clear H1
          have H' := mk_ H
          clear H
          have d8 : 0 ≤ (a4 : Int) := od_
          have d9 : a4 < (l2.length : Int) := od_
          obtain ⟨d2, l8, j2, j3⟩ := at_T134 g9.out a4 d8 d9; cases l8; replace d8 := eq_true d8; replace d9 := eq_true d9
          go_wp2_with (first | (go_at_call 70; (with_reducible refine (spec_l1In.calls ((rd_T134 l2 a4).f0) 0 12000 true _ m9.out).mono ?_); rintro e w' ⟨rfl, ⟨nd, rfl⟩⟩; (try first | exact ⟨rfl, _, World.drewN_drewN _ _ _⟩ | exact ⟨rfl, _, Eq.trans (World.drewN_drewN _ _ _) (congrArg (World.drewN _) (Nat.add_assoc _ _ _))⟩); have a9 : 0 ≤ (a4 : Int) := od_; have b0 : a4 < (l2.length : Int) := od_; obtain ⟨b4, g1, b8, b9⟩ := at_T134 g9.out a4 a9 b0; obtain rfl : d2 = b4 := (by injection g1); replace a9 := eq_true a9; replace b0 := eq_true b0) | (go_at_call 70; (with_reducible refine (spec_l1In.calls ((rd_T134 l2 a4).f1) 0 1000000 true _ o3.out).mono ?_); rintro e w' ⟨rfl, ⟨nd, rfl⟩⟩; (try first | exact ⟨rfl, _, World.drewN_drewN _ _ _⟩ | exact ⟨rfl, _, Eq.trans (World.drewN_drewN _ _ _) (congrArg (World.drewN _) (Nat.add_assoc _ _ _))⟩)))
          (try (have a9 : 0 ≤ (a4 : Int) := od_; have b0 : a4 < (l2.length : Int) := od_; obtain ⟨b4, g1, b8, b9⟩ := at_T134 g9.out a4 a9 b0; obtain rfl : d2 = b4 := (by injection g1); replace a9 := eq_true a9; replace b0 := eq_true b0))
          repeat (go_quiet (first | (go_at_call 70; (with_reducible refine (spec_l1In.calls ((rd_T134 l2 a4).f0) 0 12000 true _ m9.out).mono ?_); rintro e w' ⟨rfl, ⟨nd, rfl⟩⟩; (try first | exact ⟨rfl, _, World.drewN_drewN _ _ _⟩ | exact ⟨rfl, _, Eq.trans (World.drewN_drewN _ _ _) (congrArg (World.drewN _) (Nat.add_assoc _ _ _))⟩)) | (go_at_call 70; (with_reducible refine (spec_l1In.calls ((rd_T134 l2 a4).f1) 0 1000000 true _ o3.out).mono ?_); rintro e w' ⟨rfl, ⟨nd, rfl⟩⟩; (try first | exact ⟨rfl, _, World.drewN_drewN _ _ _⟩ | exact ⟨rfl, _, Eq.trans (World.drewN_drewN _ _ _) (congrArg (World.drewN _) (Nat.add_assoc _ _ _))⟩))); try go_wp2_with (first | (go_at_call 70; (with_reducible refine (spec_l1In.calls ((rd_T134 l2 a4).f0) 0 12000 true _ m9.out).mono ?_); rintro e w' ⟨rfl, ⟨nd, rfl⟩⟩; (try first | exact ⟨rfl, _, World.drewN_drewN _ _ _⟩ | exact ⟨rfl, _, Eq.trans (World.drewN_drewN _ _ _) (congrArg (World.drewN _) (Nat.add_assoc _ _ _))⟩); have a9 : 0 ≤ (a4 : Int) := od_; have b0 : a4 < (l2.length : Int) := od_; obtain ⟨b4, g1, b8, b9⟩ := at_T134 g9.out a4 a9 b0; obtain rfl : d2 = b4 := (by injection g1); replace a9 := eq_true a9; replace b0 := eq_true b0) | (go_at_call 70; (with_reducible refine (spec_l1In.calls ((rd_T134 l2 a4).f1) 0 1000000 true _ o3.out).mono ?_); rintro e w' ⟨rfl, ⟨nd, rfl⟩⟩; (try first | exact ⟨rfl, _, World.drewN_drewN _ _ _⟩ | exact ⟨rfl, _, Eq.trans (World.drewN_drewN _ _ _) (congrArg (World.drewN _) (Nat.add_assoc _ _ _))⟩))))
          go_roundg k2
          case measure => have := q9.out; have := s0.out; omega
          case rel => exact ⟨(wrap64 (a4 + 1)), rf_, H', ⟨by have := q9.out; have := s0.out; omega⟩, by repeat (first | exact Drawn0.refl _ | apply Drawn0.step)⟩
         ·replace s3 := Bool.eq_false_iff.mpr s3; subst s3
          have H1 : (some ((-2), false)) = some (r1, r2) := by rw [if_neg (show ¬ (false = true) by decide)] at H; exact H
          clear H
          have H := H1
          clear H1
          simp only [Option.some.injEq, Prod.mk.injEq] at H
          obtain ⟨rfl, rfl⟩ := H
          have d8 : 0 ≤ (a4 : Int) := od_
          have d9 : a4 < (l2.length : Int) := od_
          obtain ⟨d2, l8, j2, j3⟩ := at_T134 g9.out a4 d8 d9; cases l8; replace d8 := eq_true d8; replace d9 := eq_true d9
          go_wp2_with (first | (go_at_call 70; (with_reducible refine (spec_l1In.calls ((rd_T134 l2 a4).f0) 0 12000 true _ m9.out).mono ?_); rintro e w' ⟨rfl, ⟨nd, rfl⟩⟩; (try first | exact ⟨rfl, _, World.drewN_drewN _ _ _⟩ | exact ⟨rfl, _, Eq.trans (World.drewN_drewN _ _ _) (congrArg (World.drewN _) (Nat.add_assoc _ _ _))⟩); have a9 : 0 ≤ (a4 : Int) := od_; have b0 : a4 < (l2.length : Int) := od_; obtain ⟨b4, g1, b8, b9⟩ := at_T134 g9.out a4 a9 b0; obtain rfl : d2 = b4 := (by injection g1); replace a9 := eq_true a9; replace b0 := eq_true b0) | (go_at_call 70; (with_reducible refine (spec_l1In.calls ((rd_T134 l2 a4).f1) 0 1000000 false _ o3.out).mono ?_); rintro e w' ⟨rfl, ⟨nd, rfl⟩⟩; (try first | exact ⟨rfl, _, World.drewN_drewN _ _ _⟩ | exact ⟨rfl, _, Eq.trans (World.drewN_drewN _ _ _) (congrArg (World.drewN _) (Nat.add_assoc _ _ _))⟩)))
          (try (have a9 : 0 ≤ (a4 : Int) := od_; have b0 : a4 < (l2.length : Int) := od_; obtain ⟨b4, g1, b8, b9⟩ := at_T134 g9.out a4 a9 b0; obtain rfl : d2 = b4 := (by injection g1); replace a9 := eq_true a9; replace b0 := eq_true b0))
          repeat (go_quiet (first | (go_at_call 70; (with_reducible refine (spec_l1In.calls ((rd_T134 l2 a4).f0) 0 12000 true _ m9.out).mono ?_); rintro e w' ⟨rfl, ⟨nd, rfl⟩⟩; (try first | exact ⟨rfl, _, World.drewN_drewN _ _ _⟩ | exact ⟨rfl, _, Eq.trans (World.drewN_drewN _ _ _) (congrArg (World.drewN _) (Nat.add_assoc _ _ _))⟩)) | (go_at_call 70; (with_reducible refine (spec_l1In.calls ((rd_T134 l2 a4).f1) 0 1000000 false _ o3.out).mono ?_); rintro e w' ⟨rfl, ⟨nd, rfl⟩⟩; (try first | exact ⟨rfl, _, World.drewN_drewN _ _ _⟩ | exact ⟨rfl, _, Eq.trans (World.drewN_drewN _ _ _) (congrArg (World.drewN _) (Nat.add_assoc _ _ _))⟩))); try go_wp2_with (first | (go_at_call 70; (with_reducible refine (spec_l1In.calls ((rd_T134 l2 a4).f0) 0 12000 true _ m9.out).mono ?_); rintro e w' ⟨rfl, ⟨nd, rfl⟩⟩; (try first | exact ⟨rfl, _, World.drewN_drewN _ _ _⟩ | exact ⟨rfl, _, Eq.trans (World.drewN_drewN _ _ _) (congrArg (World.drewN _) (Nat.add_assoc _ _ _))⟩); have a9 : 0 ≤ (a4 : Int) := od_; have b0 : a4 < (l2.length : Int) := od_; obtain ⟨b4, g1, b8, b9⟩ := at_T134 g9.out a4 a9 b0; obtain rfl : d2 = b4 := (by injection g1); replace a9 := eq_true a9; replace b0 := eq_true b0) | (go_at_call 70; (with_reducible refine (spec_l1In.calls ((rd_T134 l2 a4).f1) 0 1000000 false _ o3.out).mono ?_); rintro e w' ⟨rfl, ⟨nd, rfl⟩⟩; (try first | exact ⟨rfl, _, World.drewN_drewN _ _ _⟩ | exact ⟨rfl, _, Eq.trans (World.drewN_drewN _ _ _) (congrArg (World.drewN _) (Nat.add_assoc _ _ _))⟩))))
          go_ret2
          exact ⟨by first | rfl | (simp; done) | (simp [*]; done), by repeat (first | exact Drawn0.refl _ | apply Drawn0.step)⟩
        ·replace s2 := Bool.eq_false_iff.mpr s2; subst s2
         have H1 : (some ((-2), false)) = some (r1, r2) := by rw [if_neg (show ¬ (false = true) by decide)] at H; exact H
         clear H
         have H := H1
         clear H1
         simp only [Option.some.injEq, Prod.mk.injEq] at H
         obtain ⟨rfl, rfl⟩ := H
         have d8 : 0 ≤ (a4 : Int) := od_
         have d9 : a4 < (l2.length : Int) := od_
         obtain ⟨d2, l8, j2, j3⟩ := at_T134 g9.out a4 d8 d9; cases l8; replace d8 := eq_true d8; replace d9 := eq_true d9
         go_wp2_with (first | (go_at_call 70; (with_reducible refine (spec_l1In.calls ((rd_T134 l2 a4).f0) 0 12000 false _ m9.out).mono ?_); rintro e w' ⟨rfl, ⟨nd, rfl⟩⟩; (try first | exact ⟨rfl, _, World.drewN_drewN _ _ _⟩ | exact ⟨rfl, _, Eq.trans (World.drewN_drewN _ _ _) (congrArg (World.drewN _) (Nat.add_assoc _ _ _))⟩)))
         repeat (go_quiet (first | (go_at_call 70; (with_reducible refine (spec_l1In.calls ((rd_T134 l2 a4).f0) 0 12000 false _ m9.out).mono ?_); rintro e w' ⟨rfl, ⟨nd, rfl⟩⟩; (try first | exact ⟨rfl, _, World.drewN_drewN _ _ _⟩ | exact ⟨rfl, _, Eq.trans (World.drewN_drewN _ _ _) (congrArg (World.drewN _) (Nat.add_assoc _ _ _))⟩))); try go_wp2_with (first | (go_at_call 70; (with_reducible refine (spec_l1In.calls ((rd_T134 l2 a4).f0) 0 12000 false _ m9.out).mono ?_); rintro e w' ⟨rfl, ⟨nd, rfl⟩⟩; (try first | exact ⟨rfl, _, World.drewN_drewN _ _ _⟩ | exact ⟨rfl, _, Eq.trans (World.drewN_drewN _ _ _) (congrArg (World.drewN _) (Nat.add_assoc _ _ _))⟩))))
         go_ret2
         exact ⟨by first | rfl | (simp; done) | (simp [*]; done), by repeat (first | exact Drawn0.refl _ | apply Drawn0.step)⟩
       ·rw [if_neg s1] at H
        exact absurd H (by simp)
      ·rw [if_neg o0] at H; have p3 : decide (a4 < (l2.length : Int)) = false := decide_eq_false o0; clear o0
       have H' := mk_ H
       clear H; go_wp2
       repeat (go_quiet (fail); try go_wp2)
       go_loopg [11] k2 (fun kq v11 w' => ∃ (a5 : Int), v11 = .int .i64 a5 ∧ Aside0 (spec_Clears.l1 kq a0 l1 l2 a3 a5 = some (r1, r2)) ∧ Aside0 (kq ≤ k2) ∧ Drawn0 w w')
       case atStart => exact ⟨(0), rf_, H', ⟨Nat.le_refl _⟩, by repeat (first | exact Drawn0.refl _ | apply Drawn0.step)⟩
       case round =>
        clear H'; (try clear c1); (try clear c2); (try clear l6); (try clear o0)
        obtain ⟨a5, rfl, HA, y9, ⟨m3, rfl⟩⟩ := hrel
        cases gk with
        | zero => exact absurd HA.out (by simp [spec_Clears.l1])
        | succ k3 =>
         have H := HA.out; clear HA
         simp only [spec_Clears.l1] at H
         by_cases o4 : a5 < (l2.length : Int)
         ·rw [if_pos o4] at H; have p6 : decide (a5 < (l2.length : Int)) = true := decide_eq_true o4; clear o4; by_cases s4 : 0 ≤ a5
          ·rw [if_pos s4] at H; have A3 : decide (0 ≤ a5) = true := decide_eq_true s4; clear s4; replace H := Option.bind_eq_some_iff.mp H; obtain ⟨d4, p7, H⟩ := H
           replace H : (if (wrap64 (d4 - ((rd_T134 l2 a5).f1))) < a3 then (some (a5, true)) else (spec_Clears.l1 k3 a0 l1 l2 a3 (wrap64 (a5 + 1)))) = some (r1, r2) := H
           have o5 := mk_ p7; clear p7; by_cases o6 : (wrap64 (d4 - ((rd_T134 l2 a5).f1))) < a3
           ·rw [if_pos o6] at H; have p8 : decide ((wrap64 (d4 - ((rd_T134 l2 a5).f1))) < a3) = true := decide_eq_true o6; clear o6
            simp only [Option.some.injEq, Prod.mk.injEq] at H
            obtain ⟨rfl, rfl⟩ := H
            have h5 : 0 ≤ (a5 : Int) := od_
            have h6 : a5 < (l2.length : Int) := od_
            obtain ⟨g2, o1, n0, n1⟩ := at_T134 g9.out a5 h5 h6; cases o1; replace h5 := eq_true h5; replace h6 := eq_true h6
            go_wp2_with (first | (go_at_call 107; (with_reducible refine (spec_l3High.calls k3 a0 _ _ l1 ((rd_T134 l2 a5).f0) d4 _ ?a6 ?a7 o5.out).mono ?_); (case a6 => exact cw_ d5.out); (case a7 => exact g7.out); rintro e w' ⟨rfl, ⟨nd, rfl⟩⟩; (try first | exact ⟨rfl, _, World.drewN_drewN _ _ _⟩ | exact ⟨rfl, _, Eq.trans (World.drewN_drewN _ _ _) (congrArg (World.drewN _) (Nat.add_assoc _ _ _))⟩); have b1 : 0 ≤ (a5 : Int) := od_; have b2 : a5 < (l2.length : Int) := od_; obtain ⟨b5, g3, c9, d0⟩ := at_T134 g9.out a5 b1 b2; obtain rfl : g2 = b5 := (by injection g3); replace b1 := eq_true b1; replace b2 := eq_true b2))
            (try (have b1 : 0 ≤ (a5 : Int) := od_; have b2 : a5 < (l2.length : Int) := od_; obtain ⟨b5, g3, c9, d0⟩ := at_T134 g9.out a5 b1 b2; obtain rfl : g2 = b5 := (by injection g3); replace b1 := eq_true b1; replace b2 := eq_true b2))
            repeat (go_quiet (first | (go_at_call 107; (with_reducible refine (spec_l3High.calls k3 a0 _ _ l1 ((rd_T134 l2 a5).f0) d4 _ ?a6 ?a7 o5.out).mono ?_); (case a6 => exact cw_ d5.out); (case a7 => exact g7.out); rintro e w' ⟨rfl, ⟨nd, rfl⟩⟩; (try first | exact ⟨rfl, _, World.drewN_drewN _ _ _⟩ | exact ⟨rfl, _, Eq.trans (World.drewN_drewN _ _ _) (congrArg (World.drewN _) (Nat.add_assoc _ _ _))⟩))); try go_wp2_with (first | (go_at_call 107; (with_reducible refine (spec_l3High.calls k3 a0 _ _ l1 ((rd_T134 l2 a5).f0) d4 _ ?a6 ?a7 o5.out).mono ?_); (case a6 => exact cw_ d5.out); (case a7 => exact g7.out); rintro e w' ⟨rfl, ⟨nd, rfl⟩⟩; (try first | exact ⟨rfl, _, World.drewN_drewN _ _ _⟩ | exact ⟨rfl, _, Eq.trans (World.drewN_drewN _ _ _) (congrArg (World.drewN _) (Nat.add_assoc _ _ _))⟩); have b1 : 0 ≤ (a5 : Int) := od_; have b2 : a5 < (l2.length : Int) := od_; obtain ⟨b5, g3, c9, d0⟩ := at_T134 g9.out a5 b1 b2; obtain rfl : g2 = b5 := (by injection g3); replace b1 := eq_true b1; replace b2 := eq_true b2)))
            go_ret2
            exact ⟨by first | rfl | (simp; done) | (simp [*]; done), by repeat (first | exact Drawn0.refl _ | apply Drawn0.step)⟩
           ·rw [if_neg o6] at H; have p8 : decide ((wrap64 (d4 - ((rd_T134 l2 a5).f1))) < a3) = false := decide_eq_false o6; clear o6
            have H' := mk_ H
            clear H
            have h5 : 0 ≤ (a5 : Int) := od_
            have h6 : a5 < (l2.length : Int) := od_
            obtain ⟨g2, o1, n0, n1⟩ := at_T134 g9.out a5 h5 h6; cases o1; replace h5 := eq_true h5; replace h6 := eq_true h6
            go_wp2_with (first | (go_at_call 107; (with_reducible refine (spec_l3High.calls k3 a0 _ _ l1 ((rd_T134 l2 a5).f0) d4 _ ?a6 ?a7 o5.out).mono ?_); (case a6 => exact cw_ d5.out); (case a7 => exact g7.out); rintro e w' ⟨rfl, ⟨nd, rfl⟩⟩; (try first | exact ⟨rfl, _, World.drewN_drewN _ _ _⟩ | exact ⟨rfl, _, Eq.trans (World.drewN_drewN _ _ _) (congrArg (World.drewN _) (Nat.add_assoc _ _ _))⟩); have b1 : 0 ≤ (a5 : Int) := od_; have b2 : a5 < (l2.length : Int) := od_; obtain ⟨b5, g3, c9, d0⟩ := at_T134 g9.out a5 b1 b2; obtain rfl : g2 = b5 := (by injection g3); replace b1 := eq_true b1; replace b2 := eq_true b2))
            (try (have b1 : 0 ≤ (a5 : Int) := od_; have b2 : a5 < (l2.length : Int) := od_; obtain ⟨b5, g3, c9, d0⟩ := at_T134 g9.out a5 b1 b2; obtain rfl : g2 = b5 := (by injection g3); replace b1 := eq_true b1; replace b2 := eq_true b2))
            repeat (go_quiet (first | (go_at_call 107; (with_reducible refine (spec_l3High.calls k3 a0 _ _ l1 ((rd_T134 l2 a5).f0) d4 _ ?a6 ?a7 o5.out).mono ?_); (case a6 => exact cw_ d5.out); (case a7 => exact g7.out); rintro e w' ⟨rfl, ⟨nd, rfl⟩⟩; (try first | exact ⟨rfl, _, World.drewN_drewN _ _ _⟩ | exact ⟨rfl, _, Eq.trans (World.drewN_drewN _ _ _) (congrArg (World.drewN _) (Nat.add_assoc _ _ _))⟩))); try go_wp2_with (first | (go_at_call 107; (with_reducible refine (spec_l3High.calls k3 a0 _ _ l1 ((rd_T134 l2 a5).f0) d4 _ ?a6 ?a7 o5.out).mono ?_); (case a6 => exact cw_ d5.out); (case a7 => exact g7.out); rintro e w' ⟨rfl, ⟨nd, rfl⟩⟩; (try first | exact ⟨rfl, _, World.drewN_drewN _ _ _⟩ | exact ⟨rfl, _, Eq.trans (World.drewN_drewN _ _ _) (congrArg (World.drewN _) (Nat.add_assoc _ _ _))⟩); have b1 : 0 ≤ (a5 : Int) := od_; have b2 : a5 < (l2.length : Int) := od_; obtain ⟨b5, g3, c9, d0⟩ := at_T134 g9.out a5 b1 b2; obtain rfl : g2 = b5 := (by injection g3); replace b1 := eq_true b1; replace b2 := eq_true b2)))
            go_roundg k3
            case measure => have := q9.out; have := s0.out; have := y9.out; omega
            case rel => exact ⟨(wrap64 (a5 + 1)), rf_, H', ⟨by have := q9.out; have := s0.out; have := y9.out; omega⟩, by repeat (first | exact Drawn0.refl _ | apply Drawn0.step)⟩
          ·rw [if_neg s4] at H
           exact absurd H (by simp)
         ·rw [if_neg o4] at H; have p6 : decide (a5 < (l2.length : Int)) = false := decide_eq_false o4; clear o4
          simp only [Option.some.injEq, Prod.mk.injEq] at H
          obtain ⟨rfl, rfl⟩ := H; go_wp2
          repeat (go_quiet (fail); try go_wp2)
          go_ret2
          exact ⟨by first | rfl | (simp; done) | (simp [*]; done), by repeat (first | exact Drawn0.refl _ | apply Drawn0.step)⟩

/-! ### laws_toPhase: function 108 -/
def laws_toPhase.f (a0_0 : Int) (a0_1 : Int) : Option (Int × Int) := some (a0_0, a0_1)
set_option maxHeartbeats 8000000 in
set_option maxRecDepth 100000 in
theorem laws_toPhase.calls (a0_0 : Int) (a0_1 : Int) (r1 : Int) (r2 : Int) (w : World) (h : laws_toPhase.f a0_0 a0_1 = some (r1, r2)) :
  Calls Try.prog 108 #[.agg #[.int .i64 a0_0, .int .i64 a0_1]] w fun e w' => e = .returned (.agg #[.int .i64 r1, .int .i64 r2]) ∧ Below w.heap.size w w' := by
 have A4 := Try.underlying139
 have A8 := Try.underlying137
 have HB := mk_ (Below.refl w.heap.size w)
 have H : (some (a0_0, a0_1)) = some (r1, r2) := h
 clear h
 simp only [Option.some.injEq, Prod.mk.injEq] at H
 obtain ⟨rfl, rfl⟩ := H
 go_enter Try.func108, Try.ntmps108
 go_wp2_with (first | ((with_reducible refine gd_ 1 rfl ?_); refine box_event ?hg (N := 1) ?hd (cs := #[.int .i64 a0_0, .int .i64 a0_1]) (t := 139) ?hr ?_; (case hd => rfl); (case hg => rfl); (case hr => exact hr_); intro B0 hg w2 hbox hb; have b7 := mk_ (hbox); have p9 := gb_ hg HB; replace HB := bp_ HB hb; have B1 := p9; clear hb hbox hg) | ((with_reducible refine gd_ 2 rfl ?_); refine box_event ?hg (N := 2) ?hd (cs := #[.int .i64 0, .int .i64 0]) (t := 137) ?hr ?_; (case hd => rfl); (case hg => rfl); (case hr => exact hr_); intro q0 hg w3 hbox hb; have d3 := mk_ (hbox); have q1 := gb_ hg HB; replace HB := bp_ HB hb; have q2 := q1; have g5 := nb_ hg b7; replace b7 := bl_ b7 hb; have j8 := ns_ g5; clear hb hbox hg) | ((with_reducible refine gd_ 3 rfl ?_); refine box_event ?hg (N := 3) ?hd (cs := #[.int .i64 0, .int .i64 0]) (t := 137) ?hr ?_; (case hd => rfl); (case hg => rfl); (case hr => exact hr_); intro B2 hg w4 hbox hb; have j4 := mk_ (hbox); have q3 := gb_ hg HB; replace HB := bp_ HB hb; have q4 := q3; have g6 := nb_ hg b7; replace b7 := bl_ b7 hb; have j9 := ns_ g6; have b6 := nb_ hg d3; replace d3 := bl_ d3 hb; have l3 := ns_ b6; clear hb hbox hg; have B7 := g5.out; have B8 := j8.out; have B9 := g6.out; have C0 := j9.out; have t3 := bc0_ b7; have t4 := bc1_ b7; have t5 := bf_ b7 0; have t6 := bf_ b7 1; have C1 := l3.out; have C2 := b6.out; have t7 := bc0_ j4; have t8 := bc1_ j4; have t9 := bf_ j4 0; have y5 := bf_ j4 1; have s5 := bc0_ d3; have s6 := bc1_ d3; have s7 := bf_ d3 0; have s8 := bf_ d3 1))
 refine bodyPost_ret (results_cell_row rfl _ _ q0 137 #[.int .i64 a0_0, .int .i64 a0_1] (0, 0) _ rfl (by (with_reducible repeat (first | refine blk_drewN ?_ _ | refine blk_drew ?_ | refine blk_alloc ?_ _)); refine blk_put (cs := #[.int .i64 a0_0, .int .i64 0]) ?_ 1 _ rfl; (with_reducible repeat (first | refine blk_drewN ?_ _ | refine blk_drew ?_ | refine blk_alloc ?_ _)); refine blk_put (cs := #[.int .i64 0, .int .i64 0]) ?_ 0 _ rfl; (with_reducible repeat (first | refine blk_drewN ?_ _ | refine blk_drew ?_ | refine blk_alloc ?_ _)); refine blk_far ?_ b6.out _; (with_reducible repeat (first | refine blk_drewN ?_ _ | refine blk_drew ?_ | refine blk_alloc ?_ _)); refine blk_far ?_ b6.out _; (with_reducible repeat (first | refine blk_drewN ?_ _ | refine blk_drew ?_ | refine blk_alloc ?_ _)); exact d3.out) Try.underlying137 rfl (by kernel_rfl)) rfl ?_
 exact ⟨re_, by repeat (first | (with_reducible first | exact HB.out | apply below_alloc | apply pw_below_drewN | apply below_drew1 | refine below_set ?_ q2.out | refine below_set ?_ q4.out) | exact HB.out)⟩

end Go.Proofs.Ytnphbpkpjinddaa.QFnExactClears
-- squeezed
