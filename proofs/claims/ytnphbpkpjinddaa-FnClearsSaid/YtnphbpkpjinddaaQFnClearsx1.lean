/- Lean functions that tell what the Go functions used by one law answer, and for each a proof that the Go code comes to just these answers; no condition. Printed by this session's own program over the kit's printer. -/
import Derived.Test.YtnphbpkpjinddaaWSq
import Derived.Test.YtnphbpkpjinddaaQFnClearsx0
namespace Go.Proofs.Ytnphbpkpjinddaa.QFnClears
open Go.RowKit Go.Proofs.YtnphbpkpjinddaaW.PrintWords Go.Proofs.YtnphbpkpjinddaaW.PrintLast Go.Proofs.YtnphbpkpjinddaaW.PrintMore
attribute [local go_sem] max2_int min2_int max_two min_two max_three min_three max_four min_four   -- for this text's walks alone
attribute [local go_sem high] go_eql go_neq go_lss go_leq go_gtr go_geq go_store   -- for this text's walks alone
set_option linter.unusedVariables false
set_option linter.unusedSimpArgs false

/-! ### laws_big: function 30 -/
def laws_big.f (l0 : List Int) : Option (Bool) := some (decide ((l0.length : Int) > 1048576))
set_option maxHeartbeats 8000000 in
set_option maxRecDepth 100000 in
theorem laws_big.calls (A0 : Option Addr) (c0 : Nat) (l0 : List Int) (r : Bool) (w : World) (hr0 : Kd.C (Kd.int .u8) w A0 l0.length l0) (hc0 : l0.length ≤ c0) (h : laws_big.f l0 = some r) :
  Calls Try.prog 30 #[.slice A0 l0.length c0] w fun e w' => e = .returned (.bool r) ∧ Drawn0 w w' := by
 have s1 := mk_ hr0; have s2 := mk_ hc0; clear hr0 hc0
 have H : (some (decide ((l0.length : Int) > 1048576))) = some r := h
 clear h; obtain rfl := Option.some.inj H
 go_enter Try.func30, Try.ntmps30
 go_wp2; go_ret
 exact ⟨by first | rfl | (simp; done) | (simp [*]; done), by repeat (first | exact Drawn0.refl _ | apply Drawn0.step)⟩

/-! ### spec_l1In: function 70 -/
def spec_l1In.f (a0 : Int) (a1 : Int) (a2 : Int) : Option (Bool) := if a0 ≥ a1 then (some (decide (a0 ≤ a2))) else (some false)
set_option maxHeartbeats 8000000 in
set_option maxRecDepth 100000 in
theorem spec_l1In.calls (a0 : Int) (a1 : Int) (a2 : Int) (r : Bool) (w : World) (h : spec_l1In.f a0 a1 a2 = some r) :
  Calls Try.prog 70 #[.int .i64 a0, .int .i64 a1, .int .i64 a2] w fun e w' => e = .returned (.bool r) ∧ Drawn0 w w' := by
 have H : (if a0 ≥ a1 then (some (decide (a0 ≤ a2))) else (some false)) = some r := h
 clear h; by_cases c4 : a0 ≥ a1
 ·rw [if_pos c4] at H; have h7 : decide (a1 ≤ a0) = true := decide_eq_true c4; clear c4; obtain rfl := Option.some.inj H
  go_enter Try.func70, Try.ntmps70
  go_wp2; go_ret
  exact ⟨by first | rfl | (simp; done) | (simp [*]; done), by repeat (first | exact Drawn0.refl _ | apply Drawn0.step)⟩
 ·rw [if_neg c4] at H; have h7 : decide (a1 ≤ a0) = false := decide_eq_false c4; clear c4; obtain rfl := Option.some.inj H
  go_enter Try.func70, Try.ntmps70
  go_wp2; go_ret
  exact ⟨by first | rfl | (simp; done) | (simp [*]; done), by repeat (first | exact Drawn0.refl _ | apply Drawn0.step)⟩

/-! ### spec_l3Phases: function 106 -/
def spec_l3Phases.l0 : Nat → Int → List (S137) → Int → Option (Bool)
 | 0, _, _, _ => none
 | k + 1, x0, x1, x5 => if x5 < (x1.length : Int) then (if 0 ≤ x5 then ((spec_l1In.f ((rd_T137 x1 x5).f0) (-100) 100).bind fun l9 => (if l9 = true then ((spec_l1In.f ((rd_T137 x1 x5).f1) 1 1000).bind fun m0 => (if m0 = true then (spec_l3Phases.l0 k x0 x1 (wrap64 (x5 + 1))) else (some false))) else (some false))) else (none)) else ((spec_l1In.f x0 0 100000).bind fun m4 => (if m4 = true then (some (decide ((x1.length : Int) ≤ 12))) else (some false)))
def spec_l3Phases.f (k : Nat) (a0 : Int) (l1 : List (S137)) : Option (Bool) := spec_l3Phases.l0 k a0 l1 0
theorem spec_l3Phases.mono_l : ∀ k, (∀ y0 y1 y2, LeO (spec_l3Phases.l0 k y0 y1 y2) (spec_l3Phases.l0 (k + 1) y0 y1 y2))
 | 0 => fun _ _ _ r h => by simp [spec_l3Phases.l0] at h
 | k + 1 => by
  have g1 := spec_l3Phases.mono_l k
  ·intro y0 y1 y2
   unfold spec_l3Phases.l0
   repeat' first
   | (with_reducible exact g1 _ _ _)
   | (with_reducible exact LeO.refl _)
   | (with_reducible exact LeO.none _)
   | (with_reducible refine LeO.ite ?_ ?_)
   | (with_reducible refine LeO.bind ?_ (fun _ => ?_))
   | exact g1 _ _ _
   | exact LeO.none _
   | refine LeO.ite ?_ ?_
   | refine LeO.bind ?_ (fun _ => ?_)
theorem spec_l3Phases.mono : ∀ a0 a1 k, LeO (spec_l3Phases.f k a0 a1) (spec_l3Phases.f (k + 1) a0 a1) := by
 intro a0 a1 k
 have g1 := spec_l3Phases.mono_l k
 unfold spec_l3Phases.f
 repeat' first
   | (with_reducible exact g1 _ _ _)
   | (with_reducible exact LeO.refl _)
   | (with_reducible exact LeO.none _)
   | (with_reducible refine LeO.ite ?_ ?_)
   | (with_reducible refine LeO.bind ?_ (fun _ => ?_))
   | exact g1 _ _ _
   | exact LeO.none _
   | refine LeO.ite ?_ ?_
   | refine LeO.bind ?_ (fun _ => ?_)
set_option maxHeartbeats 8000000 in
set_option maxRecDepth 100000 in
theorem spec_l3Phases.calls (k : Nat) (a0 : Int) (A1 : Option Addr) (c1 : Nat) (l1 : List (S137)) (r : Bool) (w : World) (hr1 : Kd.C k137 w A1 l1.length l1) (hc1 : l1.length ≤ c1) (h : spec_l3Phases.f k a0 l1 = some r) :
  Calls Try.prog 106 #[.int .i64 a0, .slice A1 l1.length c1] w fun e w' => e = .returned (.bool r) ∧ Drawn0 w w' := by
 have d2 := mk_ hr1; have g2 := mk_ hc1; clear hr1 hc1
 have H : (spec_l3Phases.l0 k a0 l1 0) = some r := h
 clear h
 have H' := mk_ H
 clear H
 go_enter Try.func106, Try.ntmps106
 go_wp2
 go_loopg [5] k (fun kq v5 w' => ∃ (a8 : Int), v5 = .int .i64 a8 ∧ Aside0 (spec_l3Phases.l0 kq a0 l1 a8 = some r) ∧ Aside0 (kq ≤ k) ∧ Drawn0 w w')
 case atStart => exact ⟨(0), rf_, H', ⟨Nat.le_refl _⟩, by repeat (first | exact Drawn0.refl _ | apply Drawn0.step)⟩
 case round =>
  clear H'; (try clear c1)
  obtain ⟨a8, rfl, HA, n8, ⟨m1, rfl⟩⟩ := hrel
  cases gk with
  | zero => exact absurd HA.out (by simp [spec_l3Phases.l0])
  | succ k1 =>
   have H := HA.out; clear HA
   simp only [spec_l3Phases.l0] at H
   by_cases c3 : a8 < (l1.length : Int)
   ·rw [if_pos c3] at H; have m5 : decide (a8 < (l1.length : Int)) = true := decide_eq_true c3; clear c3; by_cases c4 : 0 ≤ a8
    ·rw [if_pos c4] at H; have h7 : decide (0 ≤ a8) = true := decide_eq_true c4; clear c4; replace H := Option.bind_eq_some_iff.mp H; obtain ⟨l9, q4, H⟩ := H; (try dsimp only at H); have A5 := mk_ q4; clear q4; by_cases c6 : l9 = true
     ·subst c6; rw [if_pos rfl] at H
      replace H := Option.bind_eq_some_iff.mp H; obtain ⟨m0, q5, H⟩ := H
      (try dsimp only at H); have A7 := mk_ q5; clear q5
      by_cases c8 : m0 = true
      ·subst c8; rw [if_pos rfl] at H
       have H' := mk_ H
       clear H
       have d3 : 0 ≤ (a8 : Int) := od_
       have d4 : a8 < (l1.length : Int) := od_
       obtain ⟨g9, j2, h2, h3⟩ := at_T137 d2.out a8 d3 d4; cases j2; replace d3 := eq_true d3; replace d4 := eq_true d4
       go_wp2_with (first | ((with_reducible refine gc_ 70 rfl ?_); refine gl_ (some 17) rfl Try.func70 #[.int .i64 ((rd_T137 l1 a8).f0), .int .i64 (-100), .int .i64 100] ?_; (with_reducible refine (spec_l1In.calls ((rd_T137 l1 a8).f0) (-100) 100 true _ A5.out).mono ?_); rintro e w' ⟨rfl, ⟨nd, rfl⟩⟩; refine ⟨_, rfl, ?_⟩; have g5 : 0 ≤ (a8 : Int) := od_; have g6 : a8 < (l1.length : Int) := od_; obtain ⟨j3, m6, j7, j8⟩ := at_T137 d2.out a8 g5 g6; obtain rfl : g9 = j3 := (by injection m6); replace g5 := eq_true g5; replace g6 := eq_true g6) | (go_at_call 70; (with_reducible refine (spec_l1In.calls ((rd_T137 l1 a8).f1) 1 1000 true _ A7.out).mono ?_); rintro e w' ⟨rfl, ⟨nd, rfl⟩⟩))
       go_roundg k1
       case measure => have := n8.out; omega
       case rel => exact ⟨(wrap64 (a8 + 1)), rf_, H', ⟨by have := n8.out; omega⟩, by repeat (first | exact Drawn0.refl _ | apply Drawn0.step)⟩
      ·replace c8 := Bool.eq_false_iff.mpr c8; subst c8; rw [if_neg (show ¬ (false = true) by decide)] at H; obtain rfl := Option.some.inj H
       have d3 : 0 ≤ (a8 : Int) := od_
       have d4 : a8 < (l1.length : Int) := od_
       obtain ⟨g9, j2, h2, h3⟩ := at_T137 d2.out a8 d3 d4; cases j2; replace d3 := eq_true d3; replace d4 := eq_true d4
       go_wp2_with (first | ((with_reducible refine gc_ 70 rfl ?_); refine gl_ (some 17) rfl Try.func70 #[.int .i64 ((rd_T137 l1 a8).f0), .int .i64 (-100), .int .i64 100] ?_; (with_reducible refine (spec_l1In.calls ((rd_T137 l1 a8).f0) (-100) 100 true _ A5.out).mono ?_); rintro e w' ⟨rfl, ⟨nd, rfl⟩⟩; refine ⟨_, rfl, ?_⟩; have g5 : 0 ≤ (a8 : Int) := od_; have g6 : a8 < (l1.length : Int) := od_; obtain ⟨j3, m6, j7, j8⟩ := at_T137 d2.out a8 g5 g6; obtain rfl : g9 = j3 := (by injection m6); replace g5 := eq_true g5; replace g6 := eq_true g6) | (go_at_call 70; (with_reducible refine (spec_l1In.calls ((rd_T137 l1 a8).f1) 1 1000 false _ A7.out).mono ?_); rintro e w' ⟨rfl, ⟨nd, rfl⟩⟩))
       go_ret
       exact ⟨by first | rfl | (simp; done) | (simp [*]; done), by repeat (first | exact Drawn0.refl _ | apply Drawn0.step)⟩
     ·replace c6 := Bool.eq_false_iff.mpr c6; subst c6; rw [if_neg (show ¬ (false = true) by decide)] at H; obtain rfl := Option.some.inj H
      have d3 : 0 ≤ (a8 : Int) := od_
      have d4 : a8 < (l1.length : Int) := od_
      obtain ⟨g9, j2, h2, h3⟩ := at_T137 d2.out a8 d3 d4; cases j2; replace d3 := eq_true d3; replace d4 := eq_true d4
      go_wp2_with (first | ((with_reducible refine gc_ 70 rfl ?_); refine gl_ (some 17) rfl Try.func70 #[.int .i64 ((rd_T137 l1 a8).f0), .int .i64 (-100), .int .i64 100] ?_; (with_reducible refine (spec_l1In.calls ((rd_T137 l1 a8).f0) (-100) 100 false _ A5.out).mono ?_); rintro e w' ⟨rfl, ⟨nd, rfl⟩⟩; refine ⟨_, rfl, ?_⟩))
      go_ret
      exact ⟨by first | rfl | (simp; done) | (simp [*]; done), by repeat (first | exact Drawn0.refl _ | apply Drawn0.step)⟩
    ·rw [if_neg c4] at H
     exact absurd H (by simp)
   ·rw [if_neg c3] at H; have m5 : decide (a8 < (l1.length : Int)) = false := decide_eq_false c3; clear c3; replace H := Option.bind_eq_some_iff.mp H; obtain ⟨m4, n9, H⟩ := H; (try dsimp only at H); have A9 := mk_ n9; clear n9; by_cases j4 : m4 = true
    ·subst j4; rw [if_pos rfl] at H
     obtain rfl := Option.some.inj H
     go_wp2_with (first | ((with_reducible refine gc_ 70 rfl ?_); refine gl_ (some 29) rfl Try.func70 #[.int .i64 a0, .int .i64 0, .int .i64 100000] ?_; (with_reducible refine (spec_l1In.calls a0 0 100000 true _ A9.out).mono ?_); rintro e w' ⟨rfl, ⟨nd, rfl⟩⟩; refine ⟨_, rfl, ?_⟩))
     go_ret
     exact ⟨by first | rfl | (simp; done) | (simp [*]; done), by repeat (first | exact Drawn0.refl _ | apply Drawn0.step)⟩
    ·replace j4 := Bool.eq_false_iff.mpr j4; subst j4; rw [if_neg (show ¬ (false = true) by decide)] at H; obtain rfl := Option.some.inj H
     go_wp2_with (first | ((with_reducible refine gc_ 70 rfl ?_); refine gl_ (some 29) rfl Try.func70 #[.int .i64 a0, .int .i64 0, .int .i64 100000] ?_; (with_reducible refine (spec_l1In.calls a0 0 100000 false _ A9.out).mono ?_); rintro e w' ⟨rfl, ⟨nd, rfl⟩⟩; refine ⟨_, rfl, ?_⟩))
     go_ret
     exact ⟨by first | rfl | (simp; done) | (simp [*]; done), by repeat (first | exact Drawn0.refl _ | apply Drawn0.step)⟩

/-! ### spec_l1Min: function 83 -/
def spec_l1Min.f (a0 : Int) (a1 : Int) : Option (Int) := if a0 < a1 then (some a0) else (some a1)
set_option maxHeartbeats 8000000 in
set_option maxRecDepth 100000 in
theorem spec_l1Min.calls (a0 : Int) (a1 : Int) (r : Int) (w : World) (h : spec_l1Min.f a0 a1 = some r) :
  Calls Try.prog 83 #[.int .i64 a0, .int .i64 a1] w fun e w' => e = .returned (.int .i64 r) ∧ Drawn0 w w' := by
 have H : (if a0 < a1 then (some a0) else (some a1)) = some r := h
 clear h; by_cases c3 : a0 < a1
 ·rw [if_pos c3] at H; have m5 : decide (a0 < a1) = true := decide_eq_true c3; clear c3; obtain rfl := Option.some.inj H
  go_enter Try.func83, Try.ntmps83
  go_wp2; go_ret
  exact ⟨by first | rfl | (simp; done) | (simp [*]; done), by repeat (first | exact Drawn0.refl _ | apply Drawn0.step)⟩
 ·rw [if_neg c3] at H; have m5 : decide (a0 < a1) = false := decide_eq_false c3; clear c3; obtain rfl := Option.some.inj H
  go_enter Try.func83, Try.ntmps83
  go_wp2; go_ret
  exact ⟨by first | rfl | (simp; done) | (simp [*]; done), by repeat (first | exact Drawn0.refl _ | apply Drawn0.step)⟩

/-! ### spec_l3High: function 107 -/
def spec_l3High.l0 : Nat → Int → List (S137) → Int → Int → Option (Int)
 | 0, _, _, _, _ => none
 | k + 1, x0, x1, x2, x7 => if x7 < (x1.length : Int) then (if 0 ≤ x7 then ((spec_l1Min.f x2 ((rd_T137 x1 x7).f1)).bind fun h8 => (spec_l3High.l0 k (wrap64 (x0 + (wrap64 (((rd_T137 x1 x7).f0) * h8)))) x1 (wrap64 (x2 - h8)) (wrap64 (x7 + 1)))) else (none)) else (some x0)
def spec_l3High.f (k : Nat) (a0 : Int) (l1 : List (S137)) (a2 : Int) : Option (Int) := spec_l3High.l0 k a0 l1 a2 0
theorem spec_l3High.mono_l : ∀ k, (∀ y0 y1 y2 y3, LeO (spec_l3High.l0 k y0 y1 y2 y3) (spec_l3High.l0 (k + 1) y0 y1 y2 y3))
 | 0 => fun _ _ _ _ r h => by simp [spec_l3High.l0] at h
 | k + 1 => by
  have g1 := spec_l3High.mono_l k
  ·intro y0 y1 y2 y3
   unfold spec_l3High.l0
   repeat' first
   | (with_reducible exact g1 _ _ _ _)
   | (with_reducible exact LeO.refl _)
   | (with_reducible exact LeO.none _)
   | (with_reducible refine LeO.ite ?_ ?_)
   | (with_reducible refine LeO.bind ?_ (fun _ => ?_))
   | exact g1 _ _ _ _
   | exact LeO.none _
   | refine LeO.ite ?_ ?_
   | refine LeO.bind ?_ (fun _ => ?_)
theorem spec_l3High.mono : ∀ a0 a1 a2 k, LeO (spec_l3High.f k a0 a1 a2) (spec_l3High.f (k + 1) a0 a1 a2) := by
 intro a0 a1 a2 k
 have g1 := spec_l3High.mono_l k
 unfold spec_l3High.f
 repeat' first
   | (with_reducible exact g1 _ _ _ _)
   | (with_reducible exact LeO.refl _)
   | (with_reducible exact LeO.none _)
   | (with_reducible refine LeO.ite ?_ ?_)
   | (with_reducible refine LeO.bind ?_ (fun _ => ?_))
   | exact g1 _ _ _ _
   | exact LeO.none _
   | refine LeO.ite ?_ ?_
   | refine LeO.bind ?_ (fun _ => ?_)
set_option maxHeartbeats 8000000 in
set_option maxRecDepth 100000 in
theorem spec_l3High.calls (k : Nat) (a0 : Int) (A1 : Option Addr) (c1 : Nat) (l1 : List (S137)) (a2 : Int) (r : Int) (w : World) (hr1 : Kd.C k137 w A1 l1.length l1) (hc1 : l1.length ≤ c1) (h : spec_l3High.f k a0 l1 a2 = some r) :
  Calls Try.prog 107 #[.int .i64 a0, .slice A1 l1.length c1, .int .i64 a2] w fun e w' => e = .returned (.int .i64 r) ∧ Drawn0 w w' := by
 have d2 := mk_ hr1; have g2 := mk_ hc1; clear hr1 hc1
 have H : (spec_l3High.l0 k a0 l1 a2 0) = some r := h
 clear h
 have H' := mk_ H
 clear H
 go_enter Try.func107, Try.ntmps107
 go_wp2
 go_loopg [0, 2, 7] k (fun kq v0 v2 v7 w' => ∃ (j9 : Int) (h9 : Int) (b3 : Int), v0 = .int .i64 j9 ∧ v2 = .int .i64 h9 ∧ v7 = .int .i64 b3 ∧ Aside0 (spec_l3High.l0 kq j9 l1 h9 b3 = some r) ∧ Aside0 (kq ≤ k) ∧ Drawn0 w w')
 case atStart => exact ⟨(a0), (a2), (0), rf_, rf_, rf_, H', ⟨Nat.le_refl _⟩, by repeat (first | exact Drawn0.refl _ | apply Drawn0.step)⟩
 case round =>
  clear H'; (try clear c1)
  obtain ⟨j9, h9, b3, rfl, rfl, rfl, HA, n8, ⟨m1, rfl⟩⟩ := hrel
  cases gk with
  | zero => exact absurd HA.out (by simp [spec_l3High.l0])
  | succ k1 =>
   have H := HA.out; clear HA
   simp only [spec_l3High.l0] at H
   by_cases c4 : b3 < (l1.length : Int)
   ·rw [if_pos c4] at H; have h7 : decide (b3 < (l1.length : Int)) = true := decide_eq_true c4; clear c4; by_cases c5 : 0 ≤ b3
    ·rw [if_pos c5] at H; have q9 : decide (0 ≤ b3) = true := decide_eq_true c5; clear c5; replace H := Option.bind_eq_some_iff.mp H; obtain ⟨h8, o0, H⟩ := H; (try dsimp only at H); have A6 := mk_ o0; clear o0
     have H' := mk_ H
     clear H
     have m7 : 0 ≤ (b3 : Int) := od_
     have m8 : b3 < (l1.length : Int) := od_
     obtain ⟨o1, q0, p0, p1⟩ := at_T137 d2.out b3 m7 m8; cases q0; replace m7 := eq_true m7; replace m8 := eq_true m8
     go_wp2_with (first | ((with_reducible refine gc_ 83 rfl ?_); refine gl_ (some 21) rfl Try.func83 #[.int .i64 h9, .int .i64 ((rd_T137 l1 b3).f1)] ?_; (with_reducible refine (spec_l1Min.calls h9 ((rd_T137 l1 b3).f1) h8 _ A6.out).mono ?_); rintro e w' ⟨rfl, ⟨nd, rfl⟩⟩; refine ⟨_, rfl, ?_⟩; have m9 : 0 ≤ (b3 : Int) := od_; have n0 : b3 < (l1.length : Int) := od_; obtain ⟨o2, q1, p2, p3⟩ := at_T137 d2.out b3 m9 n0; obtain rfl : o1 = o2 := (by injection q1); replace m9 := eq_true m9; replace n0 := eq_true n0))
     go_roundg k1
     case measure => have := n8.out; omega
     case rel => exact ⟨(wrap64 (j9 + (wrap64 (((rd_T137 l1 b3).f0) * h8)))), (wrap64 (h9 - h8)), (wrap64 (b3 + 1)), rf_, rf_, rf_, H', ⟨by have := n8.out; omega⟩, by repeat (first | exact Drawn0.refl _ | apply Drawn0.step)⟩
    ·rw [if_neg c5] at H
     exact absurd H (by simp)
   ·rw [if_neg c4] at H; have h7 : decide (b3 < (l1.length : Int)) = false := decide_eq_false c4; clear c4; obtain rfl := Option.some.inj H; go_wp2; go_ret
    exact ⟨by first | rfl | (simp; done) | (simp [*]; done), by repeat (first | exact Drawn0.refl _ | apply Drawn0.step)⟩

/-! ### spec_Clears: function 53 -/
mutual
def spec_Clears.j0 : Nat → Int → List (S137) → List (S134) → Int → Bool → Option (Int × Bool)
 | 0, _, _, _, _, _ => none
 | k + 1, x0, x1, x2, x3, s0 => if s0 = true then (some ((-2), false)) else (spec_Clears.l0 k x0 x1 x2 x3 0)
def spec_Clears.l0 : Nat → Int → List (S137) → List (S134) → Int → Int → Option (Int × Bool)
 | 0, _, _, _, _, _ => none
 | k + 1, x0, x1, x2, x3, o3 => if o3 < (x2.length : Int) then (if 0 ≤ o3 then ((spec_l1In.f ((rd_T134 x2 o3).f0) 0 12000).bind fun l3 => (if l3 = true then ((spec_l1In.f ((rd_T134 x2 o3).f1) 0 1000000).bind fun g3 => (if g3 = true then (spec_Clears.l0 k x0 x1 x2 x3 (wrap64 (o3 + 1))) else (some ((-2), false)))) else (some ((-2), false)))) else (none)) else (spec_Clears.l1 k x0 x1 x2 x3 0)
def spec_Clears.l1 : Nat → Int → List (S137) → List (S134) → Int → Int → Option (Int × Bool)
 | 0, _, _, _, _, _ => none
 | k + 1, x0, x1, x2, x3, n3 => if n3 < (x2.length : Int) then (if 0 ≤ n3 then ((spec_l3High.f k x0 x1 ((rd_T134 x2 n3).f0)).bind fun d1 => (if (wrap64 (d1 - ((rd_T134 x2 n3).f1))) < x3 then (some (n3, true)) else (spec_Clears.l1 k x0 x1 x2 x3 (wrap64 (n3 + 1))))) else (none)) else (some ((-1), true))
end
def spec_Clears.f (k : Nat) (a0 : Int) (l1 : List (S137)) (l2 : List (S134)) (a3 : Int) : Option (Int × Bool) := (spec_l3Phases.f k a0 l1).bind fun j1 => (if j1 = true then (if (l2.length : Int) > 20 then (spec_Clears.j0 k a0 l1 l2 a3 true) else ((spec_l1In.f a3 0 1000).bind fun c9 => (spec_Clears.j0 k a0 l1 l2 a3 (!c9)))) else (spec_Clears.j0 k a0 l1 l2 a3 true))
theorem spec_Clears.mono_l : ∀ k, (∀ y0 y1 y2 y3 y4, LeO (spec_Clears.j0 k y0 y1 y2 y3 y4) (spec_Clears.j0 (k + 1) y0 y1 y2 y3 y4)) ∧ (∀ y0 y1 y2 y3 y4, LeO (spec_Clears.l0 k y0 y1 y2 y3 y4) (spec_Clears.l0 (k + 1) y0 y1 y2 y3 y4)) ∧ (∀ y0 y1 y2 y3 y4, LeO (spec_Clears.l1 k y0 y1 y2 y3 y4) (spec_Clears.l1 (k + 1) y0 y1 y2 y3 y4))
 | 0 => ⟨fun _ _ _ _ _ r h => by simp [spec_Clears.j0] at h, fun _ _ _ _ _ r h => by simp [spec_Clears.l0] at h, fun _ _ _ _ _ r h => by simp [spec_Clears.l1] at h⟩
 | k + 1 => by
  obtain ⟨g1, l4, l5⟩ := spec_Clears.mono_l k
  refine ⟨?_, ?_, ?_⟩
  ·intro y0 y1 y2 y3 y4
   unfold spec_Clears.j0
   repeat' first
   | (with_reducible exact g1 _ _ _ _ _)
   | (with_reducible exact l4 _ _ _ _ _)
   | (with_reducible exact l5 _ _ _ _ _)
   | (with_reducible exact spec_l3High.mono _ _ _ _)
   | (with_reducible exact spec_l3Phases.mono _ _ _)
   | (with_reducible exact LeO.refl _)
   | (with_reducible exact LeO.none _)
   | (with_reducible refine LeO.ite ?_ ?_)
   | (with_reducible refine LeO.bind ?_ (fun _ => ?_))
   | exact g1 _ _ _ _ _
   | exact l4 _ _ _ _ _
   | exact l5 _ _ _ _ _
   | exact spec_l3High.mono _ _ _ _
   | exact spec_l3Phases.mono _ _ _
   | exact LeO.none _
   | refine LeO.ite ?_ ?_
   | refine LeO.bind ?_ (fun _ => ?_)
  ·intro y0 y1 y2 y3 y4
   unfold spec_Clears.l0
   repeat' first
   | (with_reducible exact g1 _ _ _ _ _)
   | (with_reducible exact l4 _ _ _ _ _)
   | (with_reducible exact l5 _ _ _ _ _)
   | (with_reducible exact spec_l3High.mono _ _ _ _)
   | (with_reducible exact spec_l3Phases.mono _ _ _)
   | (with_reducible exact LeO.refl _)
   | (with_reducible exact LeO.none _)
   | (with_reducible refine LeO.ite ?_ ?_)
   | (with_reducible refine LeO.bind ?_ (fun _ => ?_))
   | exact g1 _ _ _ _ _
   | exact l4 _ _ _ _ _
   | exact l5 _ _ _ _ _
   | exact spec_l3High.mono _ _ _ _
   | exact spec_l3Phases.mono _ _ _
   | exact LeO.none _
   | refine LeO.ite ?_ ?_
   | refine LeO.bind ?_ (fun _ => ?_)
  ·intro y0 y1 y2 y3 y4
   unfold spec_Clears.l1
   repeat' first
   | (with_reducible exact g1 _ _ _ _ _)
   | (with_reducible exact l4 _ _ _ _ _)
   | (with_reducible exact l5 _ _ _ _ _)
   | (with_reducible exact spec_l3High.mono _ _ _ _)
   | (with_reducible exact spec_l3Phases.mono _ _ _)
   | (with_reducible exact LeO.refl _)
   | (with_reducible exact LeO.none _)
   | (with_reducible refine LeO.ite ?_ ?_)
   | (with_reducible refine LeO.bind ?_ (fun _ => ?_))
   | exact g1 _ _ _ _ _
   | exact l4 _ _ _ _ _
   | exact l5 _ _ _ _ _
   | exact spec_l3High.mono _ _ _ _
   | exact spec_l3Phases.mono _ _ _
   | exact LeO.none _
   | refine LeO.ite ?_ ?_
   | refine LeO.bind ?_ (fun _ => ?_)
theorem spec_Clears.mono : ∀ a0 a1 a2 a3 k, LeO (spec_Clears.f k a0 a1 a2 a3) (spec_Clears.f (k + 1) a0 a1 a2 a3) := by
 intro a0 a1 a2 a3 k
 obtain ⟨g1, l4, l5⟩ := spec_Clears.mono_l k
 unfold spec_Clears.f
 repeat' first
   | (with_reducible exact g1 _ _ _ _ _)
   | (with_reducible exact l4 _ _ _ _ _)
   | (with_reducible exact l5 _ _ _ _ _)
   | (with_reducible exact spec_l3High.mono _ _ _ _)
   | (with_reducible exact spec_l3Phases.mono _ _ _)
   | (with_reducible exact LeO.refl _)
   | (with_reducible exact LeO.none _)
   | (with_reducible refine LeO.ite ?_ ?_)
   | (with_reducible refine LeO.bind ?_ (fun _ => ?_))
   | exact g1 _ _ _ _ _
   | exact l4 _ _ _ _ _
   | exact l5 _ _ _ _ _
   | exact spec_l3High.mono _ _ _ _
   | exact spec_l3Phases.mono _ _ _
   | exact LeO.none _
   | refine LeO.ite ?_ ?_
   | refine LeO.bind ?_ (fun _ => ?_)
set_option maxHeartbeats 8000000 in
set_option maxRecDepth 100000 in
theorem spec_Clears.calls (k : Nat) (a0 : Int) (A1 : Option Addr) (c1 : Nat) (l1 : List (S137)) (A2 : Option Addr) (c2 : Nat) (l2 : List (S134)) (a3 : Int) (r1 : Int) (r2 : Bool) (w : World) (hr1 : Kd.C k137 w A1 l1.length l1) (hc1 : l1.length ≤ c1) (hr2 : Kd.C k134 w A2 l2.length l2) (hc2 : l2.length ≤ c2) (h : spec_Clears.f k a0 l1 l2 a3 = some (r1, r2)) :
  Calls Try.prog 53 #[.int .i64 a0, .slice A1 l1.length c1, .slice A2 l2.length c2, .int .i64 a3] w fun e w' => e = .returned (.tuple #[.int .i64 r1, .bool r2]) ∧ Drawn0 w w' := by
 have d2 := mk_ hr1; have g2 := mk_ hc1; clear hr1 hc1; have g4 := mk_ hr2; have s3 := mk_ hc2; clear hr2 hc2
 have H : ((spec_l3Phases.f k a0 l1).bind fun j1 => (if j1 = true then (if (l2.length : Int) > 20 then (spec_Clears.j0 k a0 l1 l2 a3 true) else ((spec_l1In.f a3 0 1000).bind fun c9 => (spec_Clears.j0 k a0 l1 l2 a3 (!c9)))) else (spec_Clears.j0 k a0 l1 l2 a3 true))) = some (r1, r2) := h
 clear h; have q2 := mk_ H; clear H
 go_enter Try.func53, Try.ntmps53
 go_upto_region 1 with (fail)
 repeat (go_quiet (fail); go_upto_region 1 with (fail))
 go_cut [25] (fun v25 wc => ∃ (kq : Nat) (h4 : Bool), v25 = .bool h4 ∧ Aside0 (spec_Clears.j0 kq a0 l1 l2 a3 h4 = some (r1, r2)) ∧ Aside0 (kq ≤ k) ∧ Drawn0 w wc)
 case first =>
  have H := q2.out; clear q2; replace H := Option.bind_eq_some_iff.mp H; obtain ⟨j1, o0, H⟩ := H
  replace H : (if j1 = true then (if (l2.length : Int) > 20 then (spec_Clears.j0 k a0 l1 l2 a3 true) else ((spec_l1In.f a3 0 1000).bind fun c9 => (spec_Clears.j0 k a0 l1 l2 a3 (!c9)))) else (spec_Clears.j0 k a0 l1 l2 a3 true)) = some (r1, r2) := H
  have A6 := mk_ o0; clear o0; by_cases c7 : j1 = true
  ·subst c7
   have H1 : (if (l2.length : Int) > 20 then (spec_Clears.j0 k a0 l1 l2 a3 true) else ((spec_l1In.f a3 0 1000).bind fun c9 => (spec_Clears.j0 k a0 l1 l2 a3 (!c9)))) = some (r1, r2) := by rw [if_pos rfl] at H; exact H
   clear H
   have H := H1
   clear H1; by_cases c8 : (l2.length : Int) > 20
   ·rw [if_pos c8] at H; have j5 : decide (20 < (l2.length : Int)) = true := decide_eq_true c8; have q3 : decide (20 < l2.length) = true := decide_eq_true (by omega); clear c8
    (first | rw [j5] | (simp only [i64_w, i32_w]; rw [j5]) | skip)
    have H' := mk_ H
    clear H
    go_wp2_with (first | (go_at_call 106; (with_reducible refine (spec_l3Phases.calls k a0 _ _ l1 true _ ?a6 ?a7 A6.out).mono ?_); (case a6 => exact cw_ d2.out); (case a7 => exact g2.out); rintro e w' ⟨rfl, ⟨nd, rfl⟩⟩; (try first | exact ⟨rfl, _, World.drewN_drewN _ _ _⟩ | exact ⟨rfl, _, Eq.trans (World.drewN_drewN _ _ _) (congrArg (World.drewN _) (Nat.add_assoc _ _ _))⟩)))
    repeat (go_quiet (first | (go_at_call 106; (with_reducible refine (spec_l3Phases.calls k a0 _ _ l1 true _ ?a6 ?a7 A6.out).mono ?_); (case a6 => exact cw_ d2.out); (case a7 => exact g2.out); rintro e w' ⟨rfl, ⟨nd, rfl⟩⟩; (try first | exact ⟨rfl, _, World.drewN_drewN _ _ _⟩ | exact ⟨rfl, _, Eq.trans (World.drewN_drewN _ _ _) (congrArg (World.drewN _) (Nat.add_assoc _ _ _))⟩))); try go_wp2_with (first | (go_at_call 106; (with_reducible refine (spec_l3Phases.calls k a0 _ _ l1 true _ ?a6 ?a7 A6.out).mono ?_); (case a6 => exact cw_ d2.out); (case a7 => exact g2.out); rintro e w' ⟨rfl, ⟨nd, rfl⟩⟩; (try first | exact ⟨rfl, _, World.drewN_drewN _ _ _⟩ | exact ⟨rfl, _, Eq.trans (World.drewN_drewN _ _ _) (congrArg (World.drewN _) (Nat.add_assoc _ _ _))⟩))))
    go_meet
    case rel => exact ⟨_, (true), rf_, H', ⟨by first | omega | exact Nat.le_refl _⟩, by repeat (first | exact Drawn0.refl _ | apply Drawn0.step)⟩
   ·rw [if_neg c8] at H; have j5 : decide (20 < (l2.length : Int)) = false := decide_eq_false c8; have q3 : decide (20 < l2.length) = false := decide_eq_false (by omega); clear c8
    (first | rw [j5] | (simp only [i64_w, i32_w]; rw [j5]) | skip)
    replace H := Option.bind_eq_some_iff.mp H; obtain ⟨c9, n9, H⟩ := H
    replace H : (spec_Clears.j0 k a0 l1 l2 a3 (!c9)) = some (r1, r2) := H
    have A9 := mk_ n9; clear n9
    have H' := mk_ H
    clear H
    go_wp2_with (first | (go_at_call 106; (with_reducible refine (spec_l3Phases.calls k a0 _ _ l1 true _ ?a6 ?a7 A6.out).mono ?_); (case a6 => exact cw_ d2.out); (case a7 => exact g2.out); rintro e w' ⟨rfl, ⟨nd, rfl⟩⟩; (try first | exact ⟨rfl, _, World.drewN_drewN _ _ _⟩ | exact ⟨rfl, _, Eq.trans (World.drewN_drewN _ _ _) (congrArg (World.drewN _) (Nat.add_assoc _ _ _))⟩)) | (go_at_call 70; (with_reducible refine (spec_l1In.calls a3 0 1000 c9 _ A9.out).mono ?_); rintro e w' ⟨rfl, ⟨nd, rfl⟩⟩; (try first | exact ⟨rfl, _, World.drewN_drewN _ _ _⟩ | exact ⟨rfl, _, Eq.trans (World.drewN_drewN _ _ _) (congrArg (World.drewN _) (Nat.add_assoc _ _ _))⟩)))
    repeat (go_quiet (first | (go_at_call 106; (with_reducible refine (spec_l3Phases.calls k a0 _ _ l1 true _ ?a6 ?a7 A6.out).mono ?_); (case a6 => exact cw_ d2.out); (case a7 => exact g2.out); rintro e w' ⟨rfl, ⟨nd, rfl⟩⟩; (try first | exact ⟨rfl, _, World.drewN_drewN _ _ _⟩ | exact ⟨rfl, _, Eq.trans (World.drewN_drewN _ _ _) (congrArg (World.drewN _) (Nat.add_assoc _ _ _))⟩)) | (go_at_call 70; (with_reducible refine (spec_l1In.calls a3 0 1000 c9 _ A9.out).mono ?_); rintro e w' ⟨rfl, ⟨nd, rfl⟩⟩; (try first | exact ⟨rfl, _, World.drewN_drewN _ _ _⟩ | exact ⟨rfl, _, Eq.trans (World.drewN_drewN _ _ _) (congrArg (World.drewN _) (Nat.add_assoc _ _ _))⟩))); try go_wp2_with (first | (go_at_call 106; (with_reducible refine (spec_l3Phases.calls k a0 _ _ l1 true _ ?a6 ?a7 A6.out).mono ?_); (case a6 => exact cw_ d2.out); (case a7 => exact g2.out); rintro e w' ⟨rfl, ⟨nd, rfl⟩⟩; (try first | exact ⟨rfl, _, World.drewN_drewN _ _ _⟩ | exact ⟨rfl, _, Eq.trans (World.drewN_drewN _ _ _) (congrArg (World.drewN _) (Nat.add_assoc _ _ _))⟩)) | (go_at_call 70; (with_reducible refine (spec_l1In.calls a3 0 1000 c9 _ A9.out).mono ?_); rintro e w' ⟨rfl, ⟨nd, rfl⟩⟩; (try first | exact ⟨rfl, _, World.drewN_drewN _ _ _⟩ | exact ⟨rfl, _, Eq.trans (World.drewN_drewN _ _ _) (congrArg (World.drewN _) (Nat.add_assoc _ _ _))⟩))))
    go_meet
    case rel => exact ⟨_, (!c9), rf_, H', ⟨by first | omega | exact Nat.le_refl _⟩, by repeat (first | exact Drawn0.refl _ | apply Drawn0.step)⟩
  ·replace c7 := Bool.eq_false_iff.mpr c7; subst c7
   have H1 : (spec_Clears.j0 k a0 l1 l2 a3 true) = some (r1, r2) := by rw [if_neg (show ¬ (false = true) by decide)] at H; exact H
   clear H
   have H := H1
   clear H1
   have H' := mk_ H
   clear H
   go_wp2_with (first | (go_at_call 106; (with_reducible refine (spec_l3Phases.calls k a0 _ _ l1 false _ ?a6 ?a7 A6.out).mono ?_); (case a6 => exact cw_ d2.out); (case a7 => exact g2.out); rintro e w' ⟨rfl, ⟨nd, rfl⟩⟩; (try first | exact ⟨rfl, _, World.drewN_drewN _ _ _⟩ | exact ⟨rfl, _, Eq.trans (World.drewN_drewN _ _ _) (congrArg (World.drewN _) (Nat.add_assoc _ _ _))⟩)))
   repeat (go_quiet (first | (go_at_call 106; (with_reducible refine (spec_l3Phases.calls k a0 _ _ l1 false _ ?a6 ?a7 A6.out).mono ?_); (case a6 => exact cw_ d2.out); (case a7 => exact g2.out); rintro e w' ⟨rfl, ⟨nd, rfl⟩⟩; (try first | exact ⟨rfl, _, World.drewN_drewN _ _ _⟩ | exact ⟨rfl, _, Eq.trans (World.drewN_drewN _ _ _) (congrArg (World.drewN _) (Nat.add_assoc _ _ _))⟩))); try go_wp2_with (first | (go_at_call 106; (with_reducible refine (spec_l3Phases.calls k a0 _ _ l1 false _ ?a6 ?a7 A6.out).mono ?_); (case a6 => exact cw_ d2.out); (case a7 => exact g2.out); rintro e w' ⟨rfl, ⟨nd, rfl⟩⟩; (try first | exact ⟨rfl, _, World.drewN_drewN _ _ _⟩ | exact ⟨rfl, _, Eq.trans (World.drewN_drewN _ _ _) (congrArg (World.drewN _) (Nat.add_assoc _ _ _))⟩))))
   go_meet
   case rel => exact ⟨_, (true), rf_, H', ⟨by first | omega | exact Nat.le_refl _⟩, by repeat (first | exact Drawn0.refl _ | apply Drawn0.step)⟩
 case rest =>
  clear q2; (try clear c1); (try clear c2)
  obtain ⟨kq, h4, rfl, HA, p4, ⟨mc4, rfl⟩⟩ := hcut
  cases kq with
  | zero => exact absurd HA.out (by simp [spec_Clears.j0])
  | succ kj4 =>
   have H := HA.out; clear HA
   simp only [spec_Clears.j0] at H
   by_cases j4 : h4 = true
   ·subst j4
    have H1 : (some ((-2), false)) = some (r1, r2) := by rw [if_pos rfl] at H; exact H
    clear H
    have H := H1
    clear H1
    simp only [Option.some.injEq, Prod.mk.injEq] at H
    obtain ⟨rfl, rfl⟩ := H; go_wp2
    repeat (go_quiet (fail); try go_wp2)
    go_ret2
    exact ⟨by first | rfl | (simp; done) | (simp [*]; done), by repeat (first | exact Drawn0.refl _ | apply Drawn0.step)⟩
   ·replace j4 := Bool.eq_false_iff.mpr j4; subst j4
    have H1 : (spec_Clears.l0 kj4 a0 l1 l2 a3 0) = some (r1, r2) := by rw [if_neg (show ¬ (false = true) by decide)] at H; exact H
    clear H
    have H := H1
    clear H1
    have H' := mk_ H
    clear H; go_wp2
    repeat (go_quiet (fail); try go_wp2)
    go_loopg [10] kj4 (fun kq v10 w' => ∃ (a4 : Int), v10 = .int .i64 a4 ∧ Aside0 (spec_Clears.l0 kq a0 l1 l2 a3 a4 = some (r1, r2)) ∧ Aside0 (kq ≤ kj4) ∧ Drawn0 w w')
    case atStart => exact ⟨(0), rf_, H', ⟨Nat.le_refl _⟩, by repeat (first | exact Drawn0.refl _ | apply Drawn0.step)⟩
    case round =>
     clear H'; (try clear c1); (try clear c2); (try clear j4)
     obtain ⟨a4, rfl, HA, p5, ⟨m2, rfl⟩⟩ := hrel
     cases gk with
     | zero => exact absurd HA.out (by simp [spec_Clears.l0])
     | succ k2 =>
      have H := HA.out; clear HA
      simp only [spec_Clears.l0] at H
      by_cases n1 : a4 < (l2.length : Int)
      ·rw [if_pos n1] at H; have o4 : decide (a4 < (l2.length : Int)) = true := decide_eq_true n1; clear n1; by_cases p6 : 0 ≤ a4
       ·rw [if_pos p6] at H; have q6 : decide (0 ≤ a4) = true := decide_eq_true p6; clear p6; replace H := Option.bind_eq_some_iff.mp H; obtain ⟨l3, o5, H⟩ := H
        replace H : (if l3 = true then ((spec_l1In.f ((rd_T134 l2 a4).f1) 0 1000000).bind fun g3 => (if g3 = true then (spec_Clears.l0 k2 a0 l1 l2 a3 (wrap64 (a4 + 1))) else (some ((-2), false)))) else (some ((-2), false))) = some (r1, r2) := H
        have l6 := mk_ o5; clear o5; by_cases p7 : l3 = true
        ·subst p7
         have H1 : ((spec_l1In.f ((rd_T134 l2 a4).f1) 0 1000000).bind fun g3 => (if g3 = true then (spec_Clears.l0 k2 a0 l1 l2 a3 (wrap64 (a4 + 1))) else (some ((-2), false)))) = some (r1, r2) := by rw [if_pos rfl] at H; exact H
         clear H
         have H := H1
         clear H1; replace H := Option.bind_eq_some_iff.mp H; obtain ⟨g3, o6, H⟩ := H
         replace H : (if g3 = true then (spec_Clears.l0 k2 a0 l1 l2 a3 (wrap64 (a4 + 1))) else (some ((-2), false))) = some (r1, r2) := H
         have n4 := mk_ o6; clear o6; by_cases p8 : g3 = true
         ·subst p8
          have H1 : (spec_Clears.l0 k2 a0 l1 l2 a3 (wrap64 (a4 + 1))) = some (r1, r2) := by rw [if_pos rfl] at H; exact H
          clear H
          have H := H1
          clear H1
          have H' := mk_ H
          clear H
          have d5 : 0 ≤ (a4 : Int) := od_
          have d6 : a4 < (l2.length : Int) := od_
          obtain ⟨d0, j6, h5, h6⟩ := at_T134 g4.out a4 d5 d6; cases j6; replace d5 := eq_true d5; replace d6 := eq_true d6
          go_wp2_with (first | (go_at_call 70; (with_reducible refine (spec_l1In.calls ((rd_T134 l2 a4).f0) 0 12000 true _ l6.out).mono ?_); rintro e w' ⟨rfl, ⟨nd, rfl⟩⟩; (try first | exact ⟨rfl, _, World.drewN_drewN _ _ _⟩ | exact ⟨rfl, _, Eq.trans (World.drewN_drewN _ _ _) (congrArg (World.drewN _) (Nat.add_assoc _ _ _))⟩); have a9 : 0 ≤ (a4 : Int) := od_; have b0 : a4 < (l2.length : Int) := od_; obtain ⟨b4, d7, b6, b7⟩ := at_T134 g4.out a4 a9 b0; obtain rfl : d0 = b4 := (by injection d7); replace a9 := eq_true a9; replace b0 := eq_true b0) | (go_at_call 70; (with_reducible refine (spec_l1In.calls ((rd_T134 l2 a4).f1) 0 1000000 true _ n4.out).mono ?_); rintro e w' ⟨rfl, ⟨nd, rfl⟩⟩; (try first | exact ⟨rfl, _, World.drewN_drewN _ _ _⟩ | exact ⟨rfl, _, Eq.trans (World.drewN_drewN _ _ _) (congrArg (World.drewN _) (Nat.add_assoc _ _ _))⟩)))
          (try (have a9 : 0 ≤ (a4 : Int) := od_; have b0 : a4 < (l2.length : Int) := od_; obtain ⟨b4, d7, b6, b7⟩ := at_T134 g4.out a4 a9 b0; obtain rfl : d0 = b4 := (by injection d7); replace a9 := eq_true a9; replace b0 := eq_true b0))
          repeat (go_quiet (first | (go_at_call 70; (with_reducible refine (spec_l1In.calls ((rd_T134 l2 a4).f0) 0 12000 true _ l6.out).mono ?_); rintro e w' ⟨rfl, ⟨nd, rfl⟩⟩; (try first | exact ⟨rfl, _, World.drewN_drewN _ _ _⟩ | exact ⟨rfl, _, Eq.trans (World.drewN_drewN _ _ _) (congrArg (World.drewN _) (Nat.add_assoc _ _ _))⟩)) | (go_at_call 70; (with_reducible refine (spec_l1In.calls ((rd_T134 l2 a4).f1) 0 1000000 true _ n4.out).mono ?_); rintro e w' ⟨rfl, ⟨nd, rfl⟩⟩; (try first | exact ⟨rfl, _, World.drewN_drewN _ _ _⟩ | exact ⟨rfl, _, Eq.trans (World.drewN_drewN _ _ _) (congrArg (World.drewN _) (Nat.add_assoc _ _ _))⟩))); try go_wp2_with (first | (go_at_call 70; (with_reducible refine (spec_l1In.calls ((rd_T134 l2 a4).f0) 0 12000 true _ l6.out).mono ?_); rintro e w' ⟨rfl, ⟨nd, rfl⟩⟩; (try first | exact ⟨rfl, _, World.drewN_drewN _ _ _⟩ | exact ⟨rfl, _, Eq.trans (World.drewN_drewN _ _ _) (congrArg (World.drewN _) (Nat.add_assoc _ _ _))⟩); have a9 : 0 ≤ (a4 : Int) := od_; have b0 : a4 < (l2.length : Int) := od_; obtain ⟨b4, d7, b6, b7⟩ := at_T134 g4.out a4 a9 b0; obtain rfl : d0 = b4 := (by injection d7); replace a9 := eq_true a9; replace b0 := eq_true b0) | (go_at_call 70; (with_reducible refine (spec_l1In.calls ((rd_T134 l2 a4).f1) 0 1000000 true _ n4.out).mono ?_); rintro e w' ⟨rfl, ⟨nd, rfl⟩⟩; (try first | exact ⟨rfl, _, World.drewN_drewN _ _ _⟩ | exact ⟨rfl, _, Eq.trans (World.drewN_drewN _ _ _) (congrArg (World.drewN _) (Nat.add_assoc _ _ _))⟩))))
          go_roundg k2
          case measure => have := p4.out; have := p5.out; omega
          case rel => exact ⟨(wrap64 (a4 + 1)), rf_, H', ⟨by have := p4.out; have := p5.out; omega⟩, by repeat (first | exact Drawn0.refl _ | apply Drawn0.step)⟩
         ·replace p8 := Bool.eq_false_iff.mpr p8; subst p8
          have H1 : (some ((-2), false)) = some (r1, r2) := by rw [if_neg (show ¬ (false = true) by decide)] at H; exact H
          clear H
          have H := H1
          clear H1
          simp only [Option.some.injEq, Prod.mk.injEq] at H
          obtain ⟨rfl, rfl⟩ := H
          have d5 : 0 ≤ (a4 : Int) := od_
          have d6 : a4 < (l2.length : Int) := od_
          obtain ⟨d0, j6, h5, h6⟩ := at_T134 g4.out a4 d5 d6; cases j6; replace d5 := eq_true d5; replace d6 := eq_true d6
          go_wp2_with (first | (go_at_call 70; (with_reducible refine (spec_l1In.calls ((rd_T134 l2 a4).f0) 0 12000 true _ l6.out).mono ?_); rintro e w' ⟨rfl, ⟨nd, rfl⟩⟩; (try first | exact ⟨rfl, _, World.drewN_drewN _ _ _⟩ | exact ⟨rfl, _, Eq.trans (World.drewN_drewN _ _ _) (congrArg (World.drewN _) (Nat.add_assoc _ _ _))⟩); have a9 : 0 ≤ (a4 : Int) := od_; have b0 : a4 < (l2.length : Int) := od_; obtain ⟨b4, d7, b6, b7⟩ := at_T134 g4.out a4 a9 b0; obtain rfl : d0 = b4 := (by injection d7); replace a9 := eq_true a9; replace b0 := eq_true b0) | (go_at_call 70; (with_reducible refine (spec_l1In.calls ((rd_T134 l2 a4).f1) 0 1000000 false _ n4.out).mono ?_); rintro e w' ⟨rfl, ⟨nd, rfl⟩⟩; (try first | exact ⟨rfl, _, World.drewN_drewN _ _ _⟩ | exact ⟨rfl, _, Eq.trans (World.drewN_drewN _ _ _) (congrArg (World.drewN _) (Nat.add_assoc _ _ _))⟩)))
          (try (have a9 : 0 ≤ (a4 : Int) := od_; have b0 : a4 < (l2.length : Int) := od_; obtain ⟨b4, d7, b6, b7⟩ := at_T134 g4.out a4 a9 b0; obtain rfl : d0 = b4 := (by injection d7); replace a9 := eq_true a9; replace b0 := eq_true b0))
          repeat (go_quiet (first | (go_at_call 70; (with_reducible refine (spec_l1In.calls ((rd_T134 l2 a4).f0) 0 12000 true _ l6.out).mono ?_); rintro e w' ⟨rfl, ⟨nd, rfl⟩⟩; (try first | exact ⟨rfl, _, World.drewN_drewN _ _ _⟩ | exact ⟨rfl, _, Eq.trans (World.drewN_drewN _ _ _) (congrArg (World.drewN _) (Nat.add_assoc _ _ _))⟩)) | (go_at_call 70; (with_reducible refine (spec_l1In.calls ((rd_T134 l2 a4).f1) 0 1000000 false _ n4.out).mono ?_); rintro e w' ⟨rfl, ⟨nd, rfl⟩⟩; (try first | exact ⟨rfl, _, World.drewN_drewN _ _ _⟩ | exact ⟨rfl, _, Eq.trans (World.drewN_drewN _ _ _) (congrArg (World.drewN _) (Nat.add_assoc _ _ _))⟩))); try go_wp2_with (first | (go_at_call 70; (with_reducible refine (spec_l1In.calls ((rd_T134 l2 a4).f0) 0 12000 true _ l6.out).mono ?_); rintro e w' ⟨rfl, ⟨nd, rfl⟩⟩; (try first | exact ⟨rfl, _, World.drewN_drewN _ _ _⟩ | exact ⟨rfl, _, Eq.trans (World.drewN_drewN _ _ _) (congrArg (World.drewN _) (Nat.add_assoc _ _ _))⟩); have a9 : 0 ≤ (a4 : Int) := od_; have b0 : a4 < (l2.length : Int) := od_; obtain ⟨b4, d7, b6, b7⟩ := at_T134 g4.out a4 a9 b0; obtain rfl : d0 = b4 := (by injection d7); replace a9 := eq_true a9; replace b0 := eq_true b0) | (go_at_call 70; (with_reducible refine (spec_l1In.calls ((rd_T134 l2 a4).f1) 0 1000000 false _ n4.out).mono ?_); rintro e w' ⟨rfl, ⟨nd, rfl⟩⟩; (try first | exact ⟨rfl, _, World.drewN_drewN _ _ _⟩ | exact ⟨rfl, _, Eq.trans (World.drewN_drewN _ _ _) (congrArg (World.drewN _) (Nat.add_assoc _ _ _))⟩))))
          go_ret2
          exact ⟨by first | rfl | (simp; done) | (simp [*]; done), by repeat (first | exact Drawn0.refl _ | apply Drawn0.step)⟩
        ·replace p7 := Bool.eq_false_iff.mpr p7; subst p7
         have H1 : (some ((-2), false)) = some (r1, r2) := by rw [if_neg (show ¬ (false = true) by decide)] at H; exact H
         clear H
         have H := H1
         clear H1
         simp only [Option.some.injEq, Prod.mk.injEq] at H
         obtain ⟨rfl, rfl⟩ := H
         have d5 : 0 ≤ (a4 : Int) := od_
         have d6 : a4 < (l2.length : Int) := od_
         obtain ⟨d0, j6, h5, h6⟩ := at_T134 g4.out a4 d5 d6; cases j6; replace d5 := eq_true d5; replace d6 := eq_true d6
         go_wp2_with (first | (go_at_call 70; (with_reducible refine (spec_l1In.calls ((rd_T134 l2 a4).f0) 0 12000 false _ l6.out).mono ?_); rintro e w' ⟨rfl, ⟨nd, rfl⟩⟩; (try first | exact ⟨rfl, _, World.drewN_drewN _ _ _⟩ | exact ⟨rfl, _, Eq.trans (World.drewN_drewN _ _ _) (congrArg (World.drewN _) (Nat.add_assoc _ _ _))⟩)))
         repeat (go_quiet (first | (go_at_call 70; (with_reducible refine (spec_l1In.calls ((rd_T134 l2 a4).f0) 0 12000 false _ l6.out).mono ?_); rintro e w' ⟨rfl, ⟨nd, rfl⟩⟩; (try first | exact ⟨rfl, _, World.drewN_drewN _ _ _⟩ | exact ⟨rfl, _, Eq.trans (World.drewN_drewN _ _ _) (congrArg (World.drewN _) (Nat.add_assoc _ _ _))⟩))); try go_wp2_with (first | (go_at_call 70; (with_reducible refine (spec_l1In.calls ((rd_T134 l2 a4).f0) 0 12000 false _ l6.out).mono ?_); rintro e w' ⟨rfl, ⟨nd, rfl⟩⟩; (try first | exact ⟨rfl, _, World.drewN_drewN _ _ _⟩ | exact ⟨rfl, _, Eq.trans (World.drewN_drewN _ _ _) (congrArg (World.drewN _) (Nat.add_assoc _ _ _))⟩))))
         go_ret2
         exact ⟨by first | rfl | (simp; done) | (simp [*]; done), by repeat (first | exact Drawn0.refl _ | apply Drawn0.step)⟩
       ·rw [if_neg p6] at H
        exact absurd H (by simp)
      ·rw [if_neg n1] at H; have o4 : decide (a4 < (l2.length : Int)) = false := decide_eq_false n1; clear n1
       have H' := mk_ H
       clear H; go_wp2
       repeat (go_quiet (fail); try go_wp2)
       go_loopg [11] k2 (fun kq v11 w' => ∃ (a5 : Int), v11 = .int .i64 a5 ∧ Aside0 (spec_Clears.l1 kq a0 l1 l2 a3 a5 = some (r1, r2)) ∧ Aside0 (kq ≤ k2) ∧ Drawn0 w w')
       case atStart => exact ⟨(0), rf_, H', ⟨Nat.le_refl _⟩, by repeat (first | exact Drawn0.refl _ | apply Drawn0.step)⟩
       case round =>
        clear H'; (try clear c1); (try clear c2); (try clear j4); (try clear n1)
        obtain ⟨a5, rfl, HA, q7, ⟨m3, rfl⟩⟩ := hrel
        cases gk with
        | zero => exact absurd HA.out (by simp [spec_Clears.l1])
        | succ k3 =>
         have H := HA.out; clear HA
         simp only [spec_Clears.l1] at H
         by_cases n5 : a5 < (l2.length : Int)
         ·rw [if_pos n5] at H; have o7 : decide (a5 < (l2.length : Int)) = true := decide_eq_true n5; clear n5; by_cases p9 : 0 ≤ a5
          ·rw [if_pos p9] at H; have q8 : decide (0 ≤ a5) = true := decide_eq_true p9; clear p9; replace H := Option.bind_eq_some_iff.mp H; obtain ⟨d1, o8, H⟩ := H
           replace H : (if (wrap64 (d1 - ((rd_T134 l2 a5).f1))) < a3 then (some (a5, true)) else (spec_Clears.l1 k3 a0 l1 l2 a3 (wrap64 (a5 + 1)))) = some (r1, r2) := H
           have n6 := mk_ o8; clear o8; by_cases n7 : (wrap64 (d1 - ((rd_T134 l2 a5).f1))) < a3
           ·rw [if_pos n7] at H; have o9 : decide ((wrap64 (d1 - ((rd_T134 l2 a5).f1))) < a3) = true := decide_eq_true n7; clear n7
            simp only [Option.some.injEq, Prod.mk.injEq] at H
            obtain ⟨rfl, rfl⟩ := H
            have g7 : 0 ≤ (a5 : Int) := od_
            have g8 : a5 < (l2.length : Int) := od_
            obtain ⟨d8, n2, l7, l8⟩ := at_T134 g4.out a5 g7 g8; cases n2; replace g7 := eq_true g7; replace g8 := eq_true g8
            go_wp2_with (first | (go_at_call 107; (with_reducible refine (spec_l3High.calls k3 a0 _ _ l1 ((rd_T134 l2 a5).f0) d1 _ ?a6 ?a7 n6.out).mono ?_); (case a6 => exact cw_ d2.out); (case a7 => exact g2.out); rintro e w' ⟨rfl, ⟨nd, rfl⟩⟩; (try first | exact ⟨rfl, _, World.drewN_drewN _ _ _⟩ | exact ⟨rfl, _, Eq.trans (World.drewN_drewN _ _ _) (congrArg (World.drewN _) (Nat.add_assoc _ _ _))⟩); have b1 : 0 ≤ (a5 : Int) := od_; have b2 : a5 < (l2.length : Int) := od_; obtain ⟨b5, d9, b8, b9⟩ := at_T134 g4.out a5 b1 b2; obtain rfl : d8 = b5 := (by injection d9); replace b1 := eq_true b1; replace b2 := eq_true b2))
            (try (have b1 : 0 ≤ (a5 : Int) := od_; have b2 : a5 < (l2.length : Int) := od_; obtain ⟨b5, d9, b8, b9⟩ := at_T134 g4.out a5 b1 b2; obtain rfl : d8 = b5 := (by injection d9); replace b1 := eq_true b1; replace b2 := eq_true b2))
            repeat (go_quiet (first | (go_at_call 107; (with_reducible refine (spec_l3High.calls k3 a0 _ _ l1 ((rd_T134 l2 a5).f0) d1 _ ?a6 ?a7 n6.out).mono ?_); (case a6 => exact cw_ d2.out); (case a7 => exact g2.out); rintro e w' ⟨rfl, ⟨nd, rfl⟩⟩; (try first | exact ⟨rfl, _, World.drewN_drewN _ _ _⟩ | exact ⟨rfl, _, Eq.trans (World.drewN_drewN _ _ _) (congrArg (World.drewN _) (Nat.add_assoc _ _ _))⟩))); try go_wp2_with (first | (go_at_call 107; (with_reducible refine (spec_l3High.calls k3 a0 _ _ l1 ((rd_T134 l2 a5).f0) d1 _ ?a6 ?a7 n6.out).mono ?_); (case a6 => exact cw_ d2.out); (case a7 => exact g2.out); rintro e w' ⟨rfl, ⟨nd, rfl⟩⟩; (try first | exact ⟨rfl, _, World.drewN_drewN _ _ _⟩ | exact ⟨rfl, _, Eq.trans (World.drewN_drewN _ _ _) (congrArg (World.drewN _) (Nat.add_assoc _ _ _))⟩); have b1 : 0 ≤ (a5 : Int) := od_; have b2 : a5 < (l2.length : Int) := od_; obtain ⟨b5, d9, b8, b9⟩ := at_T134 g4.out a5 b1 b2; obtain rfl : d8 = b5 := (by injection d9); replace b1 := eq_true b1; replace b2 := eq_true b2)))
            go_ret2
            exact ⟨by first | rfl | (simp; done) | (simp [*]; done), by repeat (first | exact Drawn0.refl _ | apply Drawn0.step)⟩
           ·rw [if_neg n7] at H; have o9 : decide ((wrap64 (d1 - ((rd_T134 l2 a5).f1))) < a3) = false := decide_eq_false n7; clear n7
            have H' := mk_ H
            clear H
            have g7 : 0 ≤ (a5 : Int) := od_
            have g8 : a5 < (l2.length : Int) := od_
            obtain ⟨d8, n2, l7, l8⟩ := at_T134 g4.out a5 g7 g8; cases n2; replace g7 := eq_true g7; replace g8 := eq_true g8
            go_wp2_with (first | (go_at_call 107; (with_reducible refine (spec_l3High.calls k3 a0 _ _ l1 ((rd_T134 l2 a5).f0) d1 _ ?a6 ?a7 n6.out).mono ?_); (case a6 => exact cw_ d2.out); (case a7 => exact g2.out); rintro e w' ⟨rfl, ⟨nd, rfl⟩⟩; (try first | exact ⟨rfl, _, World.drewN_drewN _ _ _⟩ | exact ⟨rfl, _, Eq.trans (World.drewN_drewN _ _ _) (congrArg (World.drewN _) (Nat.add_assoc _ _ _))⟩); have b1 : 0 ≤ (a5 : Int) := od_; have b2 : a5 < (l2.length : Int) := od_; obtain ⟨b5, d9, b8, b9⟩ := at_T134 g4.out a5 b1 b2; obtain rfl : d8 = b5 := (by injection d9); replace b1 := eq_true b1; replace b2 := eq_true b2))
            (try (have b1 : 0 ≤ (a5 : Int) := od_; have b2 : a5 < (l2.length : Int) := od_; obtain ⟨b5, d9, b8, b9⟩ := at_T134 g4.out a5 b1 b2; obtain rfl : d8 = b5 := (by injection d9); replace b1 := eq_true b1; replace b2 := eq_true b2))
            repeat (go_quiet (first | (go_at_call 107; (with_reducible refine (spec_l3High.calls k3 a0 _ _ l1 ((rd_T134 l2 a5).f0) d1 _ ?a6 ?a7 n6.out).mono ?_); (case a6 => exact cw_ d2.out); (case a7 => exact g2.out); rintro e w' ⟨rfl, ⟨nd, rfl⟩⟩; (try first | exact ⟨rfl, _, World.drewN_drewN _ _ _⟩ | exact ⟨rfl, _, Eq.trans (World.drewN_drewN _ _ _) (congrArg (World.drewN _) (Nat.add_assoc _ _ _))⟩))); try go_wp2_with (first | (go_at_call 107; (with_reducible refine (spec_l3High.calls k3 a0 _ _ l1 ((rd_T134 l2 a5).f0) d1 _ ?a6 ?a7 n6.out).mono ?_); (case a6 => exact cw_ d2.out); (case a7 => exact g2.out); rintro e w' ⟨rfl, ⟨nd, rfl⟩⟩; (try first | exact ⟨rfl, _, World.drewN_drewN _ _ _⟩ | exact ⟨rfl, _, Eq.trans (World.drewN_drewN _ _ _) (congrArg (World.drewN _) (Nat.add_assoc _ _ _))⟩); have b1 : 0 ≤ (a5 : Int) := od_; have b2 : a5 < (l2.length : Int) := od_; obtain ⟨b5, d9, b8, b9⟩ := at_T134 g4.out a5 b1 b2; obtain rfl : d8 = b5 := (by injection d9); replace b1 := eq_true b1; replace b2 := eq_true b2)))
            go_roundg k3
            case measure => have := p4.out; have := p5.out; have := q7.out; omega
            case rel => exact ⟨(wrap64 (a5 + 1)), rf_, H', ⟨by have := p4.out; have := p5.out; have := q7.out; omega⟩, by repeat (first | exact Drawn0.refl _ | apply Drawn0.step)⟩
          ·rw [if_neg p9] at H
           exact absurd H (by simp)
         ·rw [if_neg n5] at H; have o7 : decide (a5 < (l2.length : Int)) = false := decide_eq_false n5; clear n5
          simp only [Option.some.injEq, Prod.mk.injEq] at H
          obtain ⟨rfl, rfl⟩ := H; go_wp2
          repeat (go_quiet (fail); try go_wp2)
          go_ret2
          exact ⟨by first | rfl | (simp; done) | (simp [*]; done), by repeat (first | exact Drawn0.refl _ | apply Drawn0.step)⟩

/-! ### impl_in: function 76 -/
def impl_in.f (a0 : Int) (a1 : Int) (a2 : Int) : Option (Bool) := if a0 ≥ a1 then (some (decide (a0 ≤ a2))) else (some false)
set_option maxHeartbeats 8000000 in
set_option maxRecDepth 100000 in
theorem impl_in.calls (a0 : Int) (a1 : Int) (a2 : Int) (r : Bool) (w : World) (h : impl_in.f a0 a1 a2 = some r) :
  Calls Try.prog 76 #[.int .i64 a0, .int .i64 a1, .int .i64 a2] w fun e w' => e = .returned (.bool r) ∧ Drawn0 w w' := by
 have H : (if a0 ≥ a1 then (some (decide (a0 ≤ a2))) else (some false)) = some r := h
 clear h; by_cases c4 : a0 ≥ a1
 ·rw [if_pos c4] at H; have h7 : decide (a1 ≤ a0) = true := decide_eq_true c4; clear c4; obtain rfl := Option.some.inj H
  go_enter Try.func76, Try.ntmps76
  go_wp2; go_ret
  exact ⟨by first | rfl | (simp; done) | (simp [*]; done), by repeat (first | exact Drawn0.refl _ | apply Drawn0.step)⟩
 ·rw [if_neg c4] at H; have h7 : decide (a1 ≤ a0) = false := decide_eq_false c4; clear c4; obtain rfl := Option.some.inj H
  go_enter Try.func76, Try.ntmps76
  go_wp2; go_ret
  exact ⟨by first | rfl | (simp; done) | (simp [*]; done), by repeat (first | exact Drawn0.refl _ | apply Drawn0.step)⟩

end Go.Proofs.Ytnphbpkpjinddaa.QFnClears
-- squeezed
