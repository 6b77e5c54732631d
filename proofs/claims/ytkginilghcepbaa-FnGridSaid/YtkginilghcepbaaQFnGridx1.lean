/- Lean functions that tell what the Go functions used by one law answer, and for each a proof that the Go code comes to just these answers; no condition. Printed by this session's own program over the kit's printer. -/
import Derived.Test.YtkginilghcepbaaWSq
import Derived.Test.YtkginilghcepbaaQFnGridx0
namespace Go.Proofs.Ytkginilghcepbaa.QFnGrid
open Go.RowKit Go.Proofs.YtkginilghcepbaaW.PrintWords Go.Proofs.YtkginilghcepbaaW.PrintLast Go.Proofs.YtkginilghcepbaaW.PrintMore
attribute [local go_sem] max2_int min2_int max_two min_two max_three min_three max_four min_four   -- for this text's walks alone
attribute [local go_sem high] go_eql go_neq go_lss go_leq go_gtr go_geq go_store   -- for this text's walks alone
set_option linter.unusedVariables false
set_option linter.unusedSimpArgs false

/-! ### laws_big: function 23 -/
def laws_big.f (l0 : List Int) : Option (Bool) := some (decide ((l0.length : Int) > 1048576))
set_option maxHeartbeats 8000000 in
set_option maxRecDepth 100000 in
theorem laws_big.calls (A0 : Option Addr) (c0 : Nat) (l0 : List Int) (r : Bool) (w : World) (hr0 : Kd.C (Kd.int .u8) w A0 l0.length l0) (hc0 : l0.length ≤ c0) (h : laws_big.f l0 = some r) :
  Calls Try.prog 23 #[.slice A0 l0.length c0] w fun e w' => e = .returned (.bool r) ∧ Drawn0 w w' := by
 have d8 := mk_ hr0; have o1 := mk_ hc0; clear hr0 hc0
 have H : (some (decide ((l0.length : Int) > 1048576))) = some r := h
 clear h; obtain rfl := Option.some.inj H
 go_enter Try.func23, Try.ntmps23
 go_wp2; go_ret
 exact ⟨by first | rfl | (simp; done) | (simp [*]; done), by repeat (first | exact Drawn0.refl _ | apply Drawn0.step)⟩

/-! ### laws_at: function 24 -/
def laws_at.f (l0 : List Int) (a1 : Int) : Option (Int) := if a1 < (l0.length : Int) then (if 0 ≤ a1 then (some (wrap64 (rd l0 a1))) else (none)) else (some (Int.tmod (wrap64 ((wrap64 (a1 * 7)) + (l0.length : Int))) 256))
set_option maxHeartbeats 8000000 in
set_option maxRecDepth 100000 in
theorem laws_at.calls (A0 : Option Addr) (c0 : Nat) (l0 : List Int) (a1 : Int) (r : Int) (w : World) (hr0 : Kd.C (Kd.int .u8) w A0 l0.length l0) (hc0 : l0.length ≤ c0) (h : laws_at.f l0 a1 = some r) :
  Calls Try.prog 24 #[.slice A0 l0.length c0, .int .i64 a1] w fun e w' => e = .returned (.int .i64 r) ∧ Drawn0 w w' := by
 have d8 := mk_ hr0; have o1 := mk_ hc0; clear hr0 hc0
 have H : (if a1 < (l0.length : Int) then (if 0 ≤ a1 then (some (wrap64 (rd l0 a1))) else (none)) else (some (Int.tmod (wrap64 ((wrap64 (a1 * 7)) + (l0.length : Int))) 256))) = some r := h
 clear h; by_cases c3 : a1 < (l0.length : Int)
 ·rw [if_pos c3] at H; have j5 : decide (a1 < (l0.length : Int)) = true := decide_eq_true c3; clear c3; by_cases c4 : 0 ≤ a1
  ·rw [if_pos c4] at H; have d4 : decide (0 ≤ a1) = true := decide_eq_true c4; clear c4; obtain rfl := Option.some.inj H
   have j6 : 0 ≤ (a1 : Int) := od_
   have j7 : a1 < (l0.length : Int) := od_
   obtain ⟨B6, A4, o2⟩ := Kd.at_int d8.out a1 j6 j7; cases A4; replace j6 := eq_true j6; replace j7 := eq_true j7
   go_enter Try.func24, Try.ntmps24
   go_wp2; go_ret
   exact ⟨by first | rfl | (simp; done) | (simp [*]; done), by repeat (first | exact Drawn0.refl _ | apply Drawn0.step)⟩
  ·rw [if_neg c4] at H
   exact absurd H (by simp)
 ·rw [if_neg c3] at H; have j5 : decide (a1 < (l0.length : Int)) = false := decide_eq_false c3; clear c3; obtain rfl := Option.some.inj H
  go_enter Try.func24, Try.ntmps24
  go_wp2; go_ret
  exact ⟨by first | rfl | (simp; done) | (simp [*]; done), by repeat (first | exact Drawn0.refl _ | apply Drawn0.step)⟩

/-! ### impl_in: function 65 -/
def impl_in.f (a0 : Int) (a1 : Int) (a2 : Int) : Option (Bool) := if a0 ≥ a1 then (some (decide (a0 ≤ a2))) else (some false)
set_option maxHeartbeats 8000000 in
set_option maxRecDepth 100000 in
theorem impl_in.calls (a0 : Int) (a1 : Int) (a2 : Int) (r : Bool) (w : World) (h : impl_in.f a0 a1 a2 = some r) :
  Calls Try.prog 65 #[.int .i64 a0, .int .i64 a1, .int .i64 a2] w fun e w' => e = .returned (.bool r) ∧ Drawn0 w w' := by
 have H : (if a0 ≥ a1 then (some (decide (a0 ≤ a2))) else (some false)) = some r := h
 clear h; by_cases c4 : a0 ≥ a1
 ·rw [if_pos c4] at H; have d4 : decide (a1 ≤ a0) = true := decide_eq_true c4; clear c4; obtain rfl := Option.some.inj H
  go_enter Try.func65, Try.ntmps65
  go_wp2; go_ret
  exact ⟨by first | rfl | (simp; done) | (simp [*]; done), by repeat (first | exact Drawn0.refl _ | apply Drawn0.step)⟩
 ·rw [if_neg c4] at H; have d4 : decide (a1 ≤ a0) = false := decide_eq_false c4; clear c4; obtain rfl := Option.some.inj H
  go_enter Try.func65, Try.ntmps65
  go_wp2; go_ret
  exact ⟨by first | rfl | (simp; done) | (simp [*]; done), by repeat (first | exact Drawn0.refl _ | apply Drawn0.step)⟩

/-! ### impl_allIn: function 55 -/
def impl_allIn.l0 : Nat → Int → Int → List Int → Int → Int → Option (Bool)
 | 0, _, _, _, _, _ => none
 | k + 1, x1, x2, x9, m3, d5 => if d5 < m3 then (if 0 ≤ d5 then (if d5 < (x9.length : Int) then ((impl_in.f (rd x9 d5) x1 x2).bind fun j8 => (if j8 = true then (impl_allIn.l0 k x1 x2 x9 m3 (wrap64 (d5 + 1))) else (some false))) else (none)) else (none)) else (some true)
def impl_allIn.f (k : Nat) (l0 : List Int) (a1 : Int) (a2 : Int) : Option (Bool) := impl_allIn.l0 k a1 a2 l0 (l0.length : Int) 0
theorem impl_allIn.mono_l : ∀ k, (∀ y0 y1 y2 y3 y4, LeO (impl_allIn.l0 k y0 y1 y2 y3 y4) (impl_allIn.l0 (k + 1) y0 y1 y2 y3 y4))
 | 0 => fun _ _ _ _ _ r h => by simp [impl_allIn.l0] at h
 | k + 1 => by
  have c1 := impl_allIn.mono_l k
  ·intro y0 y1 y2 y3 y4
   unfold impl_allIn.l0
   repeat' first
   | (with_reducible exact c1 _ _ _ _ _)
   | (with_reducible exact LeO.refl _)
   | (with_reducible exact LeO.none _)
   | (with_reducible refine LeO.ite ?_ ?_)
   | (with_reducible refine LeO.bind ?_ (fun _ => ?_))
   | exact c1 _ _ _ _ _
   | exact LeO.none _
   | refine LeO.ite ?_ ?_
   | refine LeO.bind ?_ (fun _ => ?_)
theorem impl_allIn.mono : ∀ a0 a1 a2 k, LeO (impl_allIn.f k a0 a1 a2) (impl_allIn.f (k + 1) a0 a1 a2) := by
 intro a0 a1 a2 k
 have c1 := impl_allIn.mono_l k
 unfold impl_allIn.f
 repeat' first
   | (with_reducible exact c1 _ _ _ _ _)
   | (with_reducible exact LeO.refl _)
   | (with_reducible exact LeO.none _)
   | (with_reducible refine LeO.ite ?_ ?_)
   | (with_reducible refine LeO.bind ?_ (fun _ => ?_))
   | exact c1 _ _ _ _ _
   | exact LeO.none _
   | refine LeO.ite ?_ ?_
   | refine LeO.bind ?_ (fun _ => ?_)
set_option maxHeartbeats 8000000 in
set_option maxRecDepth 100000 in
theorem impl_allIn.calls (k : Nat) (A0 : Option Addr) (c0 : Nat) (l0 : List Int) (a1 : Int) (a2 : Int) (r : Bool) (w : World) (hr0 : Kd.C (Kd.int .i64) w A0 l0.length l0) (hc0 : l0.length ≤ c0) (h : impl_allIn.f k l0 a1 a2 = some r) :
  Calls Try.prog 55 #[.slice A0 l0.length c0, .int .i64 a1, .int .i64 a2] w fun e w' => e = .returned (.bool r) ∧ Drawn0 w w' := by
 have d8 := mk_ hr0; have o1 := mk_ hc0; clear hr0 hc0
 have H : (impl_allIn.l0 k a1 a2 l0 (l0.length : Int) 0) = some r := h
 clear h
 have H' := mk_ H
 clear H
 go_enter Try.func55, Try.ntmps55
 go_wp2
 go_loopg [11] k (fun kq v11 w' => ∃ (a5 : Int), v11 = .int .i64 a5 ∧ Aside0 (impl_allIn.l0 kq a1 a2 l0 (l0.length : Int) a5 = some r) ∧ Aside0 (kq ≤ k) ∧ Drawn0 w w')
 case atStart => exact ⟨(0), rf_, H', ⟨Nat.le_refl _⟩, by repeat (first | exact Drawn0.refl _ | apply Drawn0.step)⟩
 case round => as_aux_lemma =>
  clear H'
  obtain ⟨a5, rfl, HA, g8, ⟨m1, rfl⟩⟩ := hrel
  cases gk with
  | zero => exact absurd HA.out (by simp [impl_allIn.l0])
  | succ k1 =>
   have H := HA.out; clear HA
   simp only [impl_allIn.l0] at H
   by_cases c4 : a5 < (l0.length : Int)
   ·rw [if_pos c4] at H; have d4 : decide (a5 < (l0.length : Int)) = true := decide_eq_true c4; clear c4; by_cases c5 : 0 ≤ a5
    ·rw [if_pos c5] at H; have j9 : decide (0 ≤ a5) = true := decide_eq_true c5; clear c5; by_cases c6 : a5 < (l0.length : Int)
     ·rw [if_pos c6] at H; have l1 : decide (a5 < (l0.length : Int)) = true := decide_eq_true c6; clear c6; replace H := Option.bind_eq_some_iff.mp H; obtain ⟨j8, m5, H⟩ := H; (try dsimp only at H); have A7 := mk_ m5; clear m5; by_cases c8 : j8 = true
      ·subst c8; rw [if_pos rfl] at H
       have H' := mk_ H
       clear H
       have d9 : 0 ≤ (a5 : Int) := od_
       have g1 : a5 < (l0.length : Int) := od_
       obtain ⟨m6, l2, h8⟩ := Kd.at_int d8.out a5 d9 g1; cases l2; replace d9 := eq_true d9; replace g1 := eq_true g1
       go_wp2_with (first | ((with_reducible refine gc_ 65 rfl ?_); refine gl_ (some 18) rfl Try.func65 #[.int .i64 (rd l0 a5), .int .i64 a1, .int .i64 a2] ?_; (with_reducible refine (impl_in.calls (rd l0 a5) a1 a2 true _ A7.out).mono ?_); rintro e w' ⟨rfl, ⟨nd, rfl⟩⟩; refine ⟨_, rfl, ?_⟩))
       go_roundg k1
       case measure => have := g8.out; omega
       case rel => exact ⟨(wrap64 (a5 + 1)), rf_, H', ⟨by have := g8.out; omega⟩, by repeat (first | exact Drawn0.refl _ | apply Drawn0.step)⟩
      ·replace c8 := Bool.eq_false_iff.mpr c8; subst c8; rw [if_neg (show ¬ (false = true) by decide)] at H; obtain rfl := Option.some.inj H
       have d9 : 0 ≤ (a5 : Int) := od_
       have g1 : a5 < (l0.length : Int) := od_
       obtain ⟨m6, l2, h8⟩ := Kd.at_int d8.out a5 d9 g1; cases l2; replace d9 := eq_true d9; replace g1 := eq_true g1
       go_wp2_with (first | ((with_reducible refine gc_ 65 rfl ?_); refine gl_ (some 18) rfl Try.func65 #[.int .i64 (rd l0 a5), .int .i64 a1, .int .i64 a2] ?_; (with_reducible refine (impl_in.calls (rd l0 a5) a1 a2 false _ A7.out).mono ?_); rintro e w' ⟨rfl, ⟨nd, rfl⟩⟩; refine ⟨_, rfl, ?_⟩))
       go_ret
       exact ⟨by first | rfl | (simp; done) | (simp [*]; done), by repeat (first | exact Drawn0.refl _ | apply Drawn0.step)⟩
     ·rw [if_neg c6] at H
      exact absurd H (by simp)
    ·rw [if_neg c5] at H
     exact absurd H (by simp)
   ·rw [if_neg c4] at H; have d4 : decide (a5 < (l0.length : Int)) = false := decide_eq_false c4; clear c4; obtain rfl := Option.some.inj H; go_wp2; go_ret
    exact ⟨by first | rfl | (simp; done) | (simp [*]; done), by repeat (first | exact Drawn0.refl _ | apply Drawn0.step)⟩

/-! ### impl_ascends: function 69 -/
def impl_ascends.l0 : Nat → List Int → Int → Int → List Int → Int → Int → Option (Bool)
 | 0, _, _, _, _, _, _ => none
 | k + 1, x0, x1, x2, x9, m3, d5 => if d5 < m3 then (if 0 ≤ d5 then (if d5 < (x9.length : Int) then ((impl_in.f (rd x9 d5) x1 x2).bind fun l3 => (if l3 = true then (if d5 > 0 then (if 0 ≤ (wrap64 (d5 - 1)) then (if (wrap64 (d5 - 1)) < (x0.length : Int) then (if (rd x0 (wrap64 (d5 - 1))) ≥ (rd x9 d5) then (some false) else (impl_ascends.l0 k x0 x1 x2 x9 m3 (wrap64 (d5 + 1)))) else (none)) else (none)) else (impl_ascends.l0 k x0 x1 x2 x9 m3 (wrap64 (d5 + 1)))) else (some false))) else (none)) else (none)) else (some true)
def impl_ascends.f (k : Nat) (l0 : List Int) (a1 : Int) (a2 : Int) : Option (Bool) := impl_ascends.l0 k l0 a1 a2 l0 (l0.length : Int) 0
theorem impl_ascends.mono_l : ∀ k, (∀ y0 y1 y2 y3 y4 y5, LeO (impl_ascends.l0 k y0 y1 y2 y3 y4 y5) (impl_ascends.l0 (k + 1) y0 y1 y2 y3 y4 y5))
 | 0 => fun _ _ _ _ _ _ r h => by simp [impl_ascends.l0] at h
 | k + 1 => by
  have c1 := impl_ascends.mono_l k
  ·intro y0 y1 y2 y3 y4 y5
   unfold impl_ascends.l0
   repeat' first
   | (with_reducible exact c1 _ _ _ _ _ _)
   | (with_reducible exact LeO.refl _)
   | (with_reducible exact LeO.none _)
   | (with_reducible refine LeO.ite ?_ ?_)
   | (with_reducible refine LeO.bind ?_ (fun _ => ?_))
   | exact c1 _ _ _ _ _ _
   | exact LeO.none _
   | refine LeO.ite ?_ ?_
   | refine LeO.bind ?_ (fun _ => ?_)
theorem impl_ascends.mono : ∀ a0 a1 a2 k, LeO (impl_ascends.f k a0 a1 a2) (impl_ascends.f (k + 1) a0 a1 a2) := by
 intro a0 a1 a2 k
 have c1 := impl_ascends.mono_l k
 unfold impl_ascends.f
 repeat' first
   | (with_reducible exact c1 _ _ _ _ _ _)
   | (with_reducible exact LeO.refl _)
   | (with_reducible exact LeO.none _)
   | (with_reducible refine LeO.ite ?_ ?_)
   | (with_reducible refine LeO.bind ?_ (fun _ => ?_))
   | exact c1 _ _ _ _ _ _
   | exact LeO.none _
   | refine LeO.ite ?_ ?_
   | refine LeO.bind ?_ (fun _ => ?_)
set_option maxHeartbeats 8000000 in
set_option maxRecDepth 100000 in
theorem impl_ascends.calls (k : Nat) (A0 : Option Addr) (c0 : Nat) (l0 : List Int) (a1 : Int) (a2 : Int) (r : Bool) (w : World) (hr0 : Kd.C (Kd.int .i64) w A0 l0.length l0) (hc0 : l0.length ≤ c0) (h : impl_ascends.f k l0 a1 a2 = some r) :
  Calls Try.prog 69 #[.slice A0 l0.length c0, .int .i64 a1, .int .i64 a2] w fun e w' => e = .returned (.bool r) ∧ Drawn0 w w' := by
 have d8 := mk_ hr0; have o1 := mk_ hc0; clear hr0 hc0
 have H : (impl_ascends.l0 k l0 a1 a2 l0 (l0.length : Int) 0) = some r := h
 clear h
 have H' := mk_ H
 clear H
 go_enter Try.func69, Try.ntmps69
 go_wp2
 go_loopg [11] k (fun kq v11 w' => ∃ (a5 : Int), v11 = .int .i64 a5 ∧ Aside0 (impl_ascends.l0 kq l0 a1 a2 l0 (l0.length : Int) a5 = some r) ∧ Aside0 (kq ≤ k) ∧ Drawn0 w w')
 case atStart => exact ⟨(0), rf_, H', ⟨Nat.le_refl _⟩, by repeat (first | exact Drawn0.refl _ | apply Drawn0.step)⟩
 case round => as_aux_lemma =>
  clear H'
  obtain ⟨a5, rfl, HA, g8, ⟨m1, rfl⟩⟩ := hrel
  cases gk with
  | zero => exact absurd HA.out (by simp [impl_ascends.l0])
  | succ k1 =>
   have H := HA.out; clear HA
   simp only [impl_ascends.l0] at H
   by_cases c4 : a5 < (l0.length : Int)
   ·rw [if_pos c4] at H; have d4 : decide (a5 < (l0.length : Int)) = true := decide_eq_true c4; clear c4; by_cases c5 : 0 ≤ a5
    ·rw [if_pos c5] at H; have j9 : decide (0 ≤ a5) = true := decide_eq_true c5; clear c5; by_cases c6 : a5 < (l0.length : Int)
     ·rw [if_pos c6] at H; have l1 : decide (a5 < (l0.length : Int)) = true := decide_eq_true c6; clear c6; replace H := Option.bind_eq_some_iff.mp H; obtain ⟨l3, m5, H⟩ := H; (try dsimp only at H); have A7 := mk_ m5; clear m5; by_cases c8 : l3 = true
      ·subst c8; rw [if_pos rfl] at H
       by_cases c9 : a5 > 0
       ·rw [if_pos c9] at H; have A5 : decide (0 < a5) = true := decide_eq_true c9; clear c9
        obtain ⟨b1, d6⟩ : ∃ j_ : Int, (wrap64 (a5 - 1)) = j_ := ⟨_, rfl⟩
        replace H : (if 0 ≤ (b1) then (if (b1) < (l0.length : Int) then (if (rd l0 (b1)) ≥ (rd l0 a5) then (some false) else (impl_ascends.l0 k1 l0 a1 a2 l0 (l0.length : Int) (wrap64 (a5 + 1)))) else (none)) else (none)) = some r := by first | (rw [d6] at H; exact H) | (simp only [d6] at H ⊢; exact H)
        (try rw [d6] at A7)
        have hji10w : (IntKind.i64.wrap (a5 - 1)) = b1 := (i64_w _).trans d6
        by_cases o3 : 0 ≤ (b1)
        ·rw [if_pos o3] at H; have B7 : decide (0 ≤ (b1)) = true := decide_eq_true o3; clear o3; by_cases o4 : (b1) < (l0.length : Int)
         ·rw [if_pos o4] at H; have B8 : decide ((b1) < (l0.length : Int)) = true := decide_eq_true o4; clear o4; by_cases m4 : (rd l0 (b1)) ≥ (rd l0 a5)
          ·rw [if_pos m4] at H; have m7 : decide ((rd l0 a5) ≤ (rd l0 (b1))) = true := decide_eq_true m4; clear m4; obtain rfl := Option.some.inj H
           have b2 : 0 ≤ (a5 : Int) := od_
           have b3 : a5 < (l0.length : Int) := od_
           obtain ⟨d7, g2, d1⟩ := Kd.at_int d8.out a5 b2 b3; cases g2; replace b2 := eq_true b2; replace b3 := eq_true b3
           go_wp2_with (first | ((with_reducible refine gc_ 65 rfl ?_); refine gl_ (some 19) rfl Try.func65 #[.int .i64 (rd l0 a5), .int .i64 a1, .int .i64 a2] ?_; (with_reducible refine (impl_in.calls (rd l0 a5) a1 a2 true _ A7.out).mono ?_); rintro e w' ⟨rfl, ⟨nd, rfl⟩⟩; refine ⟨_, rfl, ?_⟩; have g3 : 0 ≤ ((b1) : Int) := od_; have g4 : (b1) < (l0.length : Int) := od_; obtain ⟨g9, l4, h9⟩ := Kd.at_int d8.out (b1) g3 g4; obtain rfl : d7 = g9 := (by injection l4); replace g3 := eq_true g3; replace g4 := eq_true g4))
           go_ret
           exact ⟨by first | rfl | (simp; done) | (simp only [← d6] <;> (first | rfl | simp)) | (simp [*]; done), by repeat (first | exact Drawn0.refl _ | apply Drawn0.step)⟩
          ·rw [if_neg m4] at H; have m7 : decide ((rd l0 a5) ≤ (rd l0 (b1))) = false := decide_eq_false m4; clear m4
           have H' := mk_ H
           clear H
           have b2 : 0 ≤ (a5 : Int) := od_
           have b3 : a5 < (l0.length : Int) := od_
           obtain ⟨d7, g2, d1⟩ := Kd.at_int d8.out a5 b2 b3; cases g2; replace b2 := eq_true b2; replace b3 := eq_true b3
           go_wp2_with (first | ((with_reducible refine gc_ 65 rfl ?_); refine gl_ (some 19) rfl Try.func65 #[.int .i64 (rd l0 a5), .int .i64 a1, .int .i64 a2] ?_; (with_reducible refine (impl_in.calls (rd l0 a5) a1 a2 true _ A7.out).mono ?_); rintro e w' ⟨rfl, ⟨nd, rfl⟩⟩; refine ⟨_, rfl, ?_⟩; have g3 : 0 ≤ ((b1) : Int) := od_; have g4 : (b1) < (l0.length : Int) := od_; obtain ⟨g9, l4, h9⟩ := Kd.at_int d8.out (b1) g3 g4; obtain rfl : d7 = g9 := (by injection l4); replace g3 := eq_true g3; replace g4 := eq_true g4))
           go_roundg k1
           case measure => have := g8.out; omega
           case rel => exact ⟨(wrap64 (a5 + 1)), rf_, H', ⟨by have := g8.out; omega⟩, by repeat (first | exact Drawn0.refl _ | apply Drawn0.step)⟩
         ·rw [if_neg o4] at H
          exact absurd H (by simp)
        ·rw [if_neg o3] at H
         exact absurd H (by simp)
       ·rw [if_neg c9] at H; have A5 : decide (0 < a5) = false := decide_eq_false c9; clear c9
        have H' := mk_ H
        clear H
        have b2 : 0 ≤ (a5 : Int) := od_
        have b3 : a5 < (l0.length : Int) := od_
        obtain ⟨d7, g2, d1⟩ := Kd.at_int d8.out a5 b2 b3; cases g2; replace b2 := eq_true b2; replace b3 := eq_true b3
        go_wp2_with (first | ((with_reducible refine gc_ 65 rfl ?_); refine gl_ (some 19) rfl Try.func65 #[.int .i64 (rd l0 a5), .int .i64 a1, .int .i64 a2] ?_; (with_reducible refine (impl_in.calls (rd l0 a5) a1 a2 true _ A7.out).mono ?_); rintro e w' ⟨rfl, ⟨nd, rfl⟩⟩; refine ⟨_, rfl, ?_⟩))
        go_roundg k1
        case measure => have := g8.out; omega
        case rel => exact ⟨(wrap64 (a5 + 1)), rf_, H', ⟨by have := g8.out; omega⟩, by repeat (first | exact Drawn0.refl _ | apply Drawn0.step)⟩
      ·replace c8 := Bool.eq_false_iff.mpr c8; subst c8; rw [if_neg (show ¬ (false = true) by decide)] at H; obtain rfl := Option.some.inj H
       have b2 : 0 ≤ (a5 : Int) := od_
       have b3 : a5 < (l0.length : Int) := od_
       obtain ⟨d7, g2, d1⟩ := Kd.at_int d8.out a5 b2 b3; cases g2; replace b2 := eq_true b2; replace b3 := eq_true b3
       go_wp2_with (first | ((with_reducible refine gc_ 65 rfl ?_); refine gl_ (some 19) rfl Try.func65 #[.int .i64 (rd l0 a5), .int .i64 a1, .int .i64 a2] ?_; (with_reducible refine (impl_in.calls (rd l0 a5) a1 a2 false _ A7.out).mono ?_); rintro e w' ⟨rfl, ⟨nd, rfl⟩⟩; refine ⟨_, rfl, ?_⟩))
       go_ret
       exact ⟨by first | rfl | (simp; done) | (simp [*]; done), by repeat (first | exact Drawn0.refl _ | apply Drawn0.step)⟩
     ·rw [if_neg c6] at H
      exact absurd H (by simp)
    ·rw [if_neg c5] at H
     exact absurd H (by simp)
   ·rw [if_neg c4] at H; have d4 : decide (a5 < (l0.length : Int)) = false := decide_eq_false c4; clear c4; obtain rfl := Option.some.inj H; go_wp2; go_ret
    exact ⟨by first | rfl | (simp; done) | (simp [*]; done), by repeat (first | exact Drawn0.refl _ | apply Drawn0.step)⟩

/-! ### impl_GridOk: function 26 -/
def impl_GridOk.l0 : Nat → List (List Int) → Int → Int → List Int → List Int → List (List Int) → Option (Bool)
 | 0, _, _, _, _, _, _ => none
 | k + 1, x6, x7, x8, b6, b7, g7 => if x8 < x7 then (if 0 ≤ x8 then (if x8 < (x6.length : Int) then (if ((rd_L2 x6 x8).length : Int) = (b6.length : Int) then ((impl_allIn.f k (rd_L2 x6 x8) (-1000) 1000).bind fun l5 => (if l5 = true then (impl_GridOk.l0 k x6 x7 (wrap64 (x8 + 1)) b6 b7 g7) else (some false))) else (some false)) else (none)) else (none)) else ((impl_in.f (b6.length : Int) 2 20).bind fun l6 => (if l6 = true then ((impl_in.f (b7.length : Int) 2 20).bind fun l7 => (if l7 = true then (if (g7.length : Int) = (b7.length : Int) then ((impl_ascends.f k b6 (-1000) 1000).bind fun l8 => (if l8 = true then ((impl_ascends.f k b7 (-1000) 1000).bind fun l9 => (some l9)) else (some false))) else (some false)) else (some false))) else (some false)))
def impl_GridOk.f (k : Nat) (l0_0 : List Int) (l0_1 : List Int) (l0_2 : List (List Int)) : Option (Bool) := impl_GridOk.l0 k l0_2 (l0_2.length : Int) 0 l0_0 l0_1 l0_2
theorem impl_GridOk.mono_l : ∀ k, (∀ y0 y1 y2 y3 y4 y5, LeO (impl_GridOk.l0 k y0 y1 y2 y3 y4 y5) (impl_GridOk.l0 (k + 1) y0 y1 y2 y3 y4 y5))
 | 0 => fun _ _ _ _ _ _ r h => by simp [impl_GridOk.l0] at h
 | k + 1 => by
  have c1 := impl_GridOk.mono_l k
  ·intro y0 y1 y2 y3 y4 y5
   unfold impl_GridOk.l0
   repeat' first
   | (with_reducible exact c1 _ _ _ _ _ _)
   | (with_reducible exact impl_allIn.mono _ _ _ _)
   | (with_reducible exact impl_ascends.mono _ _ _ _)
   | (with_reducible exact LeO.refl _)
   | (with_reducible exact LeO.none _)
   | (with_reducible refine LeO.ite ?_ ?_)
   | (with_reducible refine LeO.bind ?_ (fun _ => ?_))
   | exact c1 _ _ _ _ _ _
   | exact impl_allIn.mono _ _ _ _
   | exact impl_ascends.mono _ _ _ _
   | exact LeO.none _
   | refine LeO.ite ?_ ?_
   | refine LeO.bind ?_ (fun _ => ?_)
theorem impl_GridOk.mono : ∀ a0 a1 a2 k, LeO (impl_GridOk.f k a0 a1 a2) (impl_GridOk.f (k + 1) a0 a1 a2) := by
 intro a0 a1 a2 k
 have c1 := impl_GridOk.mono_l k
 unfold impl_GridOk.f
 repeat' first
   | (with_reducible exact c1 _ _ _ _ _ _)
   | (with_reducible exact impl_allIn.mono _ _ _ _)
   | (with_reducible exact impl_ascends.mono _ _ _ _)
   | (with_reducible exact LeO.refl _)
   | (with_reducible exact LeO.none _)
   | (with_reducible refine LeO.ite ?_ ?_)
   | (with_reducible refine LeO.bind ?_ (fun _ => ?_))
   | exact c1 _ _ _ _ _ _
   | exact impl_allIn.mono _ _ _ _
   | exact impl_ascends.mono _ _ _ _
   | exact LeO.none _
   | refine LeO.ite ?_ ?_
   | refine LeO.bind ?_ (fun _ => ?_)
set_option maxHeartbeats 8000000 in
set_option maxRecDepth 100000 in
theorem impl_GridOk.calls (k : Nat) (A0_0 : Option Addr) (c0_0 : Nat) (l0_0 : List Int) (A0_1 : Option Addr) (c0_1 : Nat) (l0_1 : List Int) (A0_2 : Option Addr) (c0_2 : Nat) (l0_2 : List (List Int)) (r : Bool) (w : World) (hr0_0 : Kd.C (Kd.int .i64) w A0_0 l0_0.length l0_0) (hc0_0 : l0_0.length ≤ c0_0) (hr0_1 : Kd.C (Kd.int .i64) w A0_1 l0_1.length l0_1) (hc0_1 : l0_1.length ≤ c0_1) (hr0_2 : Kd.C (Kd.slice 3 (Kd.int .i64)) w A0_2 l0_2.length l0_2) (hc0_2 : l0_2.length ≤ c0_2) (h : impl_GridOk.f k l0_0 l0_1 l0_2 = some r) :
  Calls Try.prog 26 #[.agg #[.slice A0_0 l0_0.length c0_0, .slice A0_1 l0_1.length c0_1, .slice A0_2 l0_2.length c0_2]] w fun e w' => e = .returned (.bool r) ∧ Below w.heap.size w w' := by
 have C5 := Try.underlying50
 have j2 := mk_ hr0_0; have j3 := mk_ hc0_0; clear hr0_0 hc0_0; have m8 := mk_ hr0_1; have m9 := mk_ hc0_1; clear hr0_1 hc0_1; have h2 := mk_ hr0_2; have B9 := mk_ hc0_2; clear hr0_2 hc0_2; have HB := mk_ (Below.refl w.heap.size w)
 have H : (impl_GridOk.l0 k l0_2 (l0_2.length : Int) 0 l0_0 l0_1 l0_2) = some r := h
 clear h
 have H' := mk_ H
 clear H
 go_enter Try.func26, Try.ntmps26
 go_wp2_with (first | ((with_reducible refine gd_ 1 rfl ?_); (try (refine gate_guard (by rfl) ?_; dsimp only)); refine box_event ?hg (N := 1) ?hd (cs := #[.slice A0_0 l0_0.length c0_0, .slice A0_1 l0_1.length c0_1, .slice A0_2 l0_2.length c0_2]) (t := 50) ?hr ?_; (case hd => rfl); (case hg => rfl); (case hr => exact hr_); intro n0 hg w2 hbox hb; have a6 := mk_ (hbox); have n1 := gb_ hg HB; replace HB := bp_ HB hb; have C0 := n1; clear hb hbox hg; have A6 := bc0_ a6; have A9 := bc1_ a6; have B0 := bc2_ a6; have B1 := bf_ a6 0; have B2 := bf_ a6 1; have B3 := bf_ a6 2))
 go_loopg [8] k (fun kq v8 w' => ∃ (a7 : Int), v8 = .int .i64 a7 ∧ Aside0 (impl_GridOk.l0 kq l0_2 (l0_2.length : Int) a7 l0_0 l0_1 l0_2 = some r) ∧ Aside0 (kq ≤ k) ∧ Aside0 (w'.heap[n0]? = some (.cells #[(.slice A0_0 l0_0.length c0_0), (.slice A0_1 l0_1.length c0_1), (.slice A0_2 l0_2.length c0_2)] 50 (0, 0))) ∧ Aside0 (Below w.heap.size w w'))
 case atStart => exact ⟨(0), rf_, H', ⟨Nat.le_refl _⟩, bw_ a6, ⟨hw_ HB⟩⟩
 case round => as_aux_lemma =>
  clear H'
  obtain ⟨a7, rfl, HA, g8, a6, HB⟩ := hrel
  cases gk with
  | zero => exact absurd HA.out (by simp [impl_GridOk.l0])
  | succ k1 =>
   have H := HA.out; clear HA
   simp only [impl_GridOk.l0] at H
   by_cases c4 : a7 < (l0_2.length : Int)
   ·rw [if_pos c4] at H; have d4 : decide (a7 < (l0_2.length : Int)) = true := decide_eq_true c4; clear c4; by_cases c5 : 0 ≤ a7
    ·rw [if_pos c5] at H; have j9 : decide (0 ≤ a7) = true := decide_eq_true c5; clear c5; by_cases c6 : a7 < (l0_2.length : Int)
     ·rw [if_pos c6] at H; have l1 : decide (a7 < (l0_2.length : Int)) = true := decide_eq_true c6; clear c6; by_cases c7 : ((rd_L2 l0_2 a7).length : Int) = (l0_0.length : Int)
      ·rw [if_pos c7] at H; have m0 : (((rd_L2 l0_2 a7).length : Int) == (l0_0.length : Int)) = true := beq_iff_eq.mpr c7; have B4 : (((rd_L2 l0_2 a7).length : Int) != (l0_0.length : Int)) = false := bne_eq_false_iff_eq.mpr c7
       have B5 : ((rd_L2 l0_2 a7).length == l0_0.length) = true := by first | simpa using c7 | (simp at c7 ⊢; omega)
       clear c7; replace H := Option.bind_eq_some_iff.mp H; obtain ⟨l5, C1, H⟩ := H; (try dsimp only at H); have A8 := mk_ C1; clear C1; by_cases c9 : l5 = true
       ·subst c9; rw [if_pos rfl] at H
        have H' := mk_ H
        clear H
        have c2 : 0 ≤ (a7 : Int) := od_
        have d0 : a7 < (l0_2.length : Int) := od_
        obtain ⟨j4, h3, h4, h5, a8, a9, b0⟩ := at_L2 h2.out a7 c2 d0; cases h5
        replace a8 := (HB.out.cell (World.block_lt_of_cell? w _ a8)).trans a8
        have b8 := mk_ b0; have b9 := mk_ a9; clear b0 a9; replace c2 := eq_true c2; replace d0 := eq_true d0; have o5 := bc0_ a6; have o6 := bc1_ a6; have o7 := bc2_ a6; have o8 := bf_ a6 0; have o9 := bf_ a6 1; have p0 := bf_ a6 2
        go_wp2_with (first | (go_at_call 55; (with_reducible refine (impl_allIn.calls k1 _ _ (rd_L2 l0_2 a7) (-1000) 1000 true _ ?b4 ?b5 A8.out).mono ?_); (case b4 => exact cw_ (Kd.C_below b8.out HB.out)); (case b5 => exact b9.out); rintro e w' ⟨rfl, ⟨nd, rfl⟩⟩))
        go_roundg k1
        case measure => have := g8.out; omega
        case rel => exact ⟨(wrap64 (a7 + 1)), rf_, H', ⟨by have := g8.out; omega⟩, bw_ a6, ⟨hw_ HB⟩⟩
       ·replace c9 := Bool.eq_false_iff.mpr c9; subst c9; rw [if_neg (show ¬ (false = true) by decide)] at H; obtain rfl := Option.some.inj H
        have c2 : 0 ≤ (a7 : Int) := od_
        have d0 : a7 < (l0_2.length : Int) := od_
        obtain ⟨j4, h3, h4, h5, a8, a9, b0⟩ := at_L2 h2.out a7 c2 d0; cases h5
        replace a8 := (HB.out.cell (World.block_lt_of_cell? w _ a8)).trans a8
        have b8 := mk_ b0; have b9 := mk_ a9; clear b0 a9; replace c2 := eq_true c2; replace d0 := eq_true d0; have p1 := bc0_ a6; have p2 := bc1_ a6; have p3 := bc2_ a6; have p4 := bf_ a6 0; have p5 := bf_ a6 1; have p6 := bf_ a6 2
        go_wp2_with (first | (go_at_call 55; (with_reducible refine (impl_allIn.calls k1 _ _ (rd_L2 l0_2 a7) (-1000) 1000 false _ ?b4 ?b5 A8.out).mono ?_); (case b4 => exact cw_ (Kd.C_below b8.out HB.out)); (case b5 => exact b9.out); rintro e w' ⟨rfl, ⟨nd, rfl⟩⟩))
        go_ret
        exact ⟨re_, hw_ HB⟩
      ·rw [if_neg c7] at H; have m0 : (((rd_L2 l0_2 a7).length : Int) == (l0_0.length : Int)) = false := beq_eq_false_iff_ne.mpr c7; have B4 : (((rd_L2 l0_2 a7).length : Int) != (l0_0.length : Int)) = true := bne_iff_ne.mpr c7
       have B5 : ((rd_L2 l0_2 a7).length == l0_0.length) = false := by first | simpa using c7 | (simp at c7 ⊢; omega)
       obtain rfl := Option.some.inj H
       have c2 : 0 ≤ (a7 : Int) := od_
       have d0 : a7 < (l0_2.length : Int) := od_
       obtain ⟨j4, h3, h4, h5, a8, a9, b0⟩ := at_L2 h2.out a7 c2 d0; cases h5
       replace a8 := (HB.out.cell (World.block_lt_of_cell? w _ a8)).trans a8
       have b8 := mk_ b0; have b9 := mk_ a9; clear b0 a9; replace c2 := eq_true c2; replace d0 := eq_true d0; have p7 := bc0_ a6; have p8 := bc1_ a6; have p9 := bc2_ a6; have q0 := bf_ a6 0; have q1 := bf_ a6 1; have q2 := bf_ a6 2; go_wp2; go_ret
       exact ⟨re_, hw_ HB⟩
     ·rw [if_neg c6] at H
      exact absurd H (by simp)
    ·rw [if_neg c5] at H
     exact absurd H (by simp)
   ·rw [if_neg c4] at H; have d4 : decide (a7 < (l0_2.length : Int)) = false := decide_eq_false c4; clear c4; replace H := Option.bind_eq_some_iff.mp H; obtain ⟨l6, n2, H⟩ := H; (try dsimp only at H); have n3 := mk_ n2; clear n2; by_cases q3 : l6 = true
    ·subst q3; rw [if_pos rfl] at H
     replace H := Option.bind_eq_some_iff.mp H; obtain ⟨l7, n4, H⟩ := H
     (try dsimp only at H); have q4 := mk_ n4; clear n4
     by_cases q5 : l7 = true
     ·subst q5; rw [if_pos rfl] at H
      by_cases h6 : (l0_2.length : Int) = (l0_1.length : Int)
      ·rw [if_pos h6] at H; have n5 : ((l0_2.length : Int) == (l0_1.length : Int)) = true := beq_iff_eq.mpr h6; have n6 : ((l0_2.length : Int) != (l0_1.length : Int)) = false := bne_eq_false_iff_eq.mpr h6
       have n7 : (l0_2.length == l0_1.length) = true := by first | simpa using h6 | (simp at h6 ⊢; omega)
       clear h6; replace H := Option.bind_eq_some_iff.mp H; obtain ⟨l8, n8, H⟩ := H; (try dsimp only at H); have C2 := mk_ n8; clear n8; by_cases q6 : l8 = true
       ·subst q6; rw [if_pos rfl] at H
        replace H := Option.bind_eq_some_iff.mp H; obtain ⟨l9, n9, H⟩ := H
        (try dsimp only at H); have C6 := mk_ n9; clear n9
        obtain rfl := Option.some.inj H; have q7 := bc0_ a6
        have q8 := bc1_ a6; have q9 := bc2_ a6; have s0 := bf_ a6 0; have s1 := bf_ a6 1; have s2 := bf_ a6 2
        go_wp2_with (first | ((with_reducible refine gc_ 65 rfl ?_); refine gl_ (some 27) rfl Try.func65 #[.int .i64 (l0_0.length : Int), .int .i64 2, .int .i64 20] ?_; (with_reducible refine (impl_in.calls (l0_0.length : Int) 2 20 true _ n3.out).mono ?_); rintro e w' ⟨rfl, ⟨nd, rfl⟩⟩; refine ⟨_, rfl, ?_⟩) | (go_at_call 65; (with_reducible refine (impl_in.calls (l0_1.length : Int) 2 20 true _ q4.out).mono ?_); rintro e w' ⟨rfl, ⟨nd, rfl⟩⟩) | (go_at_call 69; (with_reducible refine (impl_ascends.calls k1 _ _ l0_0 (-1000) 1000 true _ ?b4 ?b5 C2.out).mono ?_); (case b4 => repeat (first | exact (Kd.C_below j2.out (hw_ HB)) | (with_reducible refine Kd.C_alloc ?_ _) | (with_reducible refine Kd.C_drewN ?_ _) | (with_reducible refine Kd.C_drew ?_))); (case b5 => exact j3.out); rintro e w' ⟨rfl, ⟨nd, rfl⟩⟩) | (go_at_call 69; (with_reducible refine (impl_ascends.calls k1 _ _ l0_1 (-1000) 1000 l9 _ ?b4 ?b5 C6.out).mono ?_); (case b4 => repeat (first | exact (Kd.C_below m8.out (hw_ HB)) | (with_reducible refine Kd.C_alloc ?_ _) | (with_reducible refine Kd.C_drewN ?_ _) | (with_reducible refine Kd.C_drew ?_))); (case b5 => exact m9.out); rintro e w' ⟨rfl, ⟨nd, rfl⟩⟩))
        go_ret
        exact ⟨re_, hw_ HB⟩
       ·replace q6 := Bool.eq_false_iff.mpr q6; subst q6; rw [if_neg (show ¬ (false = true) by decide)] at H; obtain rfl := Option.some.inj H; have s3 := bc0_ a6; have s4 := bc1_ a6; have s5 := bc2_ a6; have s6 := bf_ a6 0; have s7 := bf_ a6 1; have s8 := bf_ a6 2
        go_wp2_with (first | ((with_reducible refine gc_ 65 rfl ?_); refine gl_ (some 27) rfl Try.func65 #[.int .i64 (l0_0.length : Int), .int .i64 2, .int .i64 20] ?_; (with_reducible refine (impl_in.calls (l0_0.length : Int) 2 20 true _ n3.out).mono ?_); rintro e w' ⟨rfl, ⟨nd, rfl⟩⟩; refine ⟨_, rfl, ?_⟩) | (go_at_call 65; (with_reducible refine (impl_in.calls (l0_1.length : Int) 2 20 true _ q4.out).mono ?_); rintro e w' ⟨rfl, ⟨nd, rfl⟩⟩) | (go_at_call 69; (with_reducible refine (impl_ascends.calls k1 _ _ l0_0 (-1000) 1000 false _ ?b4 ?b5 C2.out).mono ?_); (case b4 => repeat (first | exact (Kd.C_below j2.out (hw_ HB)) | (with_reducible refine Kd.C_alloc ?_ _) | (with_reducible refine Kd.C_drewN ?_ _) | (with_reducible refine Kd.C_drew ?_))); (case b5 => exact j3.out); rintro e w' ⟨rfl, ⟨nd, rfl⟩⟩))
        go_ret
        exact ⟨re_, hw_ HB⟩
      ·rw [if_neg h6] at H; have n5 : ((l0_2.length : Int) == (l0_1.length : Int)) = false := beq_eq_false_iff_ne.mpr h6; have n6 : ((l0_2.length : Int) != (l0_1.length : Int)) = true := bne_iff_ne.mpr h6
       have n7 : (l0_2.length == l0_1.length) = false := by first | simpa using h6 | (simp at h6 ⊢; omega)
       obtain rfl := Option.some.inj H; have s9 := bc0_ a6
       have t0 := bc1_ a6; have t1 := bc2_ a6; have t2 := bf_ a6 0; have t3 := bf_ a6 1; have t4 := bf_ a6 2
       go_wp2_with (first | ((with_reducible refine gc_ 65 rfl ?_); refine gl_ (some 27) rfl Try.func65 #[.int .i64 (l0_0.length : Int), .int .i64 2, .int .i64 20] ?_; (with_reducible refine (impl_in.calls (l0_0.length : Int) 2 20 true _ n3.out).mono ?_); rintro e w' ⟨rfl, ⟨nd, rfl⟩⟩; refine ⟨_, rfl, ?_⟩) | (go_at_call 65; (with_reducible refine (impl_in.calls (l0_1.length : Int) 2 20 true _ q4.out).mono ?_); rintro e w' ⟨rfl, ⟨nd, rfl⟩⟩))
       go_ret
       exact ⟨re_, hw_ HB⟩
     ·replace q5 := Bool.eq_false_iff.mpr q5; subst q5; rw [if_neg (show ¬ (false = true) by decide)] at H; obtain rfl := Option.some.inj H; have t5 := bc0_ a6; have t6 := bc1_ a6; have t7 := bc2_ a6; have t8 := bf_ a6 0; have t9 := bf_ a6 1; have y6 := bf_ a6 2
      go_wp2_with (first | ((with_reducible refine gc_ 65 rfl ?_); refine gl_ (some 27) rfl Try.func65 #[.int .i64 (l0_0.length : Int), .int .i64 2, .int .i64 20] ?_; (with_reducible refine (impl_in.calls (l0_0.length : Int) 2 20 true _ n3.out).mono ?_); rintro e w' ⟨rfl, ⟨nd, rfl⟩⟩; refine ⟨_, rfl, ?_⟩) | (go_at_call 65; (with_reducible refine (impl_in.calls (l0_1.length : Int) 2 20 false _ q4.out).mono ?_); rintro e w' ⟨rfl, ⟨nd, rfl⟩⟩))
      go_ret
      exact ⟨re_, hw_ HB⟩
    ·replace q3 := Bool.eq_false_iff.mpr q3; subst q3; rw [if_neg (show ¬ (false = true) by decide)] at H; obtain rfl := Option.some.inj H; have y7 := bc0_ a6; have y8 := bc1_ a6; have y9 := bc2_ a6; have A1 := bf_ a6 0; have A2 := bf_ a6 1; have A3 := bf_ a6 2
     go_wp2_with (first | ((with_reducible refine gc_ 65 rfl ?_); refine gl_ (some 27) rfl Try.func65 #[.int .i64 (l0_0.length : Int), .int .i64 2, .int .i64 20] ?_; (with_reducible refine (impl_in.calls (l0_0.length : Int) 2 20 false _ n3.out).mono ?_); rintro e w' ⟨rfl, ⟨nd, rfl⟩⟩; refine ⟨_, rfl, ?_⟩))
     go_ret
     exact ⟨re_, hw_ HB⟩

/-! ### impl_piece: function 66 -/
def impl_piece.l0 : Nat → List Int → Int → Int → Option (Int)
 | 0, _, _, _ => none
 | k + 1, x0, x1, x5 => if (wrap64 (x5 + 2)) < (x0.length : Int) then (if 0 ≤ (wrap64 (x5 + 1)) then (if (wrap64 (x5 + 1)) < (x0.length : Int) then (if (rd x0 (wrap64 (x5 + 1))) ≤ x1 then (impl_piece.l0 k x0 x1 (wrap64 (x5 + 1))) else (some x5)) else (none)) else (none)) else (some x5)
def impl_piece.f (k : Nat) (l0 : List Int) (a1 : Int) : Option (Int) := impl_piece.l0 k l0 a1 0
theorem impl_piece.mono_l : ∀ k, (∀ y0 y1 y2, LeO (impl_piece.l0 k y0 y1 y2) (impl_piece.l0 (k + 1) y0 y1 y2))
 | 0 => fun _ _ _ r h => by simp [impl_piece.l0] at h
 | k + 1 => by
  have c1 := impl_piece.mono_l k
  ·intro y0 y1 y2
   unfold impl_piece.l0
   repeat' first
   | (with_reducible exact c1 _ _ _)
   | (with_reducible exact LeO.refl _)
   | (with_reducible exact LeO.none _)
   | (with_reducible refine LeO.ite ?_ ?_)
   | (with_reducible refine LeO.bind ?_ (fun _ => ?_))
   | exact c1 _ _ _
   | exact LeO.none _
   | refine LeO.ite ?_ ?_
   | refine LeO.bind ?_ (fun _ => ?_)
theorem impl_piece.mono : ∀ a0 a1 k, LeO (impl_piece.f k a0 a1) (impl_piece.f (k + 1) a0 a1) := by
 intro a0 a1 k
 have c1 := impl_piece.mono_l k
 unfold impl_piece.f
 repeat' first
   | (with_reducible exact c1 _ _ _)
   | (with_reducible exact LeO.refl _)
   | (with_reducible exact LeO.none _)
   | (with_reducible refine LeO.ite ?_ ?_)
   | (with_reducible refine LeO.bind ?_ (fun _ => ?_))
   | exact c1 _ _ _
   | exact LeO.none _
   | refine LeO.ite ?_ ?_
   | refine LeO.bind ?_ (fun _ => ?_)
set_option maxHeartbeats 8000000 in
set_option maxRecDepth 100000 in
theorem impl_piece.calls (k : Nat) (A0 : Option Addr) (c0 : Nat) (l0 : List Int) (a1 : Int) (r : Int) (w : World) (hr0 : Kd.C (Kd.int .i64) w A0 l0.length l0) (hc0 : l0.length ≤ c0) (h : impl_piece.f k l0 a1 = some r) :
  Calls Try.prog 66 #[.slice A0 l0.length c0, .int .i64 a1] w fun e w' => e = .returned (.int .i64 r) ∧ Drawn0 w w' := by
 have d8 := mk_ hr0; have o1 := mk_ hc0; clear hr0 hc0
 have H : (impl_piece.l0 k l0 a1 0) = some r := h
 clear h
 have H' := mk_ H
 clear H
 go_enter Try.func66, Try.ntmps66
 go_wp2
 go_loopg [5] k (fun kq v5 w' => ∃ (d2 : Int), v5 = .int .i64 d2 ∧ Aside0 (impl_piece.l0 kq l0 a1 d2 = some r) ∧ Aside0 (kq ≤ k) ∧ Drawn0 w w')
 case atStart => exact ⟨(0), rf_, H', ⟨Nat.le_refl _⟩, by repeat (first | exact Drawn0.refl _ | apply Drawn0.step)⟩
 case round => as_aux_lemma =>
  clear H'
  obtain ⟨d2, rfl, HA, g8, ⟨m1, rfl⟩⟩ := hrel
  cases gk with
  | zero => exact absurd HA.out (by simp [impl_piece.l0])
  | succ k1 =>
   have H := HA.out; clear HA
   simp only [impl_piece.l0] at H
   by_cases c3 : (wrap64 (d2 + 2)) < (l0.length : Int)
   ·rw [if_pos c3] at H; have j5 : decide ((wrap64 (d2 + 2)) < (l0.length : Int)) = true := decide_eq_true c3; clear c3
    obtain ⟨d3, h7⟩ : ∃ j_ : Int, (wrap64 (d2 + 1)) = j_ := ⟨_, rfl⟩
    replace H : (if 0 ≤ (d3) then (if (d3) < (l0.length : Int) then (if (rd l0 (d3)) ≤ a1 then (impl_piece.l0 k1 l0 a1 d3) else (some d2)) else (none)) else (none)) = some r := by first | (rw [h7] at H; exact H) | (simp only [h7] at H ⊢; exact H)
    have hji4w : (IntKind.i64.wrap (d2 + 1)) = d3 := (i64_w _).trans h7
    by_cases c5 : 0 ≤ (d3)
    ·rw [if_pos c5] at H; have j9 : decide (0 ≤ (d3)) = true := decide_eq_true c5; clear c5; by_cases c6 : (d3) < (l0.length : Int)
     ·rw [if_pos c6] at H; have l1 : decide ((d3) < (l0.length : Int)) = true := decide_eq_true c6; clear c6; by_cases c7 : (rd l0 (d3)) ≤ a1
      ·rw [if_pos c7] at H; have m0 : decide ((rd l0 (d3)) ≤ a1) = true := decide_eq_true c7; clear c7
       have H' := mk_ H
       clear H
       have g5 : 0 ≤ ((d3) : Int) := od_
       have g6 : (d3) < (l0.length : Int) := od_
       obtain ⟨o0, m2, j0⟩ := Kd.at_int d8.out (d3) g5 g6; cases m2; replace g5 := eq_true g5; replace g6 := eq_true g6; go_wp2; go_roundg k1
       case measure => have := g8.out; omega
       case rel => exact ⟨(d3), (by first | rfl | (simp; done) | (simp only [← h7] <;> (first | rfl | simp)) | (simp [*]; done)), H', ⟨by have := g8.out; omega⟩, by repeat (first | exact Drawn0.refl _ | apply Drawn0.step)⟩
      ·rw [if_neg c7] at H; have m0 : decide ((rd l0 (d3)) ≤ a1) = false := decide_eq_false c7; clear c7; obtain rfl := Option.some.inj H
       have g5 : 0 ≤ ((d3) : Int) := od_
       have g6 : (d3) < (l0.length : Int) := od_
       obtain ⟨o0, m2, j0⟩ := Kd.at_int d8.out (d3) g5 g6; cases m2; replace g5 := eq_true g5; replace g6 := eq_true g6; go_wp2; go_ret
       exact ⟨by first | rfl | (simp; done) | (simp only [← h7] <;> (first | rfl | simp)) | (simp [*]; done), by repeat (first | exact Drawn0.refl _ | apply Drawn0.step)⟩
     ·rw [if_neg c6] at H
      exact absurd H (by simp)
    ·rw [if_neg c5] at H
     exact absurd H (by simp)
   ·rw [if_neg c3] at H; have j5 : decide ((wrap64 (d2 + 2)) < (l0.length : Int)) = false := decide_eq_false c3; clear c3; obtain rfl := Option.some.inj H; go_wp2; go_ret
    exact ⟨by first | rfl | (simp; done) | (simp [*]; done), by repeat (first | exact Drawn0.refl _ | apply Drawn0.step)⟩

/-! ### impl_between: function 67 -/
def impl_between.f (a0 : Int) (a1 : Int) (a2 : Int) (a3 : Int) (a4 : Int) : Option (Int × Int) := some (wrap64 ((wrap64 (a2 * (wrap64 (a1 - a0)))) + (wrap64 ((wrap64 (a3 - a2)) * (wrap64 (a4 - a0))))), wrap64 (a1 - a0))
set_option maxHeartbeats 8000000 in
set_option maxRecDepth 100000 in
theorem impl_between.calls (a0 : Int) (a1 : Int) (a2 : Int) (a3 : Int) (a4 : Int) (r1 : Int) (r2 : Int) (w : World) (h : impl_between.f a0 a1 a2 a3 a4 = some (r1, r2)) :
  Calls Try.prog 67 #[.int .i64 a0, .int .i64 a1, .int .i64 a2, .int .i64 a3, .int .i64 a4] w fun e w' => e = .returned (.tuple #[.int .i64 r1, .int .i64 r2]) ∧ Drawn0 w w' := by
 have H : (some (wrap64 ((wrap64 (a2 * (wrap64 (a1 - a0)))) + (wrap64 ((wrap64 (a3 - a2)) * (wrap64 (a4 - a0))))), wrap64 (a1 - a0))) = some (r1, r2) := h
 clear h
 simp only [Option.some.injEq, Prod.mk.injEq] at H
 obtain ⟨rfl, rfl⟩ := H
 go_enter Try.func67, Try.ntmps67
 go_wp2
 go_ret2
 exact ⟨by first | rfl | (simp; done) | (simp [*]; done), by repeat (first | exact Drawn0.refl _ | apply Drawn0.step)⟩

/-! ### impl_size: function 104 -/
def impl_size.f (a0 : Int) : Option (Int) := some (mx a0 (wrap64 (-a0)))
set_option maxHeartbeats 8000000 in
set_option maxRecDepth 100000 in
theorem impl_size.calls (a0 : Int) (r : Int) (w : World) (h : impl_size.f a0 = some r) :
  Calls Try.prog 104 #[.int .i64 a0] w fun e w' => e = .returned (.int .i64 r) ∧ Below w.heap.size w w' := by
 have HB := mk_ (Below.refl w.heap.size w)
 have H : (some (mx a0 (wrap64 (-a0)))) = some r := h
 clear h
 obtain ⟨C3, j1⟩ : ∃ j_ : Int, (mx a0 (wrap64 (-a0))) = j_ := ⟨_, rfl⟩
 replace H : (some C3) = some r := by first | (rw [j1] at H; exact H) | (simp only [j1] at H ⊢; exact H)
 have C4 : (if a0 < (wrap64 (-a0)) then (wrap64 (-a0)) else a0) = C3 := j1
 obtain rfl := Option.some.inj H
 go_enter Try.func104, Try.ntmps104
 go_wp2; go_ret
 exact ⟨by first | rfl | (simp [errW_none, errW_some] <;> rfl) | (simp only [← j1]; first | rfl | (simp [errW_none, errW_some] <;> rfl)) | (simp [*, errW_none, errW_some] <;> rfl), hw_ HB⟩

end Go.Proofs.Ytkginilghcepbaa.QFnGrid
-- squeezed
