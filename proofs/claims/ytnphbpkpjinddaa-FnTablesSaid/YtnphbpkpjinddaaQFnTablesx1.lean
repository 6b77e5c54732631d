/- Lean functions that tell what the Go functions used by one law answer, and for each a proof that the Go code comes to just these answers; no condition. Printed by this session's own program over the kit's printer. -/
import Derived.Test.YtnphbpkpjinddaaWSq
import Derived.Test.YtnphbpkpjinddaaQFnTablesx0
namespace Go.Proofs.Ytnphbpkpjinddaa.QFnTables
open Go.RowKit Go.Proofs.YtnphbpkpjinddaaW.PrintWords Go.Proofs.YtnphbpkpjinddaaW.PrintLast Go.Proofs.YtnphbpkpjinddaaW.PrintMore
attribute [local go_sem] max2_int min2_int max_two min_two max_three min_three max_four min_four   -- for this text's walks alone
attribute [local go_sem high] go_eql go_neq go_lss go_leq go_gtr go_geq go_store   -- for this text's walks alone
set_option linter.unusedVariables false
set_option linter.unusedSimpArgs false

/-! ### impl_in: function 76 -/
def impl_in.f (a0 : Int) (a1 : Int) (a2 : Int) : Option (Bool) := if a0 ≥ a1 then (some (decide (a0 ≤ a2))) else (some false)
set_option maxHeartbeats 8000000 in
set_option maxRecDepth 100000 in
theorem impl_in.calls (a0 : Int) (a1 : Int) (a2 : Int) (r : Bool) (w : World) (h : impl_in.f a0 a1 a2 = some r) :
  Calls Try.prog 76 #[.int .i64 a0, .int .i64 a1, .int .i64 a2] w fun e w' => e = .returned (.bool r) ∧ Drawn0 w w' := by
 have H : (if a0 ≥ a1 then (some (decide (a0 ≤ a2))) else (some false)) = some r := h
 clear h; by_cases c4 : a0 ≥ a1
 ·rw [if_pos c4] at H; have b8 : decide (a1 ≤ a0) = true := decide_eq_true c4; clear c4; obtain rfl := Option.some.inj H
  go_enter Try.func76, Try.ntmps76
  go_wp2; go_ret
  exact ⟨by first | rfl | (simp; done) | (simp [*]; done), by repeat (first | exact Drawn0.refl _ | apply Drawn0.step)⟩
 ·rw [if_neg c4] at H; have b8 : decide (a1 ≤ a0) = false := decide_eq_false c4; clear c4; obtain rfl := Option.some.inj H
  go_enter Try.func76, Try.ntmps76
  go_wp2; go_ret
  exact ⟨by first | rfl | (simp; done) | (simp [*]; done), by repeat (first | exact Drawn0.refl _ | apply Drawn0.step)⟩

/-! ### impl_ascends: function 84 -/
def impl_ascends.l0 : Nat → List Int → Int → Int → List Int → Int → Int → Option (Bool)
 | 0, _, _, _, _, _, _ => none
 | k + 1, x0, x1, x2, x9, j4, b9 => if b9 < j4 then (if 0 ≤ b9 then (if b9 < (x9.length : Int) then ((impl_in.f (rd x9 b9) x1 x2).bind fun h8 => (if h8 = true then (if b9 > 0 then (if 0 ≤ (wrap64 (b9 - 1)) then (if (wrap64 (b9 - 1)) < (x0.length : Int) then (if (rd x0 (wrap64 (b9 - 1))) ≥ (rd x9 b9) then (some false) else (impl_ascends.l0 k x0 x1 x2 x9 j4 (wrap64 (b9 + 1)))) else (none)) else (none)) else (impl_ascends.l0 k x0 x1 x2 x9 j4 (wrap64 (b9 + 1)))) else (some false))) else (none)) else (none)) else (some true)
def impl_ascends.f (k : Nat) (l0 : List Int) (a1 : Int) (a2 : Int) : Option (Bool) := impl_ascends.l0 k l0 a1 a2 l0 (l0.length : Int) 0
theorem impl_ascends.mono_l : ∀ k, (∀ y0 y1 y2 y3 y4 y5, LeO (impl_ascends.l0 k y0 y1 y2 y3 y4 y5) (impl_ascends.l0 (k + 1) y0 y1 y2 y3 y4 y5))
 | 0 => fun _ _ _ _ _ _ r h => by simp [impl_ascends.l0] at h
 | k + 1 => by
  have b2 := impl_ascends.mono_l k
  ·intro y0 y1 y2 y3 y4 y5
   unfold impl_ascends.l0
   repeat' first
   | (with_reducible exact b2 _ _ _ _ _ _)
   | (with_reducible exact LeO.refl _)
   | (with_reducible exact LeO.none _)
   | (with_reducible refine LeO.ite ?_ ?_)
   | (with_reducible refine LeO.bind ?_ (fun _ => ?_))
   | exact b2 _ _ _ _ _ _
   | exact LeO.none _
   | refine LeO.ite ?_ ?_
   | refine LeO.bind ?_ (fun _ => ?_)
theorem impl_ascends.mono : ∀ a0 a1 a2 k, LeO (impl_ascends.f k a0 a1 a2) (impl_ascends.f (k + 1) a0 a1 a2) := by
 intro a0 a1 a2 k
 have b2 := impl_ascends.mono_l k
 unfold impl_ascends.f
 repeat' first
   | (with_reducible exact b2 _ _ _ _ _ _)
   | (with_reducible exact LeO.refl _)
   | (with_reducible exact LeO.none _)
   | (with_reducible refine LeO.ite ?_ ?_)
   | (with_reducible refine LeO.bind ?_ (fun _ => ?_))
   | exact b2 _ _ _ _ _ _
   | exact LeO.none _
   | refine LeO.ite ?_ ?_
   | refine LeO.bind ?_ (fun _ => ?_)
set_option maxHeartbeats 8000000 in
set_option maxRecDepth 100000 in
theorem impl_ascends.calls (k : Nat) (A0 : Option Addr) (c0 : Nat) (l0 : List Int) (a1 : Int) (a2 : Int) (r : Bool) (w : World) (hr0 : Kd.C (Kd.int .i64) w A0 l0.length l0) (hc0 : l0.length ≤ c0) (h : impl_ascends.f k l0 a1 a2 = some r) :
  Calls Try.prog 84 #[.slice A0 l0.length c0, .int .i64 a1, .int .i64 a2] w fun e w' => e = .returned (.bool r) ∧ Drawn0 w w' := by
 have g1 := mk_ hr0; have o1 := mk_ hc0; clear hr0 hc0
 have H : (impl_ascends.l0 k l0 a1 a2 l0 (l0.length : Int) 0) = some r := h
 clear h
 have H' := mk_ H
 clear H
 go_enter Try.func84, Try.ntmps84
 go_wp2
 go_loopg [11] k (fun kq v11 w' => ∃ (a5 : Int), v11 = .int .i64 a5 ∧ Aside0 (impl_ascends.l0 kq l0 a1 a2 l0 (l0.length : Int) a5 = some r) ∧ Aside0 (kq ≤ k) ∧ Drawn0 w w')
 case atStart => exact ⟨(0), rf_, H', ⟨Nat.le_refl _⟩, by repeat (first | exact Drawn0.refl _ | apply Drawn0.step)⟩
 case round => as_aux_lemma =>
  clear H'
  obtain ⟨a5, rfl, HA, g0, ⟨m1, rfl⟩⟩ := hrel
  cases gk with
  | zero => exact absurd HA.out (by simp [impl_ascends.l0])
  | succ k1 =>
   have H := HA.out; clear HA
   simp only [impl_ascends.l0] at H
   by_cases c4 : a5 < (l0.length : Int)
   ·rw [if_pos c4] at H; have b8 : decide (a5 < (l0.length : Int)) = true := decide_eq_true c4; clear c4; by_cases c5 : 0 ≤ a5
    ·rw [if_pos c5] at H; have j6 : decide (0 ≤ a5) = true := decide_eq_true c5; clear c5; by_cases c6 : a5 < (l0.length : Int)
     ·rw [if_pos c6] at H; have j7 : decide (a5 < (l0.length : Int)) = true := decide_eq_true c6; clear c6; replace H := Option.bind_eq_some_iff.mp H; obtain ⟨h8, h5, H⟩ := H; (try dsimp only at H); have A7 := mk_ h5; clear h5; by_cases c8 : h8 = true
      ·subst c8; rw [if_pos rfl] at H
       by_cases c9 : a5 > 0
       ·rw [if_pos c9] at H; have n2 : decide (0 < a5) = true := decide_eq_true c9; clear c9
        obtain ⟨a8, c1⟩ : ∃ j_ : Int, (wrap64 (a5 - 1)) = j_ := ⟨_, rfl⟩
        replace H : (if 0 ≤ (a8) then (if (a8) < (l0.length : Int) then (if (rd l0 (a8)) ≥ (rd l0 a5) then (some false) else (impl_ascends.l0 k1 l0 a1 a2 l0 (l0.length : Int) (wrap64 (a5 + 1)))) else (none)) else (none)) = some r := by first | (rw [c1] at H; exact H) | (simp only [c1] at H ⊢; exact H)
        (try rw [c1] at A7)
        have hji10w : (IntKind.i64.wrap (a5 - 1)) = a8 := (i64_w _).trans c1
        by_cases l7 : 0 ≤ (a8)
        ·rw [if_pos l7] at H; have o2 : decide (0 ≤ (a8)) = true := decide_eq_true l7; clear l7; by_cases l8 : (a8) < (l0.length : Int)
         ·rw [if_pos l8] at H; have o3 : decide ((a8) < (l0.length : Int)) = true := decide_eq_true l8; clear l8; by_cases j5 : (rd l0 (a8)) ≥ (rd l0 a5)
          ·rw [if_pos j5] at H; have j8 : decide ((rd l0 a5) ≤ (rd l0 (a8))) = true := decide_eq_true j5; clear j5; obtain rfl := Option.some.inj H
           have b0 : 0 ≤ (a5 : Int) := od_
           have b1 : a5 < (l0.length : Int) := od_
           obtain ⟨c2, d2, b5⟩ := Kd.at_int g1.out a5 b0 b1; cases d2; replace b0 := eq_true b0; replace b1 := eq_true b1
           go_wp2_with (first | ((with_reducible refine gc_ 76 rfl ?_); refine gl_ (some 19) rfl Try.func76 #[.int .i64 (rd l0 a5), .int .i64 a1, .int .i64 a2] ?_; (with_reducible refine (impl_in.calls (rd l0 a5) a1 a2 true _ A7.out).mono ?_); rintro e w' ⟨rfl, ⟨nd, rfl⟩⟩; refine ⟨_, rfl, ?_⟩; have d3 : 0 ≤ ((a8) : Int) := od_; have d4 : (a8) < (l0.length : Int) := od_; obtain ⟨g2, h9, h1⟩ := Kd.at_int g1.out (a8) d3 d4; obtain rfl : c2 = g2 := (by injection h9); replace d3 := eq_true d3; replace d4 := eq_true d4))
           go_ret
           exact ⟨by first | rfl | (simp; done) | (simp only [← c1] <;> (first | rfl | simp)) | (simp [*]; done), by repeat (first | exact Drawn0.refl _ | apply Drawn0.step)⟩
          ·rw [if_neg j5] at H; have j8 : decide ((rd l0 a5) ≤ (rd l0 (a8))) = false := decide_eq_false j5; clear j5
           have H' := mk_ H
           clear H
           have b0 : 0 ≤ (a5 : Int) := od_
           have b1 : a5 < (l0.length : Int) := od_
           obtain ⟨c2, d2, b5⟩ := Kd.at_int g1.out a5 b0 b1; cases d2; replace b0 := eq_true b0; replace b1 := eq_true b1
           go_wp2_with (first | ((with_reducible refine gc_ 76 rfl ?_); refine gl_ (some 19) rfl Try.func76 #[.int .i64 (rd l0 a5), .int .i64 a1, .int .i64 a2] ?_; (with_reducible refine (impl_in.calls (rd l0 a5) a1 a2 true _ A7.out).mono ?_); rintro e w' ⟨rfl, ⟨nd, rfl⟩⟩; refine ⟨_, rfl, ?_⟩; have d3 : 0 ≤ ((a8) : Int) := od_; have d4 : (a8) < (l0.length : Int) := od_; obtain ⟨g2, h9, h1⟩ := Kd.at_int g1.out (a8) d3 d4; obtain rfl : c2 = g2 := (by injection h9); replace d3 := eq_true d3; replace d4 := eq_true d4))
           go_roundg k1
           case measure => have := g0.out; omega
           case rel => exact ⟨(wrap64 (a5 + 1)), rf_, H', ⟨by have := g0.out; omega⟩, by repeat (first | exact Drawn0.refl _ | apply Drawn0.step)⟩
         ·rw [if_neg l8] at H
          exact absurd H (by simp)
        ·rw [if_neg l7] at H
         exact absurd H (by simp)
       ·rw [if_neg c9] at H; have n2 : decide (0 < a5) = false := decide_eq_false c9; clear c9
        have H' := mk_ H
        clear H
        have b0 : 0 ≤ (a5 : Int) := od_
        have b1 : a5 < (l0.length : Int) := od_
        obtain ⟨c2, d2, b5⟩ := Kd.at_int g1.out a5 b0 b1; cases d2; replace b0 := eq_true b0; replace b1 := eq_true b1
        go_wp2_with (first | ((with_reducible refine gc_ 76 rfl ?_); refine gl_ (some 19) rfl Try.func76 #[.int .i64 (rd l0 a5), .int .i64 a1, .int .i64 a2] ?_; (with_reducible refine (impl_in.calls (rd l0 a5) a1 a2 true _ A7.out).mono ?_); rintro e w' ⟨rfl, ⟨nd, rfl⟩⟩; refine ⟨_, rfl, ?_⟩))
        go_roundg k1
        case measure => have := g0.out; omega
        case rel => exact ⟨(wrap64 (a5 + 1)), rf_, H', ⟨by have := g0.out; omega⟩, by repeat (first | exact Drawn0.refl _ | apply Drawn0.step)⟩
      ·replace c8 := Bool.eq_false_iff.mpr c8; subst c8; rw [if_neg (show ¬ (false = true) by decide)] at H; obtain rfl := Option.some.inj H
       have b0 : 0 ≤ (a5 : Int) := od_
       have b1 : a5 < (l0.length : Int) := od_
       obtain ⟨c2, d2, b5⟩ := Kd.at_int g1.out a5 b0 b1; cases d2; replace b0 := eq_true b0; replace b1 := eq_true b1
       go_wp2_with (first | ((with_reducible refine gc_ 76 rfl ?_); refine gl_ (some 19) rfl Try.func76 #[.int .i64 (rd l0 a5), .int .i64 a1, .int .i64 a2] ?_; (with_reducible refine (impl_in.calls (rd l0 a5) a1 a2 false _ A7.out).mono ?_); rintro e w' ⟨rfl, ⟨nd, rfl⟩⟩; refine ⟨_, rfl, ?_⟩))
       go_ret
       exact ⟨by first | rfl | (simp; done) | (simp [*]; done), by repeat (first | exact Drawn0.refl _ | apply Drawn0.step)⟩
     ·rw [if_neg c6] at H
      exact absurd H (by simp)
    ·rw [if_neg c5] at H
     exact absurd H (by simp)
   ·rw [if_neg c4] at H; have b8 : decide (a5 < (l0.length : Int)) = false := decide_eq_false c4; clear c4; obtain rfl := Option.some.inj H; go_wp2; go_ret
    exact ⟨by first | rfl | (simp; done) | (simp [*]; done), by repeat (first | exact Drawn0.refl _ | apply Drawn0.step)⟩

/-! ### impl_allIn: function 85 -/
def impl_allIn.l0 : Nat → Int → Int → List Int → Int → Int → Option (Bool)
 | 0, _, _, _, _, _ => none
 | k + 1, x1, x2, x9, j4, b9 => if b9 < j4 then (if 0 ≤ b9 then (if b9 < (x9.length : Int) then ((impl_in.f (rd x9 b9) x1 x2).bind fun j0 => (if j0 = true then (impl_allIn.l0 k x1 x2 x9 j4 (wrap64 (b9 + 1))) else (some false))) else (none)) else (none)) else (some true)
def impl_allIn.f (k : Nat) (l0 : List Int) (a1 : Int) (a2 : Int) : Option (Bool) := impl_allIn.l0 k a1 a2 l0 (l0.length : Int) 0
theorem impl_allIn.mono_l : ∀ k, (∀ y0 y1 y2 y3 y4, LeO (impl_allIn.l0 k y0 y1 y2 y3 y4) (impl_allIn.l0 (k + 1) y0 y1 y2 y3 y4))
 | 0 => fun _ _ _ _ _ r h => by simp [impl_allIn.l0] at h
 | k + 1 => by
  have b2 := impl_allIn.mono_l k
  ·intro y0 y1 y2 y3 y4
   unfold impl_allIn.l0
   repeat' first
   | (with_reducible exact b2 _ _ _ _ _)
   | (with_reducible exact LeO.refl _)
   | (with_reducible exact LeO.none _)
   | (with_reducible refine LeO.ite ?_ ?_)
   | (with_reducible refine LeO.bind ?_ (fun _ => ?_))
   | exact b2 _ _ _ _ _
   | exact LeO.none _
   | refine LeO.ite ?_ ?_
   | refine LeO.bind ?_ (fun _ => ?_)
theorem impl_allIn.mono : ∀ a0 a1 a2 k, LeO (impl_allIn.f k a0 a1 a2) (impl_allIn.f (k + 1) a0 a1 a2) := by
 intro a0 a1 a2 k
 have b2 := impl_allIn.mono_l k
 unfold impl_allIn.f
 repeat' first
   | (with_reducible exact b2 _ _ _ _ _)
   | (with_reducible exact LeO.refl _)
   | (with_reducible exact LeO.none _)
   | (with_reducible refine LeO.ite ?_ ?_)
   | (with_reducible refine LeO.bind ?_ (fun _ => ?_))
   | exact b2 _ _ _ _ _
   | exact LeO.none _
   | refine LeO.ite ?_ ?_
   | refine LeO.bind ?_ (fun _ => ?_)
set_option maxHeartbeats 8000000 in
set_option maxRecDepth 100000 in
theorem impl_allIn.calls (k : Nat) (A0 : Option Addr) (c0 : Nat) (l0 : List Int) (a1 : Int) (a2 : Int) (r : Bool) (w : World) (hr0 : Kd.C (Kd.int .i64) w A0 l0.length l0) (hc0 : l0.length ≤ c0) (h : impl_allIn.f k l0 a1 a2 = some r) :
  Calls Try.prog 85 #[.slice A0 l0.length c0, .int .i64 a1, .int .i64 a2] w fun e w' => e = .returned (.bool r) ∧ Drawn0 w w' := by
 have g1 := mk_ hr0; have o1 := mk_ hc0; clear hr0 hc0
 have H : (impl_allIn.l0 k a1 a2 l0 (l0.length : Int) 0) = some r := h
 clear h
 have H' := mk_ H
 clear H
 go_enter Try.func85, Try.ntmps85
 go_wp2
 go_loopg [11] k (fun kq v11 w' => ∃ (a5 : Int), v11 = .int .i64 a5 ∧ Aside0 (impl_allIn.l0 kq a1 a2 l0 (l0.length : Int) a5 = some r) ∧ Aside0 (kq ≤ k) ∧ Drawn0 w w')
 case atStart => exact ⟨(0), rf_, H', ⟨Nat.le_refl _⟩, by repeat (first | exact Drawn0.refl _ | apply Drawn0.step)⟩
 case round => as_aux_lemma =>
  clear H'
  obtain ⟨a5, rfl, HA, g0, ⟨m1, rfl⟩⟩ := hrel
  cases gk with
  | zero => exact absurd HA.out (by simp [impl_allIn.l0])
  | succ k1 =>
   have H := HA.out; clear HA
   simp only [impl_allIn.l0] at H
   by_cases c4 : a5 < (l0.length : Int)
   ·rw [if_pos c4] at H; have b8 : decide (a5 < (l0.length : Int)) = true := decide_eq_true c4; clear c4; by_cases c5 : 0 ≤ a5
    ·rw [if_pos c5] at H; have j6 : decide (0 ≤ a5) = true := decide_eq_true c5; clear c5; by_cases c6 : a5 < (l0.length : Int)
     ·rw [if_pos c6] at H; have j7 : decide (a5 < (l0.length : Int)) = true := decide_eq_true c6; clear c6; replace H := Option.bind_eq_some_iff.mp H; obtain ⟨j0, h5, H⟩ := H; (try dsimp only at H); have A7 := mk_ h5; clear h5; by_cases c8 : j0 = true
      ·subst c8; rw [if_pos rfl] at H
       have H' := mk_ H
       clear H
       have d5 : 0 ≤ (a5 : Int) := od_
       have d6 : a5 < (l0.length : Int) := od_
       obtain ⟨j9, j1, h2⟩ := Kd.at_int g1.out a5 d5 d6; cases j1; replace d5 := eq_true d5; replace d6 := eq_true d6
       go_wp2_with (first | ((with_reducible refine gc_ 76 rfl ?_); refine gl_ (some 18) rfl Try.func76 #[.int .i64 (rd l0 a5), .int .i64 a1, .int .i64 a2] ?_; (with_reducible refine (impl_in.calls (rd l0 a5) a1 a2 true _ A7.out).mono ?_); rintro e w' ⟨rfl, ⟨nd, rfl⟩⟩; refine ⟨_, rfl, ?_⟩))
       go_roundg k1
       case measure => have := g0.out; omega
       case rel => exact ⟨(wrap64 (a5 + 1)), rf_, H', ⟨by have := g0.out; omega⟩, by repeat (first | exact Drawn0.refl _ | apply Drawn0.step)⟩
      ·replace c8 := Bool.eq_false_iff.mpr c8; subst c8; rw [if_neg (show ¬ (false = true) by decide)] at H; obtain rfl := Option.some.inj H
       have d5 : 0 ≤ (a5 : Int) := od_
       have d6 : a5 < (l0.length : Int) := od_
       obtain ⟨j9, j1, h2⟩ := Kd.at_int g1.out a5 d5 d6; cases j1; replace d5 := eq_true d5; replace d6 := eq_true d6
       go_wp2_with (first | ((with_reducible refine gc_ 76 rfl ?_); refine gl_ (some 18) rfl Try.func76 #[.int .i64 (rd l0 a5), .int .i64 a1, .int .i64 a2] ?_; (with_reducible refine (impl_in.calls (rd l0 a5) a1 a2 false _ A7.out).mono ?_); rintro e w' ⟨rfl, ⟨nd, rfl⟩⟩; refine ⟨_, rfl, ?_⟩))
       go_ret
       exact ⟨by first | rfl | (simp; done) | (simp [*]; done), by repeat (first | exact Drawn0.refl _ | apply Drawn0.step)⟩
     ·rw [if_neg c6] at H
      exact absurd H (by simp)
    ·rw [if_neg c5] at H
     exact absurd H (by simp)
   ·rw [if_neg c4] at H; have b8 : decide (a5 < (l0.length : Int)) = false := decide_eq_false c4; clear c4; obtain rfl := Option.some.inj H; go_wp2; go_ret
    exact ⟨by first | rfl | (simp; done) | (simp [*]; done), by repeat (first | exact Drawn0.refl _ | apply Drawn0.step)⟩

/-! ### impl_CurveOk: function 32 -/
def impl_CurveOk.f (k : Nat) (l0_0 : List Int) (l0_1 : List Int) : Option (Bool) := (impl_in.f (l0_0.length : Int) 2 20).bind fun g3 => (if g3 = true then (if (l0_1.length : Int) = (l0_0.length : Int) then ((impl_ascends.f k l0_0 (-100000) 100000).bind fun g4 => (if g4 = true then ((impl_allIn.f k l0_1 (-100000) 100000).bind fun g5 => (some g5)) else (some false))) else (some false)) else (some false))
theorem impl_CurveOk.mono : ∀ a0 a1 k, LeO (impl_CurveOk.f k a0 a1) (impl_CurveOk.f (k + 1) a0 a1) := by
 intro a0 a1 k
 unfold impl_CurveOk.f
 repeat' first
   | (with_reducible exact impl_allIn.mono _ _ _ _)
   | (with_reducible exact impl_ascends.mono _ _ _ _)
   | (with_reducible exact LeO.refl _)
   | (with_reducible exact LeO.none _)
   | (with_reducible refine LeO.ite ?_ ?_)
   | (with_reducible refine LeO.bind ?_ (fun _ => ?_))
   | exact impl_allIn.mono _ _ _ _
   | exact impl_ascends.mono _ _ _ _
   | exact LeO.none _
   | refine LeO.ite ?_ ?_
   | refine LeO.bind ?_ (fun _ => ?_)
set_option maxHeartbeats 8000000 in
set_option maxRecDepth 100000 in
theorem impl_CurveOk.calls (k : Nat) (A0_0 : Option Addr) (c0_0 : Nat) (l0_0 : List Int) (A0_1 : Option Addr) (c0_1 : Nat) (l0_1 : List Int) (r : Bool) (w : World) (hr0_0 : Kd.C (Kd.int .i64) w A0_0 l0_0.length l0_0) (hc0_0 : l0_0.length ≤ c0_0) (hr0_1 : Kd.C (Kd.int .i64) w A0_1 l0_1.length l0_1) (hc0_1 : l0_1.length ≤ c0_1) (h : impl_CurveOk.f k l0_0 l0_1 = some r) :
  Calls Try.prog 32 #[.agg #[.slice A0_0 l0_0.length c0_0, .slice A0_1 l0_1.length c0_1]] w fun e w' => e = .returned (.bool r) ∧ Below w.heap.size w w' := by
 have p0 := Try.underlying51
 have h6 := mk_ hr0_0; have h7 := mk_ hc0_0; clear hr0_0 hc0_0; have l1 := mk_ hr0_1; have l2 := mk_ hc0_1; clear hr0_1 hc0_1; have HB := mk_ (Below.refl w.heap.size w)
 have H : ((impl_in.f (l0_0.length : Int) 2 20).bind fun g3 => (if g3 = true then (if (l0_1.length : Int) = (l0_0.length : Int) then ((impl_ascends.f k l0_0 (-100000) 100000).bind fun g4 => (if g4 = true then ((impl_allIn.f k l0_1 (-100000) 100000).bind fun g5 => (some g5)) else (some false))) else (some false)) else (some false))) = some r := h
 clear h; replace H := Option.bind_eq_some_iff.mp H; obtain ⟨g3, o4, H⟩ := H; (try dsimp only at H); have A2 := mk_ o4; clear o4; by_cases c3 : g3 = true
 ·subst c3; rw [if_pos rfl] at H
  by_cases c4 : (l0_1.length : Int) = (l0_0.length : Int)
  ·rw [if_pos c4] at H; have b8 : ((l0_1.length : Int) == (l0_0.length : Int)) = true := beq_iff_eq.mpr c4; have l3 : ((l0_1.length : Int) != (l0_0.length : Int)) = false := bne_eq_false_iff_eq.mpr c4
   have n3 : (l0_1.length == l0_0.length) = true := by first | simpa using c4 | (simp at c4 ⊢; omega)
   clear c4; replace H := Option.bind_eq_some_iff.mp H; obtain ⟨g4, o5, H⟩ := H; (try dsimp only at H); have A5 := mk_ o5; clear o5; by_cases c6 : g4 = true
   ·subst c6; rw [if_pos rfl] at H
    replace H := Option.bind_eq_some_iff.mp H; obtain ⟨g5, h5, H⟩ := H
    (try dsimp only at H); have A7 := mk_ h5; clear h5
    obtain rfl := Option.some.inj H
    go_enter Try.func32, Try.ntmps32
    go_wp2_with (first | ((with_reducible refine gd_ 1 rfl ?_); (try (refine gate_guard (by rfl) ?_; dsimp only)); refine box_event ?hg (N := 1) ?hd (cs := #[.slice A0_0 l0_0.length c0_0, .slice A0_1 l0_1.length c0_1]) (t := 51) ?hr ?_; (case hd => rfl); (case hg => rfl); (case hr => exact hr_); intro g6 hg w8 hbox hb; have a6 := mk_ (hbox); have b3 := gb_ hg HB; replace HB := bp_ HB hb; have g7 := b3; clear hb hbox hg; have n4 := bc0_ a6; have n5 := bc1_ a6; have n6 := bf_ a6 0; have n7 := bf_ a6 1) | ((with_reducible refine gc_ 76 rfl ?_); refine gl_ (some 6) rfl Try.func76 #[.int .i64 (l0_0.length : Int), .int .i64 2, .int .i64 20] ?_; (with_reducible refine (impl_in.calls (l0_0.length : Int) 2 20 true _ A2.out).mono ?_); rintro e w' ⟨rfl, ⟨nd, rfl⟩⟩; refine ⟨_, rfl, ?_⟩) | (go_at_call 84; (with_reducible refine (impl_ascends.calls k _ _ l0_0 (-100000) 100000 true _ ?d0 ?d1 A5.out).mono ?_); (case d0 => repeat (first | exact (Kd.C_below h6.out (hw_ HB)) | (with_reducible refine Kd.C_alloc ?_ _) | (with_reducible refine Kd.C_drewN ?_ _) | (with_reducible refine Kd.C_drew ?_))); (case d1 => exact h7.out); rintro e w' ⟨rfl, ⟨nd, rfl⟩⟩) | (go_at_call 85; (with_reducible refine (impl_allIn.calls k _ _ l0_1 (-100000) 100000 g5 _ ?d0 ?d1 A7.out).mono ?_); (case d0 => repeat (first | exact (Kd.C_below l1.out (hw_ HB)) | (with_reducible refine Kd.C_alloc ?_ _) | (with_reducible refine Kd.C_drewN ?_ _) | (with_reducible refine Kd.C_drew ?_))); (case d1 => exact l2.out); rintro e w' ⟨rfl, ⟨nd, rfl⟩⟩))
    go_ret
    exact ⟨re_, hw_ HB⟩
   ·replace c6 := Bool.eq_false_iff.mpr c6; subst c6; rw [if_neg (show ¬ (false = true) by decide)] at H; obtain rfl := Option.some.inj H
    go_enter Try.func32, Try.ntmps32
    go_wp2_with (first | ((with_reducible refine gd_ 1 rfl ?_); (try (refine gate_guard (by rfl) ?_; dsimp only)); refine box_event ?hg (N := 1) ?hd (cs := #[.slice A0_0 l0_0.length c0_0, .slice A0_1 l0_1.length c0_1]) (t := 51) ?hr ?_; (case hd => rfl); (case hg => rfl); (case hr => exact hr_); intro g6 hg p4 hbox hb; have a6 := mk_ (hbox); have b3 := gb_ hg HB; replace HB := bp_ HB hb; have g7 := b3; clear hb hbox hg; have l9 := bc0_ a6; have m0 := bc1_ a6; have m2 := bf_ a6 0; have m3 := bf_ a6 1) | ((with_reducible refine gc_ 76 rfl ?_); refine gl_ (some 6) rfl Try.func76 #[.int .i64 (l0_0.length : Int), .int .i64 2, .int .i64 20] ?_; (with_reducible refine (impl_in.calls (l0_0.length : Int) 2 20 true _ A2.out).mono ?_); rintro e w' ⟨rfl, ⟨nd, rfl⟩⟩; refine ⟨_, rfl, ?_⟩) | (go_at_call 84; (with_reducible refine (impl_ascends.calls k _ _ l0_0 (-100000) 100000 false _ ?d0 ?d1 A5.out).mono ?_); (case d0 => repeat (first | exact (Kd.C_below h6.out (hw_ HB)) | (with_reducible refine Kd.C_alloc ?_ _) | (with_reducible refine Kd.C_drewN ?_ _) | (with_reducible refine Kd.C_drew ?_))); (case d1 => exact h7.out); rintro e w' ⟨rfl, ⟨nd, rfl⟩⟩))
    go_ret
    exact ⟨re_, hw_ HB⟩
  ·rw [if_neg c4] at H; have b8 : ((l0_1.length : Int) == (l0_0.length : Int)) = false := beq_eq_false_iff_ne.mpr c4; have l3 : ((l0_1.length : Int) != (l0_0.length : Int)) = true := bne_iff_ne.mpr c4
   have n3 : (l0_1.length == l0_0.length) = false := by first | simpa using c4 | (simp at c4 ⊢; omega)
   obtain rfl := Option.some.inj H
   go_enter Try.func32, Try.ntmps32
   go_wp2_with (first | ((with_reducible refine gd_ 1 rfl ?_); (try (refine gate_guard (by rfl) ?_; dsimp only)); refine box_event ?hg (N := 1) ?hd (cs := #[.slice A0_0 l0_0.length c0_0, .slice A0_1 l0_1.length c0_1]) (t := 51) ?hr ?_; (case hd => rfl); (case hg => rfl); (case hr => exact hr_); intro g6 hg p5 hbox hb; have a6 := mk_ (hbox); have b3 := gb_ hg HB; replace HB := bp_ HB hb; have g7 := b3; clear hb hbox hg; have m4 := bc0_ a6; have m5 := bc1_ a6; have m6 := bf_ a6 0; have m7 := bf_ a6 1) | ((with_reducible refine gc_ 76 rfl ?_); refine gl_ (some 6) rfl Try.func76 #[.int .i64 (l0_0.length : Int), .int .i64 2, .int .i64 20] ?_; (with_reducible refine (impl_in.calls (l0_0.length : Int) 2 20 true _ A2.out).mono ?_); rintro e w' ⟨rfl, ⟨nd, rfl⟩⟩; refine ⟨_, rfl, ?_⟩))
   go_ret
   exact ⟨re_, hw_ HB⟩
 ·replace c3 := Bool.eq_false_iff.mpr c3; subst c3; rw [if_neg (show ¬ (false = true) by decide)] at H; obtain rfl := Option.some.inj H
  go_enter Try.func32, Try.ntmps32
  go_wp2_with (first | ((with_reducible refine gd_ 1 rfl ?_); (try (refine gate_guard (by rfl) ?_; dsimp only)); refine box_event ?hg (N := 1) ?hd (cs := #[.slice A0_0 l0_0.length c0_0, .slice A0_1 l0_1.length c0_1]) (t := 51) ?hr ?_; (case hd => rfl); (case hg => rfl); (case hr => exact hr_); intro g6 hg p6 hbox hb; have a6 := mk_ (hbox); have b3 := gb_ hg HB; replace HB := bp_ HB hb; have g7 := b3; clear hb hbox hg; have m8 := bc0_ a6; have m9 := bc1_ a6; have n0 := bf_ a6 0; have n1 := bf_ a6 1) | ((with_reducible refine gc_ 76 rfl ?_); refine gl_ (some 6) rfl Try.func76 #[.int .i64 (l0_0.length : Int), .int .i64 2, .int .i64 20] ?_; (with_reducible refine (impl_in.calls (l0_0.length : Int) 2 20 false _ A2.out).mono ?_); rintro e w' ⟨rfl, ⟨nd, rfl⟩⟩; refine ⟨_, rfl, ?_⟩))
  go_ret
  exact ⟨re_, hw_ HB⟩

/-! ### impl_piece: function 77 -/
def impl_piece.l0 : Nat → List Int → Int → Int → Option (Int)
 | 0, _, _, _ => none
 | k + 1, x0, x1, x5 => if (wrap64 (x5 + 2)) < (x0.length : Int) then (if 0 ≤ (wrap64 (x5 + 1)) then (if (wrap64 (x5 + 1)) < (x0.length : Int) then (if (rd x0 (wrap64 (x5 + 1))) ≤ x1 then (impl_piece.l0 k x0 x1 (wrap64 (x5 + 1))) else (some x5)) else (none)) else (none)) else (some x5)
def impl_piece.f (k : Nat) (l0 : List Int) (a1 : Int) : Option (Int) := impl_piece.l0 k l0 a1 0
theorem impl_piece.mono_l : ∀ k, (∀ y0 y1 y2, LeO (impl_piece.l0 k y0 y1 y2) (impl_piece.l0 (k + 1) y0 y1 y2))
 | 0 => fun _ _ _ r h => by simp [impl_piece.l0] at h
 | k + 1 => by
  have b2 := impl_piece.mono_l k
  ·intro y0 y1 y2
   unfold impl_piece.l0
   repeat' first
   | (with_reducible exact b2 _ _ _)
   | (with_reducible exact LeO.refl _)
   | (with_reducible exact LeO.none _)
   | (with_reducible refine LeO.ite ?_ ?_)
   | (with_reducible refine LeO.bind ?_ (fun _ => ?_))
   | exact b2 _ _ _
   | exact LeO.none _
   | refine LeO.ite ?_ ?_
   | refine LeO.bind ?_ (fun _ => ?_)
theorem impl_piece.mono : ∀ a0 a1 k, LeO (impl_piece.f k a0 a1) (impl_piece.f (k + 1) a0 a1) := by
 intro a0 a1 k
 have b2 := impl_piece.mono_l k
 unfold impl_piece.f
 repeat' first
   | (with_reducible exact b2 _ _ _)
   | (with_reducible exact LeO.refl _)
   | (with_reducible exact LeO.none _)
   | (with_reducible refine LeO.ite ?_ ?_)
   | (with_reducible refine LeO.bind ?_ (fun _ => ?_))
   | exact b2 _ _ _
   | exact LeO.none _
   | refine LeO.ite ?_ ?_
   | refine LeO.bind ?_ (fun _ => ?_)
set_option maxHeartbeats 8000000 in
set_option maxRecDepth 100000 in
theorem impl_piece.calls (k : Nat) (A0 : Option Addr) (c0 : Nat) (l0 : List Int) (a1 : Int) (r : Int) (w : World) (hr0 : Kd.C (Kd.int .i64) w A0 l0.length l0) (hc0 : l0.length ≤ c0) (h : impl_piece.f k l0 a1 = some r) :
  Calls Try.prog 77 #[.slice A0 l0.length c0, .int .i64 a1] w fun e w' => e = .returned (.int .i64 r) ∧ Drawn0 w w' := by
 have g1 := mk_ hr0; have o1 := mk_ hc0; clear hr0 hc0
 have H : (impl_piece.l0 k l0 a1 0) = some r := h
 clear h
 have H' := mk_ H
 clear H
 go_enter Try.func77, Try.ntmps77
 go_wp2
 go_loopg [5] k (fun kq v5 w' => ∃ (b6 : Int), v5 = .int .i64 b6 ∧ Aside0 (impl_piece.l0 kq l0 a1 b6 = some r) ∧ Aside0 (kq ≤ k) ∧ Drawn0 w w')
 case atStart => exact ⟨(0), rf_, H', ⟨Nat.le_refl _⟩, by repeat (first | exact Drawn0.refl _ | apply Drawn0.step)⟩
 case round => as_aux_lemma =>
  clear H'
  obtain ⟨b6, rfl, HA, g0, ⟨m1, rfl⟩⟩ := hrel
  cases gk with
  | zero => exact absurd HA.out (by simp [impl_piece.l0])
  | succ k1 =>
   have H := HA.out; clear HA
   simp only [impl_piece.l0] at H
   by_cases c3 : (wrap64 (b6 + 2)) < (l0.length : Int)
   ·rw [if_pos c3] at H; have j2 : decide ((wrap64 (b6 + 2)) < (l0.length : Int)) = true := decide_eq_true c3; clear c3
    obtain ⟨b7, g8⟩ : ∃ j_ : Int, (wrap64 (b6 + 1)) = j_ := ⟨_, rfl⟩
    replace H : (if 0 ≤ (b7) then (if (b7) < (l0.length : Int) then (if (rd l0 (b7)) ≤ a1 then (impl_piece.l0 k1 l0 a1 b7) else (some b6)) else (none)) else (none)) = some r := by first | (rw [g8] at H; exact H) | (simp only [g8] at H ⊢; exact H)
    have hji4w : (IntKind.i64.wrap (b6 + 1)) = b7 := (i64_w _).trans g8
    by_cases c5 : 0 ≤ (b7)
    ·rw [if_pos c5] at H; have j6 : decide (0 ≤ (b7)) = true := decide_eq_true c5; clear c5; by_cases c6 : (b7) < (l0.length : Int)
     ·rw [if_pos c6] at H; have j7 : decide ((b7) < (l0.length : Int)) = true := decide_eq_true c6; clear c6; by_cases c7 : (rd l0 (b7)) ≤ a1
      ·rw [if_pos c7] at H; have n8 : decide ((rd l0 (b7)) ≤ a1) = true := decide_eq_true c7; clear c7
       have H' := mk_ H
       clear H
       have d7 : 0 ≤ ((b7) : Int) := od_
       have d8 : (b7) < (l0.length : Int) := od_
       obtain ⟨l4, j3, h3⟩ := Kd.at_int g1.out (b7) d7 d8; cases j3; replace d7 := eq_true d7; replace d8 := eq_true d8; go_wp2; go_roundg k1
       case measure => have := g0.out; omega
       case rel => exact ⟨(b7), (by first | rfl | (simp; done) | (simp only [← g8] <;> (first | rfl | simp)) | (simp [*]; done)), H', ⟨by have := g0.out; omega⟩, by repeat (first | exact Drawn0.refl _ | apply Drawn0.step)⟩
      ·rw [if_neg c7] at H; have n8 : decide ((rd l0 (b7)) ≤ a1) = false := decide_eq_false c7; clear c7; obtain rfl := Option.some.inj H
       have d7 : 0 ≤ ((b7) : Int) := od_
       have d8 : (b7) < (l0.length : Int) := od_
       obtain ⟨l4, j3, h3⟩ := Kd.at_int g1.out (b7) d7 d8; cases j3; replace d7 := eq_true d7; replace d8 := eq_true d8; go_wp2; go_ret
       exact ⟨by first | rfl | (simp; done) | (simp only [← g8] <;> (first | rfl | simp)) | (simp [*]; done), by repeat (first | exact Drawn0.refl _ | apply Drawn0.step)⟩
     ·rw [if_neg c6] at H
      exact absurd H (by simp)
    ·rw [if_neg c5] at H
     exact absurd H (by simp)
   ·rw [if_neg c3] at H; have j2 : decide ((wrap64 (b6 + 2)) < (l0.length : Int)) = false := decide_eq_false c3; clear c3; obtain rfl := Option.some.inj H; go_wp2; go_ret
    exact ⟨by first | rfl | (simp; done) | (simp [*]; done), by repeat (first | exact Drawn0.refl _ | apply Drawn0.step)⟩

/-! ### impl_size: function 129 -/
def impl_size.f (a0 : Int) : Option (Int) := some (mx a0 (wrap64 (-a0)))
set_option maxHeartbeats 8000000 in
set_option maxRecDepth 100000 in
theorem impl_size.calls (a0 : Int) (r : Int) (w : World) (h : impl_size.f a0 = some r) :
  Calls Try.prog 129 #[.int .i64 a0] w fun e w' => e = .returned (.int .i64 r) ∧ Below w.heap.size w w' := by
 have HB := mk_ (Below.refl w.heap.size w)
 have H : (some (mx a0 (wrap64 (-a0)))) = some r := h
 clear h
 obtain ⟨o6, h4⟩ : ∃ j_ : Int, (mx a0 (wrap64 (-a0))) = j_ := ⟨_, rfl⟩
 replace H : (some o6) = some r := by first | (rw [h4] at H; exact H) | (simp only [h4] at H ⊢; exact H)
 have o7 : (if a0 < (wrap64 (-a0)) then (wrap64 (-a0)) else a0) = o6 := h4
 obtain rfl := Option.some.inj H
 go_enter Try.func129, Try.ntmps129
 go_wp2; go_ret
 exact ⟨by first | rfl | (simp [errW_none, errW_some] <;> rfl) | (simp only [← h4]; first | rfl | (simp [errW_none, errW_some] <;> rfl)) | (simp [*, errW_none, errW_some] <;> rfl), hw_ HB⟩

/-! ### impl_gcd: function 120 -/
def impl_gcd.l0 : Nat → Int → Int → Option (Int)
 | 0, _, _ => none
 | k + 1, x0, x1 => if x1 = 0 then ((impl_size.f x0).bind fun g9 => (some g9)) else (impl_gcd.l0 k x1 (Int.tmod x0 x1))
def impl_gcd.f (k : Nat) (a0 : Int) (a1 : Int) : Option (Int) := impl_gcd.l0 k a0 a1
theorem impl_gcd.mono_l : ∀ k, (∀ y0 y1, LeO (impl_gcd.l0 k y0 y1) (impl_gcd.l0 (k + 1) y0 y1))
 | 0 => fun _ _ r h => by simp [impl_gcd.l0] at h
 | k + 1 => by
  have b2 := impl_gcd.mono_l k
  ·intro y0 y1
   unfold impl_gcd.l0
   repeat' first
   | (with_reducible exact b2 _ _)
   | (with_reducible exact LeO.refl _)
   | (with_reducible exact LeO.none _)
   | (with_reducible refine LeO.ite ?_ ?_)
   | (with_reducible refine LeO.bind ?_ (fun _ => ?_))
   | exact b2 _ _
   | exact LeO.none _
   | refine LeO.ite ?_ ?_
   | refine LeO.bind ?_ (fun _ => ?_)
theorem impl_gcd.mono : ∀ a0 a1 k, LeO (impl_gcd.f k a0 a1) (impl_gcd.f (k + 1) a0 a1) := by
 intro a0 a1 k
 have b2 := impl_gcd.mono_l k
 unfold impl_gcd.f
 repeat' first
   | (with_reducible exact b2 _ _)
   | (with_reducible exact LeO.refl _)
   | (with_reducible exact LeO.none _)
   | (with_reducible refine LeO.ite ?_ ?_)
   | (with_reducible refine LeO.bind ?_ (fun _ => ?_))
   | exact b2 _ _
   | exact LeO.none _
   | refine LeO.ite ?_ ?_
   | refine LeO.bind ?_ (fun _ => ?_)
set_option maxHeartbeats 8000000 in
set_option maxRecDepth 100000 in
theorem impl_gcd.calls (k : Nat) (a0 : Int) (a1 : Int) (r : Int) (w : World) (h : impl_gcd.f k a0 a1 = some r) :
  Calls Try.prog 120 #[.int .i64 a0, .int .i64 a1] w fun e w' => e = .returned (.int .i64 r) ∧ Below w.heap.size w w' := by
 have HB := mk_ (Below.refl w.heap.size w)
 have H : (impl_gcd.l0 k a0 a1) = some r := h
 clear h
 have H' := mk_ H
 clear H
 go_enter Try.func120, Try.ntmps120
 go_wp2
 repeat (go_quiet (fail); try go_wp2)
 go_loopg [0, 1] k (fun kq v0 v1 w' => ∃ (d9 : Int) (b4 : Int), v0 = .int .i64 d9 ∧ v1 = .int .i64 b4 ∧ Aside0 (impl_gcd.l0 kq d9 b4 = some r) ∧ Aside0 (kq ≤ k) ∧ Aside0 (Below w.heap.size w w'))
 case atStart => exact ⟨(a0), (a1), rf_, rf_, H', ⟨Nat.le_refl _⟩, ⟨hw_ HB⟩⟩
 case round => as_aux_lemma =>
  clear H'
  obtain ⟨d9, b4, rfl, rfl, HA, g0, HB⟩ := hrel
  cases gk with
  | zero => exact absurd HA.out (by simp [impl_gcd.l0])
  | succ k1 =>
   have H := HA.out; clear HA
   simp only [impl_gcd.l0] at H
   by_cases c3 : b4 = 0
   ·rw [if_pos c3] at H; have j2 : (b4 == 0) = true := beq_iff_eq.mpr c3; have n9 : (b4 != 0) = false := bne_eq_false_iff_eq.mpr c3; clear c3; replace H := Option.bind_eq_some_iff.mp H; obtain ⟨g9, o8, H⟩ := H; (try dsimp only at H); have A4 := mk_ o8; clear o8; obtain rfl := Option.some.inj H
    go_wp2_with (first | (go_at_call 129; (with_reducible refine (impl_size.calls d9 g9 _ A4.out).mono ?_); rintro e w5 ⟨rfl, hb⟩; replace HB := hk_ HB hb; (try clear hb); (try clear o0); (try clear hk); (try clear hi)))
    repeat (go_quiet (first | (go_at_call 129; (with_reducible refine (impl_size.calls d9 g9 _ A4.out).mono ?_); rintro e w5 ⟨rfl, hb⟩; replace HB := hk_ HB hb; (try clear hb); (try clear o0); (try clear hk); (try clear hi))); try go_wp2_with (first | (go_at_call 129; (with_reducible refine (impl_size.calls d9 g9 _ A4.out).mono ?_); rintro e w5 ⟨rfl, hb⟩; replace HB := hk_ HB hb; (try clear hb); (try clear o0); (try clear hk); (try clear hi))))
    go_ret
    exact ⟨re_, hw_ HB⟩
   ·rw [if_neg c3] at H; have j2 : (b4 == 0) = false := beq_eq_false_iff_ne.mpr c3; have n9 : (b4 != 0) = true := bne_iff_ne.mpr c3
    have H' := mk_ H
    clear H; go_wp2
    repeat (go_quiet (fail); try go_wp2)
    go_roundg k1
    case measure => have := g0.out; omega
    case rel => exact ⟨(b4), (Int.tmod d9 b4), rf_, rf_, H', ⟨by have := g0.out; omega⟩, ⟨hw_ HB⟩⟩

/-! ### impl_frac: function 78 -/
def impl_frac.f (k : Nat) (a0 : Int) (a1 : Int) : Option (Int × Int) := (impl_gcd.f k a0 a1).bind fun a7 => (if a7 = 0 then (none) else (some (wrap64 (Int.tdiv a0 a7), wrap64 (Int.tdiv a1 a7))))
theorem impl_frac.mono : ∀ a0 a1 k, LeO (impl_frac.f k a0 a1) (impl_frac.f (k + 1) a0 a1) := by
 intro a0 a1 k
 unfold impl_frac.f
 repeat' first
   | (with_reducible exact impl_gcd.mono _ _ _)
   | (with_reducible exact LeO.refl _)
   | (with_reducible exact LeO.none _)
   | (with_reducible refine LeO.ite ?_ ?_)
   | (with_reducible refine LeO.bind ?_ (fun _ => ?_))
   | exact impl_gcd.mono _ _ _
   | exact LeO.none _
   | refine LeO.ite ?_ ?_
   | refine LeO.bind ?_ (fun _ => ?_)
def impl_frac.T2 : Bool × List (List Nat × List Nat) := (true, [([], []), ([], []), ([0, 1], [0, 1]), ([], []), ([], []), ([3, 4], [3, 4]), ([2, 5], [2, 5]), ([6, 0, 1, 2, 3, 4, 5, 6], [6])])
def impl_frac.B2 : List Nat := [0, 0, 3, 0, 0, 24, 63, 127]
theorem impl_frac.tab2 : rtab .any (opsOf Try.f78 2) = impl_frac.T2 := by kernel_rfl
theorem impl_frac.bits2 : waitsOk impl_frac.T2.2 impl_frac.B2 = true := by kernel_rfl
set_option maxHeartbeats 8000000 in
set_option maxRecDepth 100000 in
theorem impl_frac.calls (k : Nat) (a0 : Int) (a1 : Int) (r1 : Int) (r2 : Int) (w : World) (h : impl_frac.f k a0 a1 = some (r1, r2)) :
  Calls Try.prog 78 #[.int .i64 a0, .int .i64 a1] w fun e w' => e = .returned (.agg #[.int .i64 r1, .int .i64 r2]) ∧ Below w.heap.size w w' := by
 have p1 := Try.underlying48
 have HB := mk_ (Below.refl w.heap.size w)
 have H : ((impl_gcd.f k a0 a1).bind fun a7 => (if a7 = 0 then (none) else (some (wrap64 (Int.tdiv a0 a7), wrap64 (Int.tdiv a1 a7))))) = some (r1, r2) := h
 clear h; replace H := Option.bind_eq_some_iff.mp H; obtain ⟨a7, o9, H⟩ := H
 replace H : (if a7 = 0 then (none) else (some (wrap64 (Int.tdiv a0 a7), wrap64 (Int.tdiv a1 a7)))) = some (r1, r2) := H
 have A3 := mk_ o9; clear o9; by_cases c4 : a7 = 0
 ·rw [if_pos c4] at H
  exact absurd H (by simp)
 ·rw [if_neg c4] at H; have b8 : (a7 == 0) = false := beq_eq_false_iff_ne.mpr c4; have l3 : (a7 != 0) = true := bne_iff_ne.mpr c4
  simp only [Option.some.injEq, Prod.mk.injEq] at H
  obtain ⟨rfl, rfl⟩ := H
  go_enter Try.func78, Try.ntmps78
  try go_wp2_with (first | ((with_reducible refine gd_ 4 rfl ?_); refine box_event ?hg (N := 4) ?hd (cs := #[.int .i64 0, .int .i64 0]) (t := 48) ?hr ?_; (case hd => rfl); (case hg => rfl); (case hr => exact hr_); intro h0 hg w5 hbox hb; have a9 := mk_ (hbox); have l5 := gb_ hg HB; replace HB := bp_ HB hb; have l6 := l5; clear hb hbox hg) | ((with_reducible refine gc_ 120 rfl ?_); refine gl_ (some 8) rfl Try.func120 #[.int .i64 a0, .int .i64 a1] ?_; (with_reducible refine (impl_gcd.calls k a0 a1 a7 _ A3.out).mono ?_); rintro e w6 ⟨rfl, hb⟩; refine ⟨_, rfl, ?_⟩; replace a9 := bl_ a9 hb; replace HB := bp_ HB hb; (try clear hb); (try clear o0); (try clear hk); (try clear hi)))
  replace a9 := dB_ a9; replace HB := dH_ HB
  refine start_ (n := 8) (S := fun w' => True) (ds := []) (bs_ 8 0) (by kernel_rfl) rfl rfl trivial (fun hHeld => ?_); refine with_tabW impl_frac.tab2 impl_frac.bits2 (fun HT_ HW_ => ?_)
  generalize w6.drew = w7 at a9 HB hHeld ⊢
  refine pu_ HT_ 0 9 (bs_ 8 1) ?_; refine pu_ HT_ 1 10 (bs_ 8 3) ?_; refine pu_ HT_ 2 11 (bs_ 8 7) ?_; refine pu_ HT_ 3 12 (bs_ 8 15) ?_; refine pu_ HT_ 4 13 (bs_ 8 31) ?_; refine pu_ HT_ 5 14 (bs_ 8 63) ?_; refine pu_ HT_ 6 15 (bs_ 8 127) ?_
  refine one_ (i := 7) (N := none) (bs_ 8 255) rfl rfl (one_of HT_.out (by kernel_rfl)) (by decide) (fun K hK => ?_)
  have p7 : w7.cell? ⟨h0, 0, none⟩ = some (.int .i64 0) := bc0_ a9
  have p2 := blk_frozen a9.out 0
  have p8 : w7.cell? ⟨h0, 1, none⟩ = some (.int .i64 0) := bc1_ a9
  have p3 := blk_frozen a9.out 1
  refine skip_ (w1 := ?_) (by rfl) rfl ?_ ?_
  rotate_left
  ·go_simp
   rfl
  refine hK.out _ _ trivial (fun hHeld => ?_)
  clear hK K
  refine done_ (done_of HT_.out (by kernel_rfl)) ?_
  try go_wp2
  refine bodyPost_ret (results_cell_row rfl _ _ h0 48 #[.int .i64 (wrap64 (Int.tdiv a0 a7)), .int .i64 (wrap64 (Int.tdiv a1 a7))] (0, 0) _ rfl (by (with_reducible repeat (first | refine blk_drewN ?_ _ | refine blk_drew ?_ | refine blk_alloc ?_ _)); refine blk_put (cs := #[.int .i64 (wrap64 (Int.tdiv a0 a7)), .int .i64 0]) ?_ 1 _ rfl; (with_reducible repeat (first | refine blk_drewN ?_ _ | refine blk_drew ?_ | refine blk_alloc ?_ _)); refine blk_put (cs := #[.int .i64 0, .int .i64 0]) ?_ 0 _ rfl; (with_reducible repeat (first | refine blk_drewN ?_ _ | refine blk_drew ?_ | refine blk_alloc ?_ _)); exact a9.out) Try.underlying48 rfl (by kernel_rfl)) rfl ?_
  exact ⟨re_, by repeat (first | (with_reducible first | exact HB.out | apply below_alloc | apply pw_below_drewN | apply below_drew1 | refine below_set ?_ l6.out) | exact HB.out)⟩

/-! ### impl_between: function 79 -/
def impl_between.f (a0 : Int) (a1 : Int) (a2 : Int) (a3 : Int) (a4 : Int) : Option (Int × Int) := some (wrap64 ((wrap64 (a2 * (wrap64 (a1 - a0)))) + (wrap64 ((wrap64 (a3 - a2)) * (wrap64 (a4 - a0))))), wrap64 (a1 - a0))
set_option maxHeartbeats 8000000 in
set_option maxRecDepth 100000 in
theorem impl_between.calls (a0 : Int) (a1 : Int) (a2 : Int) (a3 : Int) (a4 : Int) (r1 : Int) (r2 : Int) (w : World) (h : impl_between.f a0 a1 a2 a3 a4 = some (r1, r2)) :
  Calls Try.prog 79 #[.int .i64 a0, .int .i64 a1, .int .i64 a2, .int .i64 a3, .int .i64 a4] w fun e w' => e = .returned (.tuple #[.int .i64 r1, .int .i64 r2]) ∧ Drawn0 w w' := by
 have H : (some (wrap64 ((wrap64 (a2 * (wrap64 (a1 - a0)))) + (wrap64 ((wrap64 (a3 - a2)) * (wrap64 (a4 - a0))))), wrap64 (a1 - a0))) = some (r1, r2) := h
 clear h
 simp only [Option.some.injEq, Prod.mk.injEq] at H
 obtain ⟨rfl, rfl⟩ := H
 go_enter Try.func79, Try.ntmps79
 go_wp2
 go_ret2
 exact ⟨by first | rfl | (simp; done) | (simp [*]; done), by repeat (first | exact Drawn0.refl _ | apply Drawn0.step)⟩

end Go.Proofs.Ytnphbpkpjinddaa.QFnTables
-- squeezed
