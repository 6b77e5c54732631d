/- Lean functions that tell what the Go functions used by one law answer, and for each a proof that the Go code comes to just these answers; no condition. Printed by this session's own program over the kit's printer. -/
import Derived.Test.YteedbciobdcmaaaWSq
import Derived.Test.YteedbciobdcmaaaQFnExactLeavesx0
import Derived.Test.YteedbciobdcmaaaQFnExactLeavesx8
namespace Go.Proofs.Yteedbciobdcmaaa.QFnExactLeaves
open Go.RowKit Go.Proofs.YteedbciobdcmaaaW.PrintWords Go.Proofs.YteedbciobdcmaaaW.PrintLast Go.Proofs.YteedbciobdcmaaaW.PrintMore
attribute [local go_sem] max2_int min2_int max_two min_two max_three min_three max_four min_four   -- for this text's walks alone
attribute [local go_sem high] go_eql go_neq go_lss go_leq go_gtr go_geq go_store   -- for this text's walks alone
set_option linter.unusedVariables false
set_option linter.unusedSimpArgs false

/-! ### impl_ascends: function 63 -/
def impl_ascends.l0 : Nat → List Int → Int → Int → List Int → Int → Int → Option (Bool)
 | 0, _, _, _, _, _, _ => none
 | k + 1, x0, x1, x2, x9, x10, x11 => if x11 < x10 then (if 0 ≤ x11 then (if x11 < (x9.length : Int) then ((impl_in.f (rd x9 x11) x1 x2).bind fun t249 => (if t249 = true then (if x11 > 0 then (if 0 ≤ (wrap64 (x11 - 1)) then (if (wrap64 (x11 - 1)) < (x0.length : Int) then (if (rd x0 (wrap64 (x11 - 1))) ≥ (rd x9 x11) then (some false) else (impl_ascends.l0 k x0 x1 x2 x9 x10 (wrap64 (x11 + 1)))) else (none)) else (none)) else (impl_ascends.l0 k x0 x1 x2 x9 x10 (wrap64 (x11 + 1)))) else (some false))) else (none)) else (none)) else (some true)
def impl_ascends.f (k : Nat) (l0 : List Int) (a1 : Int) (a2 : Int) : Option (Bool) := impl_ascends.l0 k l0 a1 a2 l0 (l0.length : Int) 0
theorem impl_ascends.mono_l : ∀ k, (∀ y0 y1 y2 y3 y4 y5, LeO (impl_ascends.l0 k y0 y1 y2 y3 y4 y5) (impl_ascends.l0 (k + 1) y0 y1 y2 y3 y4 y5))
 | 0 => fun _ _ _ _ _ _ r h => by simp [impl_ascends.l0] at h
 | k + 1 => by
  have ih0 := impl_ascends.mono_l k
  ·intro y0 y1 y2 y3 y4 y5
   unfold impl_ascends.l0
   repeat' first
   | (with_reducible exact ih0 _ _ _ _ _ _)
   | (with_reducible exact LeO.refl _)
   | (with_reducible exact LeO.none _)
   | (with_reducible refine LeO.ite ?_ ?_)
   | (with_reducible refine LeO.bind ?_ (fun _ => ?_))
   | exact ih0 _ _ _ _ _ _
   | exact LeO.none _
   | refine LeO.ite ?_ ?_
   | refine LeO.bind ?_ (fun _ => ?_)
theorem impl_ascends.mono : ∀ a0 a1 a2 k, LeO (impl_ascends.f k a0 a1 a2) (impl_ascends.f (k + 1) a0 a1 a2) := by
 intro a0 a1 a2 k
 have ih0 := impl_ascends.mono_l k
 unfold impl_ascends.f
 repeat' first
   | (with_reducible exact ih0 _ _ _ _ _ _)
   | (with_reducible exact LeO.refl _)
   | (with_reducible exact LeO.none _)
   | (with_reducible refine LeO.ite ?_ ?_)
   | (with_reducible refine LeO.bind ?_ (fun _ => ?_))
   | exact ih0 _ _ _ _ _ _
   | exact LeO.none _
   | refine LeO.ite ?_ ?_
   | refine LeO.bind ?_ (fun _ => ?_)
set_option maxHeartbeats 8000000 in
set_option maxRecDepth 100000 in
theorem impl_ascends.calls (k : Nat) (A0 : Option Addr) (c0 : Nat) (l0 : List Int) (a1 : Int) (a2 : Int) (r : Bool) (w : World) (hr0 : Kd.C (Kd.int .i64) w A0 l0.length l0) (hc0 : l0.length ≤ c0) (h : impl_ascends.f k l0 a1 a2 = some r) :
  Calls Try.prog 63 #[.slice A0 l0.length c0, .int .i64 a1, .int .i64 a2] w fun e w' => e = .returned (.bool r) ∧ Drawn0 w w' := by
 have HR0 := mk_ hr0; have HC0 := mk_ hc0; clear hr0 hc0
 have H : (impl_ascends.l0 k l0 a1 a2 l0 (l0.length : Int) 0) = some r := h
 clear h
 have H' := mk_ H
 clear H
 go_enter Try.func63, Try.ntmps63
 go_wp2
 go_loopg [11] k (fun kq v11 w' => ∃ (x11_1 : Int), v11 = .int .i64 x11_1 ∧ Aside0 (impl_ascends.l0 kq l0 a1 a2 l0 (l0.length : Int) x11_1 = some r) ∧ Aside0 (kq ≤ k) ∧ Drawn0 w w')
 case atStart => exact ⟨(0), rf_, H', ⟨Nat.le_refl _⟩, by repeat (first | exact Drawn0.refl _ | apply Drawn0.step)⟩
 case round =>
  clear H'
  obtain ⟨x11_1, rfl, HA, HK1, ⟨m1, rfl⟩⟩ := hrel
  cases gk with
  | zero => exact absurd HA.out (by simp [impl_ascends.l0])
  | succ k1 =>
   have H := HA.out; clear HA
   simp only [impl_ascends.l0] at H
   by_cases c4 : x11_1 < (l0.length : Int)
   ·rw [if_pos c4] at H; have c4b0 : decide (x11_1 < (l0.length : Int)) = true := decide_eq_true c4; clear c4; by_cases c5 : 0 ≤ x11_1
    ·rw [if_pos c5] at H; have c5b0 : decide (0 ≤ x11_1) = true := decide_eq_true c5; clear c5; by_cases c6 : x11_1 < (l0.length : Int)
     ·rw [if_pos c6] at H; have c6b0 : decide (x11_1 < (l0.length : Int)) = true := decide_eq_true c6; clear c6; replace H := Option.bind_eq_some_iff.mp H; obtain ⟨t249, A70, H⟩ := H; (try dsimp only at H); have A7 := mk_ A70; clear A70; by_cases c8 : t249 = true
      ·subst c8; rw [if_pos rfl] at H
       by_cases c9 : x11_1 > 0
       ·rw [if_pos c9] at H; have c9b0 : decide (0 < x11_1) = true := decide_eq_true c9; clear c9
        obtain ⟨ji10, hji10⟩ : ∃ j_ : Int, (wrap64 (x11_1 - 1)) = j_ := ⟨_, rfl⟩
        replace H : (if 0 ≤ (ji10) then (if (ji10) < (l0.length : Int) then (if (rd l0 (ji10)) ≥ (rd l0 x11_1) then (some false) else (impl_ascends.l0 k1 l0 a1 a2 l0 (l0.length : Int) (wrap64 (x11_1 + 1)))) else (none)) else (none)) = some r := by first | (rw [hji10] at H; exact H) | (simp only [hji10] at H ⊢; exact H)
        (try rw [hji10] at A7)
        have hji10w : (IntKind.i64.wrap (x11_1 - 1)) = ji10 := (i64_w _).trans hji10
        by_cases c11 : 0 ≤ (ji10)
        ·rw [if_pos c11] at H; have c11b0 : decide (0 ≤ (ji10)) = true := decide_eq_true c11; clear c11; by_cases c12 : (ji10) < (l0.length : Int)
         ·rw [if_pos c12] at H; have c12b0 : decide ((ji10) < (l0.length : Int)) = true := decide_eq_true c12; clear c12; by_cases c13 : (rd l0 (ji10)) ≥ (rd l0 x11_1)
          ·rw [if_pos c13] at H; have c13b0 : decide ((rd l0 x11_1) ≤ (rd l0 (ji10))) = true := decide_eq_true c13; clear c13; obtain rfl := Option.some.inj H
           have p248 : 0 ≤ (x11_1 : Int) := od_
           have q248 : x11_1 < (l0.length : Int) := od_
           obtain ⟨ad248, e248, hx248_0⟩ := Kd.at_int HR0.out x11_1 p248 q248; cases e248; replace p248 := eq_true p248; replace q248 := eq_true q248
           go_wp2_with (first | ((with_reducible refine gc_ 48 rfl ?_); refine gl_ (some 19) rfl Try.func48 #[.int .i64 (rd l0 x11_1), .int .i64 a1, .int .i64 a2] ?_; (with_reducible refine (impl_in.calls (rd l0 x11_1) a1 a2 true _ A7.out).mono ?_); rintro e w' ⟨rfl, ⟨nd, rfl⟩⟩; refine ⟨_, rfl, ?_⟩; have p250 : 0 ≤ ((ji10) : Int) := od_; have q250 : (ji10) < (l0.length : Int) := od_; obtain ⟨ad250, e250, hx250_0⟩ := Kd.at_int HR0.out (ji10) p250 q250; obtain rfl : ad248 = ad250 := (by injection e250); replace p250 := eq_true p250; replace q250 := eq_true q250))
           go_ret
           exact ⟨by first | rfl | (simp; done) | (simp only [← hji10] <;> (first | rfl | simp)) | (simp [*]; done), by repeat (first | exact Drawn0.refl _ | apply Drawn0.step)⟩
          ·rw [if_neg c13] at H; have c13b0 : decide ((rd l0 x11_1) ≤ (rd l0 (ji10))) = false := decide_eq_false c13; clear c13
           have H' := mk_ H
           clear H
           have p248 : 0 ≤ (x11_1 : Int) := od_
           have q248 : x11_1 < (l0.length : Int) := od_
           obtain ⟨ad248, e248, hx248_0⟩ := Kd.at_int HR0.out x11_1 p248 q248; cases e248; replace p248 := eq_true p248; replace q248 := eq_true q248
           go_wp2_with (first | ((with_reducible refine gc_ 48 rfl ?_); refine gl_ (some 19) rfl Try.func48 #[.int .i64 (rd l0 x11_1), .int .i64 a1, .int .i64 a2] ?_; (with_reducible refine (impl_in.calls (rd l0 x11_1) a1 a2 true _ A7.out).mono ?_); rintro e w' ⟨rfl, ⟨nd, rfl⟩⟩; refine ⟨_, rfl, ?_⟩; have p250 : 0 ≤ ((ji10) : Int) := od_; have q250 : (ji10) < (l0.length : Int) := od_; obtain ⟨ad250, e250, hx250_0⟩ := Kd.at_int HR0.out (ji10) p250 q250; obtain rfl : ad248 = ad250 := (by injection e250); replace p250 := eq_true p250; replace q250 := eq_true q250))
           go_roundg k1
           case measure => have := HK1.out; omega
           case rel => exact ⟨(wrap64 (x11_1 + 1)), rf_, H', ⟨by have := HK1.out; omega⟩, by repeat (first | exact Drawn0.refl _ | apply Drawn0.step)⟩
         ·rw [if_neg c12] at H
          exact absurd H (by simp)
        ·rw [if_neg c11] at H
         exact absurd H (by simp)
       ·rw [if_neg c9] at H; have c9b0 : decide (0 < x11_1) = false := decide_eq_false c9; clear c9
        have H' := mk_ H
        clear H
        have p248 : 0 ≤ (x11_1 : Int) := od_
        have q248 : x11_1 < (l0.length : Int) := od_
        obtain ⟨ad248, e248, hx248_0⟩ := Kd.at_int HR0.out x11_1 p248 q248; cases e248; replace p248 := eq_true p248; replace q248 := eq_true q248
        go_wp2_with (first | ((with_reducible refine gc_ 48 rfl ?_); refine gl_ (some 19) rfl Try.func48 #[.int .i64 (rd l0 x11_1), .int .i64 a1, .int .i64 a2] ?_; (with_reducible refine (impl_in.calls (rd l0 x11_1) a1 a2 true _ A7.out).mono ?_); rintro e w' ⟨rfl, ⟨nd, rfl⟩⟩; refine ⟨_, rfl, ?_⟩))
        go_roundg k1
        case measure => have := HK1.out; omega
        case rel => exact ⟨(wrap64 (x11_1 + 1)), rf_, H', ⟨by have := HK1.out; omega⟩, by repeat (first | exact Drawn0.refl _ | apply Drawn0.step)⟩
      ·replace c8 := Bool.eq_false_iff.mpr c8; subst c8; rw [if_neg (show ¬ (false = true) by decide)] at H; obtain rfl := Option.some.inj H
       have p248 : 0 ≤ (x11_1 : Int) := od_
       have q248 : x11_1 < (l0.length : Int) := od_
       obtain ⟨ad248, e248, hx248_0⟩ := Kd.at_int HR0.out x11_1 p248 q248; cases e248; replace p248 := eq_true p248; replace q248 := eq_true q248
       go_wp2_with (first | ((with_reducible refine gc_ 48 rfl ?_); refine gl_ (some 19) rfl Try.func48 #[.int .i64 (rd l0 x11_1), .int .i64 a1, .int .i64 a2] ?_; (with_reducible refine (impl_in.calls (rd l0 x11_1) a1 a2 false _ A7.out).mono ?_); rintro e w' ⟨rfl, ⟨nd, rfl⟩⟩; refine ⟨_, rfl, ?_⟩))
       go_ret
       exact ⟨by first | rfl | (simp; done) | (simp [*]; done), by repeat (first | exact Drawn0.refl _ | apply Drawn0.step)⟩
     ·rw [if_neg c6] at H
      exact absurd H (by simp)
    ·rw [if_neg c5] at H
     exact absurd H (by simp)
   ·rw [if_neg c4] at H; have c4b0 : decide (x11_1 < (l0.length : Int)) = false := decide_eq_false c4; clear c4; obtain rfl := Option.some.inj H; go_wp2; go_ret
    exact ⟨by first | rfl | (simp; done) | (simp [*]; done), by repeat (first | exact Drawn0.refl _ | apply Drawn0.step)⟩

/-! ### impl_allIn: function 64 -/
def impl_allIn.l0 : Nat → Int → Int → List Int → Int → Int → Option (Bool)
 | 0, _, _, _, _, _ => none
 | k + 1, x1, x2, x9, x10, x11 => if x11 < x10 then (if 0 ≤ x11 then (if x11 < (x9.length : Int) then ((impl_in.f (rd x9 x11) x1 x2).bind fun t252 => (if t252 = true then (impl_allIn.l0 k x1 x2 x9 x10 (wrap64 (x11 + 1))) else (some false))) else (none)) else (none)) else (some true)
def impl_allIn.f (k : Nat) (l0 : List Int) (a1 : Int) (a2 : Int) : Option (Bool) := impl_allIn.l0 k a1 a2 l0 (l0.length : Int) 0
theorem impl_allIn.mono_l : ∀ k, (∀ y0 y1 y2 y3 y4, LeO (impl_allIn.l0 k y0 y1 y2 y3 y4) (impl_allIn.l0 (k + 1) y0 y1 y2 y3 y4))
 | 0 => fun _ _ _ _ _ r h => by simp [impl_allIn.l0] at h
 | k + 1 => by
  have ih0 := impl_allIn.mono_l k
  ·intro y0 y1 y2 y3 y4
   unfold impl_allIn.l0
   repeat' first
   | (with_reducible exact ih0 _ _ _ _ _)
   | (with_reducible exact LeO.refl _)
   | (with_reducible exact LeO.none _)
   | (with_reducible refine LeO.ite ?_ ?_)
   | (with_reducible refine LeO.bind ?_ (fun _ => ?_))
   | exact ih0 _ _ _ _ _
   | exact LeO.none _
   | refine LeO.ite ?_ ?_
   | refine LeO.bind ?_ (fun _ => ?_)
theorem impl_allIn.mono : ∀ a0 a1 a2 k, LeO (impl_allIn.f k a0 a1 a2) (impl_allIn.f (k + 1) a0 a1 a2) := by
 intro a0 a1 a2 k
 have ih0 := impl_allIn.mono_l k
 unfold impl_allIn.f
 repeat' first
   | (with_reducible exact ih0 _ _ _ _ _)
   | (with_reducible exact LeO.refl _)
   | (with_reducible exact LeO.none _)
   | (with_reducible refine LeO.ite ?_ ?_)
   | (with_reducible refine LeO.bind ?_ (fun _ => ?_))
   | exact ih0 _ _ _ _ _
   | exact LeO.none _
   | refine LeO.ite ?_ ?_
   | refine LeO.bind ?_ (fun _ => ?_)
set_option maxHeartbeats 8000000 in
set_option maxRecDepth 100000 in
theorem impl_allIn.calls (k : Nat) (A0 : Option Addr) (c0 : Nat) (l0 : List Int) (a1 : Int) (a2 : Int) (r : Bool) (w : World) (hr0 : Kd.C (Kd.int .i64) w A0 l0.length l0) (hc0 : l0.length ≤ c0) (h : impl_allIn.f k l0 a1 a2 = some r) :
  Calls Try.prog 64 #[.slice A0 l0.length c0, .int .i64 a1, .int .i64 a2] w fun e w' => e = .returned (.bool r) ∧ Drawn0 w w' := by
 have HR0 := mk_ hr0; have HC0 := mk_ hc0; clear hr0 hc0
 have H : (impl_allIn.l0 k a1 a2 l0 (l0.length : Int) 0) = some r := h
 clear h
 have H' := mk_ H
 clear H
 go_enter Try.func64, Try.ntmps64
 go_wp2
 go_loopg [11] k (fun kq v11 w' => ∃ (x11_1 : Int), v11 = .int .i64 x11_1 ∧ Aside0 (impl_allIn.l0 kq a1 a2 l0 (l0.length : Int) x11_1 = some r) ∧ Aside0 (kq ≤ k) ∧ Drawn0 w w')
 case atStart => exact ⟨(0), rf_, H', ⟨Nat.le_refl _⟩, by repeat (first | exact Drawn0.refl _ | apply Drawn0.step)⟩
 case round =>
  clear H'
  obtain ⟨x11_1, rfl, HA, HK1, ⟨m1, rfl⟩⟩ := hrel
  cases gk with
  | zero => exact absurd HA.out (by simp [impl_allIn.l0])
  | succ k1 =>
   have H := HA.out; clear HA
   simp only [impl_allIn.l0] at H
   by_cases c4 : x11_1 < (l0.length : Int)
   ·rw [if_pos c4] at H; have c4b0 : decide (x11_1 < (l0.length : Int)) = true := decide_eq_true c4; clear c4; by_cases c5 : 0 ≤ x11_1
    ·rw [if_pos c5] at H; have c5b0 : decide (0 ≤ x11_1) = true := decide_eq_true c5; clear c5; by_cases c6 : x11_1 < (l0.length : Int)
     ·rw [if_pos c6] at H; have c6b0 : decide (x11_1 < (l0.length : Int)) = true := decide_eq_true c6; clear c6; replace H := Option.bind_eq_some_iff.mp H; obtain ⟨t252, A70, H⟩ := H; (try dsimp only at H); have A7 := mk_ A70; clear A70; by_cases c8 : t252 = true
      ·subst c8; rw [if_pos rfl] at H
       have H' := mk_ H
       clear H
       have p251 : 0 ≤ (x11_1 : Int) := od_
       have q251 : x11_1 < (l0.length : Int) := od_
       obtain ⟨ad251, e251, hx251_0⟩ := Kd.at_int HR0.out x11_1 p251 q251; cases e251; replace p251 := eq_true p251; replace q251 := eq_true q251
       go_wp2_with (first | ((with_reducible refine gc_ 48 rfl ?_); refine gl_ (some 18) rfl Try.func48 #[.int .i64 (rd l0 x11_1), .int .i64 a1, .int .i64 a2] ?_; (with_reducible refine (impl_in.calls (rd l0 x11_1) a1 a2 true _ A7.out).mono ?_); rintro e w' ⟨rfl, ⟨nd, rfl⟩⟩; refine ⟨_, rfl, ?_⟩))
       go_roundg k1
       case measure => have := HK1.out; omega
       case rel => exact ⟨(wrap64 (x11_1 + 1)), rf_, H', ⟨by have := HK1.out; omega⟩, by repeat (first | exact Drawn0.refl _ | apply Drawn0.step)⟩
      ·replace c8 := Bool.eq_false_iff.mpr c8; subst c8; rw [if_neg (show ¬ (false = true) by decide)] at H; obtain rfl := Option.some.inj H
       have p251 : 0 ≤ (x11_1 : Int) := od_
       have q251 : x11_1 < (l0.length : Int) := od_
       obtain ⟨ad251, e251, hx251_0⟩ := Kd.at_int HR0.out x11_1 p251 q251; cases e251; replace p251 := eq_true p251; replace q251 := eq_true q251
       go_wp2_with (first | ((with_reducible refine gc_ 48 rfl ?_); refine gl_ (some 18) rfl Try.func48 #[.int .i64 (rd l0 x11_1), .int .i64 a1, .int .i64 a2] ?_; (with_reducible refine (impl_in.calls (rd l0 x11_1) a1 a2 false _ A7.out).mono ?_); rintro e w' ⟨rfl, ⟨nd, rfl⟩⟩; refine ⟨_, rfl, ?_⟩))
       go_ret
       exact ⟨by first | rfl | (simp; done) | (simp [*]; done), by repeat (first | exact Drawn0.refl _ | apply Drawn0.step)⟩
     ·rw [if_neg c6] at H
      exact absurd H (by simp)
    ·rw [if_neg c5] at H
     exact absurd H (by simp)
   ·rw [if_neg c4] at H; have c4b0 : decide (x11_1 < (l0.length : Int)) = false := decide_eq_false c4; clear c4; obtain rfl := Option.some.inj H; go_wp2; go_ret
    exact ⟨by first | rfl | (simp; done) | (simp [*]; done), by repeat (first | exact Drawn0.refl _ | apply Drawn0.step)⟩

/-! ### impl_EnvelopeOk: function 55 -/
mutual
def impl_EnvelopeOk.j0 : Nat → Bool → List Int → List Int → List Int → Option (Bool)
 | 0, _, _, _, _ => none
 | k + 1, x31, x254000, x254001, x254002 => if x31 = true then (some false) else (impl_EnvelopeOk.l0 k x254001 (x254001.length : Int) 0 x254000 x254001 x254002)
def impl_EnvelopeOk.l0 : Nat → List Int → Int → Int → List Int → List Int → List Int → Option (Bool)
 | 0, _, _, _, _, _, _ => none
 | k + 1, x33, x34, x35, x254000, x254001, x254002 => if x35 < x34 then (if 0 ≤ x35 then (if x35 < (x33.length : Int) then (if x35 < (x254002.length : Int) then (if (rd x33 x35) > (rd x254002 x35) then (some false) else (impl_EnvelopeOk.l0 k x33 x34 (wrap64 (x35 + 1)) x254000 x254001 x254002)) else (none)) else (none)) else (none)) else ((impl_allIn.f k x254001 (-1000) 1000).bind fun t258 => (if t258 = true then ((impl_allIn.f k x254002 (-1000) 1000).bind fun t259 => (some t259)) else (some false)))
end
def impl_EnvelopeOk.f (k : Nat) (l0_0 : List Int) (l0_1 : List Int) (l0_2 : List Int) : Option (Bool) := (impl_in.f (l0_0.length : Int) 2 10).bind fun t254 => (if t254 = true then (if (l0_1.length : Int) = (l0_0.length : Int) then (if (l0_2.length : Int) = (l0_0.length : Int) then ((impl_ascends.f k l0_0 0 400000).bind fun t255 => (impl_EnvelopeOk.j0 k (!t255) l0_0 l0_1 l0_2)) else (impl_EnvelopeOk.j0 k true l0_0 l0_1 l0_2)) else (impl_EnvelopeOk.j0 k true l0_0 l0_1 l0_2)) else (impl_EnvelopeOk.j0 k true l0_0 l0_1 l0_2))
theorem impl_EnvelopeOk.mono_l : ∀ k, (∀ y0 y1 y2 y3, LeO (impl_EnvelopeOk.j0 k y0 y1 y2 y3) (impl_EnvelopeOk.j0 (k + 1) y0 y1 y2 y3)) ∧ (∀ y0 y1 y2 y3 y4 y5, LeO (impl_EnvelopeOk.l0 k y0 y1 y2 y3 y4 y5) (impl_EnvelopeOk.l0 (k + 1) y0 y1 y2 y3 y4 y5))
 | 0 => ⟨fun _ _ _ _ r h => by simp [impl_EnvelopeOk.j0] at h, fun _ _ _ _ _ _ r h => by simp [impl_EnvelopeOk.l0] at h⟩
 | k + 1 => by
  obtain ⟨ih0, ih1⟩ := impl_EnvelopeOk.mono_l k
  refine ⟨?_, ?_⟩
  ·intro y0 y1 y2 y3
   unfold impl_EnvelopeOk.j0
   repeat' first
   | (with_reducible exact ih0 _ _ _ _)
   | (with_reducible exact ih1 _ _ _ _ _ _)
   | (with_reducible exact impl_allIn.mono _ _ _ _)
   | (with_reducible exact impl_ascends.mono _ _ _ _)
   | (with_reducible exact LeO.refl _)
   | (with_reducible exact LeO.none _)
   | (with_reducible refine LeO.ite ?_ ?_)
   | (with_reducible refine LeO.bind ?_ (fun _ => ?_))
   | exact ih0 _ _ _ _
   | exact ih1 _ _ _ _ _ _
   | exact impl_allIn.mono _ _ _ _
   | exact impl_ascends.mono _ _ _ _
   | exact LeO.none _
   | refine LeO.ite ?_ ?_
   | refine LeO.bind ?_ (fun _ => ?_)
  ·intro y0 y1 y2 y3 y4 y5
   unfold impl_EnvelopeOk.l0
   repeat' first
   | (with_reducible exact ih0 _ _ _ _)
   | (with_reducible exact ih1 _ _ _ _ _ _)
   | (with_reducible exact impl_allIn.mono _ _ _ _)
   | (with_reducible exact impl_ascends.mono _ _ _ _)
   | (with_reducible exact LeO.refl _)
   | (with_reducible exact LeO.none _)
   | (with_reducible refine LeO.ite ?_ ?_)
   | (with_reducible refine LeO.bind ?_ (fun _ => ?_))
   | exact ih0 _ _ _ _
   | exact ih1 _ _ _ _ _ _
   | exact impl_allIn.mono _ _ _ _
   | exact impl_ascends.mono _ _ _ _
   | exact LeO.none _
   | refine LeO.ite ?_ ?_
   | refine LeO.bind ?_ (fun _ => ?_)
theorem impl_EnvelopeOk.mono : ∀ a0 a1 a2 k, LeO (impl_EnvelopeOk.f k a0 a1 a2) (impl_EnvelopeOk.f (k + 1) a0 a1 a2) := by
 intro a0 a1 a2 k
 obtain ⟨ih0, ih1⟩ := impl_EnvelopeOk.mono_l k
 unfold impl_EnvelopeOk.f
 repeat' first
   | (with_reducible exact ih0 _ _ _ _)
   | (with_reducible exact ih1 _ _ _ _ _ _)
   | (with_reducible exact impl_allIn.mono _ _ _ _)
   | (with_reducible exact impl_ascends.mono _ _ _ _)
   | (with_reducible exact LeO.refl _)
   | (with_reducible exact LeO.none _)
   | (with_reducible refine LeO.ite ?_ ?_)
   | (with_reducible refine LeO.bind ?_ (fun _ => ?_))
   | exact ih0 _ _ _ _
   | exact ih1 _ _ _ _ _ _
   | exact impl_allIn.mono _ _ _ _
   | exact impl_ascends.mono _ _ _ _
   | exact LeO.none _
   | refine LeO.ite ?_ ?_
   | refine LeO.bind ?_ (fun _ => ?_)
set_option maxHeartbeats 8000000 in
set_option maxRecDepth 100000 in
theorem impl_EnvelopeOk.calls (k : Nat) (A0_0 : Option Addr) (c0_0 : Nat) (l0_0 : List Int) (A0_1 : Option Addr) (c0_1 : Nat) (l0_1 : List Int) (A0_2 : Option Addr) (c0_2 : Nat) (l0_2 : List Int) (r : Bool) (w : World) (hr0_0 : Kd.C (Kd.int .i64) w A0_0 l0_0.length l0_0) (hc0_0 : l0_0.length ≤ c0_0) (hr0_1 : Kd.C (Kd.int .i64) w A0_1 l0_1.length l0_1) (hc0_1 : l0_1.length ≤ c0_1) (hr0_2 : Kd.C (Kd.int .i64) w A0_2 l0_2.length l0_2) (hc0_2 : l0_2.length ≤ c0_2) (h : impl_EnvelopeOk.f k l0_0 l0_1 l0_2 = some r) :
  Calls Try.prog 55 #[.agg #[.slice A0_0 l0_0.length c0_0, .slice A0_1 l0_1.length c0_1, .slice A0_2 l0_2.length c0_2]] w fun e w' => e = .returned (.bool r) ∧ Below w.heap.size w w' := by
 have hu33 := Try.underlying33
 have HR0_0 := mk_ hr0_0; have HC0_0 := mk_ hc0_0; clear hr0_0 hc0_0; have HR0_1 := mk_ hr0_1; have HC0_1 := mk_ hc0_1; clear hr0_1 hc0_1; have HR0_2 := mk_ hr0_2; have HC0_2 := mk_ hc0_2; clear hr0_2 hc0_2; have HB := mk_ (Below.refl w.heap.size w)
 have H : ((impl_in.f (l0_0.length : Int) 2 10).bind fun t254 => (if t254 = true then (if (l0_1.length : Int) = (l0_0.length : Int) then (if (l0_2.length : Int) = (l0_0.length : Int) then ((impl_ascends.f k l0_0 0 400000).bind fun t255 => (impl_EnvelopeOk.j0 k (!t255) l0_0 l0_1 l0_2)) else (impl_EnvelopeOk.j0 k true l0_0 l0_1 l0_2)) else (impl_EnvelopeOk.j0 k true l0_0 l0_1 l0_2)) else (impl_EnvelopeOk.j0 k true l0_0 l0_1 l0_2))) = some r := h
 clear h; have HC2 := mk_ H; clear H
 go_enter Try.func55, Try.ntmps55
 go_upto_region 2 with (first | ((with_reducible refine gd_ 1 rfl ?_); (try (refine gate_guard (by rfl) ?_; dsimp only)); refine box_event ?hg (N := 1) ?hd (cs := #[.slice A0_0 l0_0.length c0_0, .slice A0_1 l0_1.length c0_1, .slice A0_2 l0_2.length c0_2]) (t := 33) ?hr ?_; (case hd => rfl); (case hg => rfl); (case hr => exact hr_); intro gb253 hg w3 hbox hb; have BK253 := mk_ (hbox); have GW253 := gb_ hg HB; replace HB := bp_ HB hb; have GE253 := GW253; clear hb hbox hg; have hcz4_0 := bc0_ BK253; have hcz4_1 := bc1_ BK253; have hcz4_2 := bc2_ BK253; have hfz4_0 := bf_ BK253 0; have hfz4_1 := bf_ BK253 1; have hfz4_2 := bf_ BK253 2))
 (try simp only [Act.put, List.setIfInBounds_toArray, List.set_cons_zero, List.set_cons_succ])
 go_cut [31] (fun v31 wc => ∃ (kq : Nat) (x31_1 : Bool), v31 = .bool x31_1 ∧ Aside0 (impl_EnvelopeOk.j0 kq x31_1 l0_0 l0_1 l0_2 = some r) ∧ Aside0 (kq ≤ k) ∧ Aside0 (wc.heap[gb253]? = some (.cells #[(.slice A0_0 l0_0.length c0_0), (.slice A0_1 l0_1.length c0_1), (.slice A0_2 l0_2.length c0_2)] 33 (0, 0))) ∧ Aside0 (Below w.heap.size w wc))
 case first =>
  have H := HC2.out; clear HC2; replace H := Option.bind_eq_some_iff.mp H; obtain ⟨t254, A50, H⟩ := H; (try dsimp only at H); have A5 := mk_ A50; clear A50; by_cases c6 : t254 = true
  ·subst c6; rw [if_pos rfl] at H
   by_cases c7 : (l0_1.length : Int) = (l0_0.length : Int)
   ·rw [if_pos c7] at H; have c7b0 : ((l0_1.length : Int) == (l0_0.length : Int)) = true := beq_iff_eq.mpr c7; have c7b1 : ((l0_1.length : Int) != (l0_0.length : Int)) = false := bne_eq_false_iff_eq.mpr c7
    have c7b2 : (l0_1.length == l0_0.length) = true := by first | simpa using c7 | (simp at c7 ⊢; omega)
    clear c7
    (first | rw [c7b0] | (simp only [i64_w, i32_w]; rw [c7b0]) | skip)
    by_cases c8 : (l0_2.length : Int) = (l0_0.length : Int)
    ·rw [if_pos c8] at H; have c8b0 : ((l0_2.length : Int) == (l0_0.length : Int)) = true := beq_iff_eq.mpr c8; have c8b1 : ((l0_2.length : Int) != (l0_0.length : Int)) = false := bne_eq_false_iff_eq.mpr c8
     have c8b2 : (l0_2.length == l0_0.length) = true := by first | simpa using c8 | (simp at c8 ⊢; omega)
     clear c8; replace H := Option.bind_eq_some_iff.mp H; obtain ⟨t255, A90, H⟩ := H; (try dsimp only at H); have A9 := mk_ A90; clear A90
     have H' := mk_ H
     clear H
     go_wp2_with (first | ((with_reducible refine gc_ 48 rfl ?_); refine gl_ (some 10) rfl Try.func48 #[.int .i64 (l0_0.length : Int), .int .i64 2, .int .i64 10] ?_; (with_reducible refine (impl_in.calls (l0_0.length : Int) 2 10 true _ A5.out).mono ?_); rintro e w' ⟨rfl, ⟨nd, rfl⟩⟩; refine ⟨_, rfl, ?_⟩; have hcz10_0 := bc0_ BK253; have hcz10_1 := bc1_ BK253; have hcz10_2 := bc2_ BK253; have hfz10_0 := bf_ BK253 0; have hfz10_1 := bf_ BK253 1; have hfz10_2 := bf_ BK253 2) | (go_at_call 63; (with_reducible refine (impl_ascends.calls k _ _ l0_0 0 400000 t255 _ ?side1 ?side2 A9.out).mono ?_); (case side1 => repeat (first | exact (Kd.C_below HR0_0.out (hw_ HB)) | (with_reducible refine Kd.C_alloc ?_ _) | (with_reducible refine Kd.C_drewN ?_ _) | (with_reducible refine Kd.C_drew ?_))); (case side2 => exact HC0_0.out); rintro e w' ⟨rfl, ⟨nd, rfl⟩⟩))
     go_meet
     case rel => exact ⟨_, (!t255), rf_, H', ⟨by first | omega | exact Nat.le_refl _⟩, bw_ BK253, ⟨hw_ HB⟩⟩
    ·rw [if_neg c8] at H; have c8b0 : ((l0_2.length : Int) == (l0_0.length : Int)) = false := beq_eq_false_iff_ne.mpr c8; have c8b1 : ((l0_2.length : Int) != (l0_0.length : Int)) = true := bne_iff_ne.mpr c8
     have c8b2 : (l0_2.length == l0_0.length) = false := by first | simpa using c8 | (simp at c8 ⊢; omega)
     have H' := mk_ H
     clear H
     go_wp2_with (first | ((with_reducible refine gc_ 48 rfl ?_); refine gl_ (some 10) rfl Try.func48 #[.int .i64 (l0_0.length : Int), .int .i64 2, .int .i64 10] ?_; (with_reducible refine (impl_in.calls (l0_0.length : Int) 2 10 true _ A5.out).mono ?_); rintro e w' ⟨rfl, ⟨nd, rfl⟩⟩; refine ⟨_, rfl, ?_⟩; have hcz11_0 := bc0_ BK253; have hcz11_1 := bc1_ BK253; have hcz11_2 := bc2_ BK253; have hfz11_0 := bf_ BK253 0; have hfz11_1 := bf_ BK253 1; have hfz11_2 := bf_ BK253 2))
     go_meet
     case rel => exact ⟨_, (true), rf_, H', ⟨by first | omega | exact Nat.le_refl _⟩, bw_ BK253, ⟨hw_ HB⟩⟩
   ·rw [if_neg c7] at H; have c7b0 : ((l0_1.length : Int) == (l0_0.length : Int)) = false := beq_eq_false_iff_ne.mpr c7; have c7b1 : ((l0_1.length : Int) != (l0_0.length : Int)) = true := bne_iff_ne.mpr c7
    have c7b2 : (l0_1.length == l0_0.length) = false := by first | simpa using c7 | (simp at c7 ⊢; omega)
    (first | rw [c7b0] | (simp only [i64_w, i32_w]; rw [c7b0]) | skip)
    have H' := mk_ H
    clear H
    go_wp2_with (first | ((with_reducible refine gc_ 48 rfl ?_); refine gl_ (some 10) rfl Try.func48 #[.int .i64 (l0_0.length : Int), .int .i64 2, .int .i64 10] ?_; (with_reducible refine (impl_in.calls (l0_0.length : Int) 2 10 true _ A5.out).mono ?_); rintro e w' ⟨rfl, ⟨nd, rfl⟩⟩; refine ⟨_, rfl, ?_⟩; have hcz12_0 := bc0_ BK253; have hcz12_1 := bc1_ BK253; have hcz12_2 := bc2_ BK253; have hfz12_0 := bf_ BK253 0; have hfz12_1 := bf_ BK253 1; have hfz12_2 := bf_ BK253 2))
    go_meet
    case rel => exact ⟨_, (true), rf_, H', ⟨by first | omega | exact Nat.le_refl _⟩, bw_ BK253, ⟨hw_ HB⟩⟩
  ·replace c6 := Bool.eq_false_iff.mpr c6; subst c6; rw [if_neg (show ¬ (false = true) by decide)] at H
   have H' := mk_ H
   clear H
   go_wp2_with (first | ((with_reducible refine gc_ 48 rfl ?_); refine gl_ (some 10) rfl Try.func48 #[.int .i64 (l0_0.length : Int), .int .i64 2, .int .i64 10] ?_; (with_reducible refine (impl_in.calls (l0_0.length : Int) 2 10 false _ A5.out).mono ?_); rintro e w' ⟨rfl, ⟨nd, rfl⟩⟩; refine ⟨_, rfl, ?_⟩))
   go_meet
   case rel => exact ⟨_, (true), rf_, H', ⟨by first | omega | exact Nat.le_refl _⟩, bw_ BK253, ⟨hw_ HB⟩⟩
 case rest =>
  clear HC2
  obtain ⟨kq, x31_1, rfl, HA, HJ1, BK253, HB⟩ := hcut
  cases kq with
  | zero => exact absurd HA.out (by simp [impl_EnvelopeOk.j0])
  | succ kj1 =>
   have H := HA.out; clear HA
   simp only [impl_EnvelopeOk.j0] at H
   by_cases c13 : x31_1 = true
   ·subst c13; rw [if_pos rfl] at H
    obtain rfl := Option.some.inj H; go_wp2
    go_ret
    exact ⟨re_, hw_ HB⟩
   ·replace c13 := Bool.eq_false_iff.mpr c13; subst c13; rw [if_neg (show ¬ (false = true) by decide)] at H
    have H' := mk_ H
    clear H; have hcz14_0 := bc0_ BK253; have hcz14_1 := bc1_ BK253; have hcz14_2 := bc2_ BK253; have hfz14_0 := bf_ BK253 0; have hfz14_1 := bf_ BK253 1; have hfz14_2 := bf_ BK253 2; go_wp2
    go_loopg [35] kj1 (fun kq v35 w' => ∃ (x35_2 : Int), v35 = .int .i64 x35_2 ∧ Aside0 (impl_EnvelopeOk.l0 kq l0_1 (l0_1.length : Int) x35_2 l0_0 l0_1 l0_2 = some r) ∧ Aside0 (kq ≤ kj1) ∧ Aside0 (w'.heap[gb253]? = some (.cells #[(.slice A0_0 l0_0.length c0_0), (.slice A0_1 l0_1.length c0_1), (.slice A0_2 l0_2.length c0_2)] 33 (0, 0))) ∧ Aside0 (Below w.heap.size w w'))
    case atStart => exact ⟨(0), rf_, H', ⟨Nat.le_refl _⟩, bw_ BK253, ⟨hw_ HB⟩⟩
    case round =>
     clear H'; (try clear c13)
     obtain ⟨x35_2, rfl, HA, HK2, BK253, HB⟩ := hrel
     cases gk with
     | zero => exact absurd HA.out (by simp [impl_EnvelopeOk.l0])
     | succ k2 =>
      have H := HA.out; clear HA
      simp only [impl_EnvelopeOk.l0] at H
      by_cases c15 : x35_2 < (l0_1.length : Int)
      ·rw [if_pos c15] at H; have c15b0 : decide (x35_2 < (l0_1.length : Int)) = true := decide_eq_true c15; clear c15; by_cases c16 : 0 ≤ x35_2
       ·rw [if_pos c16] at H; have c16b0 : decide (0 ≤ x35_2) = true := decide_eq_true c16; clear c16; by_cases c17 : x35_2 < (l0_1.length : Int)
        ·rw [if_pos c17] at H; have c17b0 : decide (x35_2 < (l0_1.length : Int)) = true := decide_eq_true c17; clear c17; by_cases c18 : x35_2 < (l0_2.length : Int)
         ·rw [if_pos c18] at H; have c18b0 : decide (x35_2 < (l0_2.length : Int)) = true := decide_eq_true c18; clear c18; by_cases c19 : (rd l0_1 x35_2) > (rd l0_2 x35_2)
          ·rw [if_pos c19] at H; have c19b0 : decide ((rd l0_2 x35_2) < (rd l0_1 x35_2)) = true := decide_eq_true c19; clear c19; obtain rfl := Option.some.inj H
           have p256 : 0 ≤ (x35_2 : Int) := od_
           have q256 : x35_2 < (l0_1.length : Int) := od_
           obtain ⟨ad256, e256, hx256_0⟩ := Kd.at_int HR0_1.out x35_2 p256 q256; cases e256
           replace hx256_0 := (HB.out.cell (World.block_lt_of_cell? w _ hx256_0)).trans hx256_0
           replace p256 := eq_true p256; replace q256 := eq_true q256; have hcz20_0 := bc0_ BK253; have hcz20_1 := bc1_ BK253; have hcz20_2 := bc2_ BK253; have hfz20_0 := bf_ BK253 0; have hfz20_1 := bf_ BK253 1; have hfz20_2 := bf_ BK253 2
           have p257 : 0 ≤ (x35_2 : Int) := od_
           have q257 : x35_2 < (l0_2.length : Int) := od_
           obtain ⟨ad257, e257, hx257_0⟩ := Kd.at_int HR0_2.out x35_2 p257 q257; cases e257
           replace hx257_0 := (HB.out.cell (World.block_lt_of_cell? w _ hx257_0)).trans hx257_0
           replace p257 := eq_true p257; replace q257 := eq_true q257; go_wp2; go_ret
           exact ⟨re_, hw_ HB⟩
          ·rw [if_neg c19] at H; have c19b0 : decide ((rd l0_2 x35_2) < (rd l0_1 x35_2)) = false := decide_eq_false c19; clear c19
           have H' := mk_ H
           clear H
           have p256 : 0 ≤ (x35_2 : Int) := od_
           have q256 : x35_2 < (l0_1.length : Int) := od_
           obtain ⟨ad256, e256, hx256_0⟩ := Kd.at_int HR0_1.out x35_2 p256 q256; cases e256
           replace hx256_0 := (HB.out.cell (World.block_lt_of_cell? w _ hx256_0)).trans hx256_0
           replace p256 := eq_true p256; replace q256 := eq_true q256; have hcz21_0 := bc0_ BK253; have hcz21_1 := bc1_ BK253; have hcz21_2 := bc2_ BK253; have hfz21_0 := bf_ BK253 0; have hfz21_1 := bf_ BK253 1; have hfz21_2 := bf_ BK253 2
           have p257 : 0 ≤ (x35_2 : Int) := od_
           have q257 : x35_2 < (l0_2.length : Int) := od_
           obtain ⟨ad257, e257, hx257_0⟩ := Kd.at_int HR0_2.out x35_2 p257 q257; cases e257
           replace hx257_0 := (HB.out.cell (World.block_lt_of_cell? w _ hx257_0)).trans hx257_0
           replace p257 := eq_true p257; replace q257 := eq_true q257; go_wp2; go_roundg k2
           case measure => have := HJ1.out; have := HK2.out; omega
           case rel => exact ⟨(wrap64 (x35_2 + 1)), rf_, H', ⟨by have := HJ1.out; have := HK2.out; omega⟩, bw_ BK253, ⟨hw_ HB⟩⟩
         ·rw [if_neg c18] at H
          exact absurd H (by simp)
        ·rw [if_neg c17] at H
         exact absurd H (by simp)
       ·rw [if_neg c16] at H
        exact absurd H (by simp)
      ·rw [if_neg c15] at H; have c15b0 : decide (x35_2 < (l0_1.length : Int)) = false := decide_eq_false c15; clear c15; replace H := Option.bind_eq_some_iff.mp H; obtain ⟨t258, A220, H⟩ := H; (try dsimp only at H); have A22 := mk_ A220; clear A220; by_cases c23 : t258 = true
       ·subst c23; rw [if_pos rfl] at H
        replace H := Option.bind_eq_some_iff.mp H; obtain ⟨t259, A240, H⟩ := H
        (try dsimp only at H); have A24 := mk_ A240; clear A240
        obtain rfl := Option.some.inj H; have hcz25_0 := bc0_ BK253
        have hcz25_1 := bc1_ BK253; have hcz25_2 := bc2_ BK253; have hfz25_0 := bf_ BK253 0; have hfz25_1 := bf_ BK253 1; have hfz25_2 := bf_ BK253 2
        go_wp2_with (first | ((with_reducible refine gc_ 64 rfl ?_); refine gl_ (some 50) rfl Try.func64 #[.slice A0_1 l0_1.length c0_1, .int .i64 (-1000), .int .i64 1000] ?_; (with_reducible refine (impl_allIn.calls k2 _ _ l0_1 (-1000) 1000 true _ ?side1 ?side2 A22.out).mono ?_); (case side1 => exact cw_ (Kd.C_below HR0_1.out HB.out)); (case side2 => exact HC0_1.out); rintro e w' ⟨rfl, ⟨nd, rfl⟩⟩; refine ⟨_, rfl, ?_⟩) | (go_at_call 64; (with_reducible refine (impl_allIn.calls k2 _ _ l0_2 (-1000) 1000 t259 _ ?side1 ?side2 A24.out).mono ?_); (case side1 => repeat (first | exact (Kd.C_below HR0_2.out (hw_ HB)) | (with_reducible refine Kd.C_alloc ?_ _) | (with_reducible refine Kd.C_drewN ?_ _) | (with_reducible refine Kd.C_drew ?_))); (case side2 => exact HC0_2.out); rintro e w' ⟨rfl, ⟨nd, rfl⟩⟩))
        go_ret
        exact ⟨re_, hw_ HB⟩
       ·replace c23 := Bool.eq_false_iff.mpr c23; subst c23; rw [if_neg (show ¬ (false = true) by decide)] at H; obtain rfl := Option.some.inj H; have hcz26_0 := bc0_ BK253; have hcz26_1 := bc1_ BK253; have hcz26_2 := bc2_ BK253; have hfz26_0 := bf_ BK253 0; have hfz26_1 := bf_ BK253 1; have hfz26_2 := bf_ BK253 2
        go_wp2_with (first | ((with_reducible refine gc_ 64 rfl ?_); refine gl_ (some 50) rfl Try.func64 #[.slice A0_1 l0_1.length c0_1, .int .i64 (-1000), .int .i64 1000] ?_; (with_reducible refine (impl_allIn.calls k2 _ _ l0_1 (-1000) 1000 false _ ?side1 ?side2 A22.out).mono ?_); (case side1 => exact cw_ (Kd.C_below HR0_1.out HB.out)); (case side2 => exact HC0_1.out); rintro e w' ⟨rfl, ⟨nd, rfl⟩⟩; refine ⟨_, rfl, ?_⟩))
        go_ret
        exact ⟨re_, hw_ HB⟩

/-! ### impl_ladenOk: function 38 -/
def impl_ladenOk.f (k : Nat) (l0_0 : List Int) (l0_1 : List Int) (l0_2 : List Int) (a1_0 : Int) (a1_1 : Int) (l2 : List (S60)) : Option (Bool) := (impl_EnvelopeOk.f k l0_0 l0_1 l0_2).bind fun t262 => (if t262 = true then ((impl_in.f a1_0 0 400000).bind fun t263 => (if t263 = true then ((impl_in.f a1_1 (-100000000) 100000000).bind fun t264 => (if t264 = true then ((impl_tanksOk.f k l2).bind fun t265 => (some t265)) else (some false))) else (some false))) else (some false))
theorem impl_ladenOk.mono : ∀ a0 a1 a2 a3 a4 a5 k, LeO (impl_ladenOk.f k a0 a1 a2 a3 a4 a5) (impl_ladenOk.f (k + 1) a0 a1 a2 a3 a4 a5) := by
 intro a0 a1 a2 a3 a4 a5 k
 unfold impl_ladenOk.f
 repeat' first
   | (with_reducible exact impl_EnvelopeOk.mono _ _ _ _)
   | (with_reducible exact impl_tanksOk.mono _ _)
   | (with_reducible exact LeO.refl _)
   | (with_reducible exact LeO.none _)
   | (with_reducible refine LeO.ite ?_ ?_)
   | (with_reducible refine LeO.bind ?_ (fun _ => ?_))
   | exact impl_EnvelopeOk.mono _ _ _ _
   | exact impl_tanksOk.mono _ _
   | exact LeO.none _
   | refine LeO.ite ?_ ?_
   | refine LeO.bind ?_ (fun _ => ?_)
set_option maxHeartbeats 8000000 in
set_option maxRecDepth 100000 in
theorem impl_ladenOk.calls (k : Nat) (A0_0 : Option Addr) (c0_0 : Nat) (l0_0 : List Int) (A0_1 : Option Addr) (c0_1 : Nat) (l0_1 : List Int) (A0_2 : Option Addr) (c0_2 : Nat) (l0_2 : List Int) (a1_0 : Int) (a1_1 : Int) (A2 : Option Addr) (c2 : Nat) (l2 : List (S60)) (r : Bool) (w : World) (hr0_0 : Kd.C (Kd.int .i64) w A0_0 l0_0.length l0_0) (hc0_0 : l0_0.length ≤ c0_0) (hr0_1 : Kd.C (Kd.int .i64) w A0_1 l0_1.length l0_1) (hc0_1 : l0_1.length ≤ c0_1) (hr0_2 : Kd.C (Kd.int .i64) w A0_2 l0_2.length l0_2) (hc0_2 : l0_2.length ≤ c0_2) (hr2 : Kd.C k60 w A2 l2.length l2) (hc2 : l2.length ≤ c2) (h : impl_ladenOk.f k l0_0 l0_1 l0_2 a1_0 a1_1 l2 = some r) :
  Calls Try.prog 38 #[.agg #[.slice A0_0 l0_0.length c0_0, .slice A0_1 l0_1.length c0_1, .slice A0_2 l0_2.length c0_2], .agg #[.int .i64 a1_0, .int .i64 a1_1], .slice A2 l2.length c2] w fun e w' => e = .returned (.bool r) ∧ Below w.heap.size w w' := by
 have hu33 := Try.underlying33
 have hu35 := Try.underlying35
 have HR0_0 := mk_ hr0_0; have HC0_0 := mk_ hc0_0; clear hr0_0 hc0_0; have HR0_1 := mk_ hr0_1; have HC0_1 := mk_ hc0_1; clear hr0_1 hc0_1; have HR0_2 := mk_ hr0_2; have HC0_2 := mk_ hc0_2; clear hr0_2 hc0_2; have HR2 := mk_ hr2; have HC2 := mk_ hc2; clear hr2 hc2; have HB := mk_ (Below.refl w.heap.size w)
 have H : ((impl_EnvelopeOk.f k l0_0 l0_1 l0_2).bind fun t262 => (if t262 = true then ((impl_in.f a1_0 0 400000).bind fun t263 => (if t263 = true then ((impl_in.f a1_1 (-100000000) 100000000).bind fun t264 => (if t264 = true then ((impl_tanksOk.f k l2).bind fun t265 => (some t265)) else (some false))) else (some false))) else (some false))) = some r := h
 clear h; replace H := Option.bind_eq_some_iff.mp H; obtain ⟨t262, A40, H⟩ := H; (try dsimp only at H); have A4 := mk_ A40; clear A40; by_cases c5 : t262 = true
 ·subst c5; rw [if_pos rfl] at H
  replace H := Option.bind_eq_some_iff.mp H; obtain ⟨t263, A60, H⟩ := H
  (try dsimp only at H); have A6 := mk_ A60; clear A60
  by_cases c7 : t263 = true
  ·subst c7; rw [if_pos rfl] at H
   replace H := Option.bind_eq_some_iff.mp H; obtain ⟨t264, A80, H⟩ := H
   (try dsimp only at H); have A8 := mk_ A80; clear A80
   by_cases c9 : t264 = true
   ·subst c9; rw [if_pos rfl] at H
    replace H := Option.bind_eq_some_iff.mp H; obtain ⟨t265, A100, H⟩ := H
    (try dsimp only at H); have A10 := mk_ A100; clear A100
    obtain rfl := Option.some.inj H
    go_enter Try.func38, Try.ntmps38
    go_wp2_with (first | ((with_reducible refine gd_ 3 rfl ?_); refine box_event ?hg (N := 3) ?hd (cs := #[.slice A0_0 l0_0.length c0_0, .slice A0_1 l0_1.length c0_1, .slice A0_2 l0_2.length c0_2]) (t := 33) ?hr ?_; (case hd => rfl); (case hg => rfl); (case hr => exact hr_); intro gb260 hg w11 hbox hb; have BK260 := mk_ (hbox); have GW260 := gb_ hg HB; replace HB := bp_ HB hb; have GE260 := GW260; clear hb hbox hg) | ((with_reducible refine gd_ 4 rfl ?_); refine box_event ?hg (N := 4) ?hd (cs := #[.int .i64 a1_0, .int .i64 a1_1]) (t := 35) ?hr ?_; (case hd => rfl); (case hg => rfl); (case hr => exact hr_); intro gb261 hg w12 hbox hb; have BK261 := mk_ (hbox); have GW261 := gb_ hg HB; replace HB := bp_ HB hb; have GE261 := GW261; have NB260_261 := nb_ hg BK260; replace BK260 := bl_ BK260 hb; have NB261_260 := ns_ NB260_261; clear hb hbox hg; have hnb13 := NB260_261.out; have hnc13 := NB261_260.out; have hcz14_0 := bc0_ BK260; have hcz14_1 := bc1_ BK260; have hcz14_2 := bc2_ BK260; have hfz14_0 := bf_ BK260 0; have hfz14_1 := bf_ BK260 1; have hfz14_2 := bf_ BK260 2) | ((with_reducible refine gc_ 55 rfl ?_); refine gl_ (some 8) rfl Try.func55 #[.agg #[.slice A0_0 l0_0.length c0_0, .slice A0_1 l0_1.length c0_1, .slice A0_2 l0_2.length c0_2]] ?_; (with_reducible refine (impl_EnvelopeOk.calls k _ _ l0_0 _ _ l0_1 _ _ l0_2 true _ ?side1 ?side2 ?side3 ?side4 ?side5 ?side6 A4.out).mono ?_); (case side1 => exact cw_ (Kd.C_below HR0_0.out HB.out)); (case side2 => exact HC0_0.out); (case side3 => exact cw_ (Kd.C_below HR0_1.out HB.out)); (case side4 => exact HC0_1.out); (case side5 => exact cw_ (Kd.C_below HR0_2.out HB.out)); (case side6 => exact HC0_2.out); rintro e w15 ⟨rfl, hb⟩; refine ⟨_, rfl, ?_⟩; replace BK260 := bl_ BK260 hb; replace BK261 := bl_ BK261 hb; replace HB := bp_ HB hb; (try clear hb); (try clear hb2); (try clear hk); (try clear hi); have hcz16_0 := bc0_ BK261; have hcz16_1 := bc1_ BK261; have hfz16_0 := bf_ BK261 0; have hfz16_1 := bf_ BK261 1) | (go_at_call 48; (with_reducible refine (impl_in.calls a1_0 0 400000 true _ A6.out).mono ?_); rintro e w' ⟨rfl, ⟨nd, rfl⟩⟩) | (go_at_call 48; (with_reducible refine (impl_in.calls a1_1 (-100000000) 100000000 true _ A8.out).mono ?_); rintro e w' ⟨rfl, ⟨nd, rfl⟩⟩) | (go_at_call 50; (with_reducible refine (impl_tanksOk.calls k _ _ l2 t265 _ ?side1 ?side2 A10.out).mono ?_); (case side1 => repeat (first | exact (Kd.C_below HR2.out (hw_ HB)) | (with_reducible refine Kd.C_alloc ?_ _) | (with_reducible refine Kd.C_drewN ?_ _) | (with_reducible refine Kd.C_drew ?_))); (case side2 => exact HC2.out); rintro e w17 ⟨rfl, hb⟩; replace BK260 := bk_ BK260 hb; replace BK261 := bk_ BK261 hb; replace HB := hk_ HB hb; (try clear hb); (try clear hb2); (try clear hk); (try clear hi)))
    go_ret
    exact ⟨re_, hw_ HB⟩
   ·replace c9 := Bool.eq_false_iff.mpr c9; subst c9; rw [if_neg (show ¬ (false = true) by decide)] at H; obtain rfl := Option.some.inj H
    go_enter Try.func38, Try.ntmps38
    go_wp2_with (first | ((with_reducible refine gd_ 3 rfl ?_); refine box_event ?hg (N := 3) ?hd (cs := #[.slice A0_0 l0_0.length c0_0, .slice A0_1 l0_1.length c0_1, .slice A0_2 l0_2.length c0_2]) (t := 33) ?hr ?_; (case hd => rfl); (case hg => rfl); (case hr => exact hr_); intro gb260 hg w18 hbox hb; have BK260 := mk_ (hbox); have GW260 := gb_ hg HB; replace HB := bp_ HB hb; have GE260 := GW260; clear hb hbox hg) | ((with_reducible refine gd_ 4 rfl ?_); refine box_event ?hg (N := 4) ?hd (cs := #[.int .i64 a1_0, .int .i64 a1_1]) (t := 35) ?hr ?_; (case hd => rfl); (case hg => rfl); (case hr => exact hr_); intro gb261 hg w19 hbox hb; have BK261 := mk_ (hbox); have GW261 := gb_ hg HB; replace HB := bp_ HB hb; have GE261 := GW261; have NB260_261 := nb_ hg BK260; replace BK260 := bl_ BK260 hb; have NB261_260 := ns_ NB260_261; clear hb hbox hg; have hnb20 := NB260_261.out; have hnc20 := NB261_260.out; have hcz21_0 := bc0_ BK260; have hcz21_1 := bc1_ BK260; have hcz21_2 := bc2_ BK260; have hfz21_0 := bf_ BK260 0; have hfz21_1 := bf_ BK260 1; have hfz21_2 := bf_ BK260 2) | ((with_reducible refine gc_ 55 rfl ?_); refine gl_ (some 8) rfl Try.func55 #[.agg #[.slice A0_0 l0_0.length c0_0, .slice A0_1 l0_1.length c0_1, .slice A0_2 l0_2.length c0_2]] ?_; (with_reducible refine (impl_EnvelopeOk.calls k _ _ l0_0 _ _ l0_1 _ _ l0_2 true _ ?side1 ?side2 ?side3 ?side4 ?side5 ?side6 A4.out).mono ?_); (case side1 => exact cw_ (Kd.C_below HR0_0.out HB.out)); (case side2 => exact HC0_0.out); (case side3 => exact cw_ (Kd.C_below HR0_1.out HB.out)); (case side4 => exact HC0_1.out); (case side5 => exact cw_ (Kd.C_below HR0_2.out HB.out)); (case side6 => exact HC0_2.out); rintro e w22 ⟨rfl, hb⟩; refine ⟨_, rfl, ?_⟩; replace BK260 := bl_ BK260 hb; replace BK261 := bl_ BK261 hb; replace HB := bp_ HB hb; (try clear hb); (try clear hb2); (try clear hk); (try clear hi); have hcz23_0 := bc0_ BK261; have hcz23_1 := bc1_ BK261; have hfz23_0 := bf_ BK261 0; have hfz23_1 := bf_ BK261 1) | (go_at_call 48; (with_reducible refine (impl_in.calls a1_0 0 400000 true _ A6.out).mono ?_); rintro e w' ⟨rfl, ⟨nd, rfl⟩⟩) | (go_at_call 48; (with_reducible refine (impl_in.calls a1_1 (-100000000) 100000000 false _ A8.out).mono ?_); rintro e w' ⟨rfl, ⟨nd, rfl⟩⟩))
    go_ret
    exact ⟨re_, hw_ HB⟩
  ·replace c7 := Bool.eq_false_iff.mpr c7; subst c7; rw [if_neg (show ¬ (false = true) by decide)] at H; obtain rfl := Option.some.inj H
   go_enter Try.func38, Try.ntmps38
   go_wp2_with (first | ((with_reducible refine gd_ 3 rfl ?_); refine box_event ?hg (N := 3) ?hd (cs := #[.slice A0_0 l0_0.length c0_0, .slice A0_1 l0_1.length c0_1, .slice A0_2 l0_2.length c0_2]) (t := 33) ?hr ?_; (case hd => rfl); (case hg => rfl); (case hr => exact hr_); intro gb260 hg w24 hbox hb; have BK260 := mk_ (hbox); have GW260 := gb_ hg HB; replace HB := bp_ HB hb; have GE260 := GW260; clear hb hbox hg) | ((with_reducible refine gd_ 4 rfl ?_); refine box_event ?hg (N := 4) ?hd (cs := #[.int .i64 a1_0, .int .i64 a1_1]) (t := 35) ?hr ?_; (case hd => rfl); (case hg => rfl); (case hr => exact hr_); intro gb261 hg w25 hbox hb; have BK261 := mk_ (hbox); have GW261 := gb_ hg HB; replace HB := bp_ HB hb; have GE261 := GW261; have NB260_261 := nb_ hg BK260; replace BK260 := bl_ BK260 hb; have NB261_260 := ns_ NB260_261; clear hb hbox hg; have hnb26 := NB260_261.out; have hnc26 := NB261_260.out; have hcz27_0 := bc0_ BK260; have hcz27_1 := bc1_ BK260; have hcz27_2 := bc2_ BK260; have hfz27_0 := bf_ BK260 0; have hfz27_1 := bf_ BK260 1; have hfz27_2 := bf_ BK260 2) | ((with_reducible refine gc_ 55 rfl ?_); refine gl_ (some 8) rfl Try.func55 #[.agg #[.slice A0_0 l0_0.length c0_0, .slice A0_1 l0_1.length c0_1, .slice A0_2 l0_2.length c0_2]] ?_; (with_reducible refine (impl_EnvelopeOk.calls k _ _ l0_0 _ _ l0_1 _ _ l0_2 true _ ?side1 ?side2 ?side3 ?side4 ?side5 ?side6 A4.out).mono ?_); (case side1 => exact cw_ (Kd.C_below HR0_0.out HB.out)); (case side2 => exact HC0_0.out); (case side3 => exact cw_ (Kd.C_below HR0_1.out HB.out)); (case side4 => exact HC0_1.out); (case side5 => exact cw_ (Kd.C_below HR0_2.out HB.out)); (case side6 => exact HC0_2.out); rintro e w28 ⟨rfl, hb⟩; refine ⟨_, rfl, ?_⟩; replace BK260 := bl_ BK260 hb; replace BK261 := bl_ BK261 hb; replace HB := bp_ HB hb; (try clear hb); (try clear hb2); (try clear hk); (try clear hi); have hcz29_0 := bc0_ BK261; have hcz29_1 := bc1_ BK261; have hfz29_0 := bf_ BK261 0; have hfz29_1 := bf_ BK261 1) | (go_at_call 48; (with_reducible refine (impl_in.calls a1_0 0 400000 false _ A6.out).mono ?_); rintro e w' ⟨rfl, ⟨nd, rfl⟩⟩))
   go_ret
   exact ⟨re_, hw_ HB⟩
 ·replace c5 := Bool.eq_false_iff.mpr c5; subst c5; rw [if_neg (show ¬ (false = true) by decide)] at H; obtain rfl := Option.some.inj H
  go_enter Try.func38, Try.ntmps38
  go_wp2_with (first | ((with_reducible refine gd_ 3 rfl ?_); refine box_event ?hg (N := 3) ?hd (cs := #[.slice A0_0 l0_0.length c0_0, .slice A0_1 l0_1.length c0_1, .slice A0_2 l0_2.length c0_2]) (t := 33) ?hr ?_; (case hd => rfl); (case hg => rfl); (case hr => exact hr_); intro gb260 hg w30 hbox hb; have BK260 := mk_ (hbox); have GW260 := gb_ hg HB; replace HB := bp_ HB hb; have GE260 := GW260; clear hb hbox hg) | ((with_reducible refine gd_ 4 rfl ?_); refine box_event ?hg (N := 4) ?hd (cs := #[.int .i64 a1_0, .int .i64 a1_1]) (t := 35) ?hr ?_; (case hd => rfl); (case hg => rfl); (case hr => exact hr_); intro gb261 hg w31 hbox hb; have BK261 := mk_ (hbox); have GW261 := gb_ hg HB; replace HB := bp_ HB hb; have GE261 := GW261; have NB260_261 := nb_ hg BK260; replace BK260 := bl_ BK260 hb; have NB261_260 := ns_ NB260_261; clear hb hbox hg; have hnb32 := NB260_261.out; have hnc32 := NB261_260.out; have hcz33_0 := bc0_ BK260; have hcz33_1 := bc1_ BK260; have hcz33_2 := bc2_ BK260; have hfz33_0 := bf_ BK260 0; have hfz33_1 := bf_ BK260 1; have hfz33_2 := bf_ BK260 2) | ((with_reducible refine gc_ 55 rfl ?_); refine gl_ (some 8) rfl Try.func55 #[.agg #[.slice A0_0 l0_0.length c0_0, .slice A0_1 l0_1.length c0_1, .slice A0_2 l0_2.length c0_2]] ?_; (with_reducible refine (impl_EnvelopeOk.calls k _ _ l0_0 _ _ l0_1 _ _ l0_2 false _ ?side1 ?side2 ?side3 ?side4 ?side5 ?side6 A4.out).mono ?_); (case side1 => exact cw_ (Kd.C_below HR0_0.out HB.out)); (case side2 => exact HC0_0.out); (case side3 => exact cw_ (Kd.C_below HR0_1.out HB.out)); (case side4 => exact HC0_1.out); (case side5 => exact cw_ (Kd.C_below HR0_2.out HB.out)); (case side6 => exact HC0_2.out); rintro e w34 ⟨rfl, hb⟩; refine ⟨_, rfl, ?_⟩; replace BK260 := bl_ BK260 hb; replace BK261 := bl_ BK261 hb; replace HB := bp_ HB hb; (try clear hb); (try clear hb2); (try clear hk); (try clear hi)))
  go_ret
  exact ⟨re_, hw_ HB⟩

end Go.Proofs.Yteedbciobdcmaaa.QFnExactLeaves
-- squeezed
